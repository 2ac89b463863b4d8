/- NameReads, with no program in sight: what a text asks for is as the reference says. -/
import Derived.Test.YtmgkgjacnbeboaaDoorRr
import Derived.Test.YtmgkgjacnbeboaaDoorH1
import Derived.Test.YtmgkgjacnbeboaaDoorRows
import Derived.Lib.LaidU8T
import Derived.Lib.LaidTab
import Derived.Deep.DeepLaidRun
import Derived.LaidLaws
section
set_option linter.unusedVariables false
set_option linter.unusedSimpArgs false
namespace Go.Proofs.YtmgkgjacnbeboaaDoor.Pure
open Go.RowKit Go.Proofs.YtmgkgjacnbeboaaDoor.R Go.Proofs.YtmgkgjacnbeboaaDoor.E Go.Proofs.YtmgkgjacnbeboaaDoorW.PrintWords Go.Proofs.YtmgkgjacnbeboaaDoorW.PrintLast
open _root_.Go.Proofs.YtmgkgjacnbeboaaDoor.S (mkB mkB_size mkB_list size_list toList_list)
theorem w0_ : Nm.within 0 = true := by decide
theorem valid_small {a : Nm.Ask} (h : Nm.Valid a) : a.2.1.length ≤ 1000 ∧ a.2.2.1.length ≤ 1000 ∧ Nm.within a.2.2.2.1 = true ∧ Nm.within a.2.2.2.2 = true := by
  cases h with
  | meta_ r v hr hv =>
    refine ⟨?_, by simp, Nm.within_nat hv, w0_⟩
    have := hr
    unfold Nm.nameOk at this
    simp at this
    show r.length ≤ 1000
    omega
  | data_ sum hs => exact ⟨by simp, by show sum.length ≤ 1000; omega, w0_, w0_⟩
  | head => exact ⟨by simp, by simp, w0_, w0_⟩
  | path u v hu hv => exact ⟨by simp, by simp, Nm.within_nat hu, Nm.within_nat hv⟩
  | step u v hu hv => exact ⟨by simp, by simp, Nm.within_nat hu, Nm.within_nat hv⟩
  | leaf u hu => exact ⟨by simp, by simp, Nm.within_nat hu, w0_⟩
theorem ref_of {a : Nm.Ask} (h : Nm.Valid a) : imprimaturref20_Name.f a.1 (mkB a.2.1) (mkB a.2.2.1) a.2.2.2.1 a.2.2.2.2 = some (mkB (Nm.nmS a)) := by
  obtain ⟨h1, h2, h3, h4⟩ := valid_small h
  unfold imprimaturref20_Name.f
  rw [if_pos ⟨by rw [mkB_size]; exact h1, by rw [mkB_size]; exact h2, h3, h4⟩, mkB_list, mkB_list]
theorem parse_of (s : ByteArray) (hs : s.size ≤ 1000) {a : Nm.Ask} {c : Int} (h : Nm.parseN s.data.toList = (a, c)) : name_Parse.f s = some (a.1, mkB a.2.1, mkB a.2.2.1, a.2.2.2.1, a.2.2.2.2, c) := by
  unfold name_Parse.f
  rw [if_pos hs, h]
theorem mn300 (n : Nat) : 0 ≤ mn (n : Int) 300 ∧ mn (n : Int) 300 ≤ (n : Int) ∧ (mn (n : Int) 300).toNat ≤ 300 := by unfold mn; split <;> omega
theorem same_iff (a b : Nm.Ask) : (a.1 == b.1 && ((mkB a.2.1).toList == (mkB b.2.1).toList && ((mkB a.2.2.1).toList == (mkB b.2.2.1).toList && (a.2.2.2.1 == b.2.2.2.1 && (a.2.2.2.2 == b.2.2.2.2))))) = decide (a = b) := by
  obtain ⟨a1, a2, a3, a4, a5⟩ := a
  obtain ⟨b1, b2, b3, b4, b5⟩ := b
  rw [Bool.eq_iff_iff]
  simp only [toList_list, mkB_list, Bool.and_eq_true, beq_iff_eq, decide_eq_true_eq, Prod.mk.injEq]
theorem rparse_of (s : ByteArray) (hs : s.size ≤ 1000) {a : Nm.Ask} {c : Bool} (h : Nm.refN s.data.toList = (a, c)) : imprimaturref20_Parse.f s = some (a.1, mkB a.2.1, mkB a.2.2.1, a.2.2.2.1, a.2.2.2.2, c) := by
  unfold imprimaturref20_Parse.f
  rw [if_pos hs, h]
theorem NameReads : imprimaturlaw20_NameReads.Pure := by
  intro a0 h0
  obtain ⟨m1, m2, m3⟩ := mn300 a0.size
  have hr : (a0.extract 0 (mn (a0.size : Int) 300).toNat).size ≤ 1000 := by rw [ByteArray.size_extract]; omega
  unfold imprimaturlaw20_NameReads.f
  refine (if_pos m1).trans ((if_pos m2).trans ?_)
  generalize a0.extract 0 (mn (a0.size : Int) 300).toNat = R at *
  have hal : imprimaturlaw20_alive.f = some true := rfl
  rcases Nm.ref_iff R.data.toList with ⟨a, va, na, ra⟩ | ⟨na, ra⟩
  · rw [rparse_of R hr ra]
    rcases Nm.parse_iff R.data.toList with ⟨b, vb, nb, pb⟩ | ⟨nb, pb⟩
    · have e : b = a := Nm.valid_inj vb va (nb.trans na.symm)
      subst e
      rw [parse_of R hr pb, Option.bind_some, Option.bind_some]
      refine (if_pos rfl).trans ?_
      rw [hal, Option.bind_some]
      refine (if_pos rfl).trans ((if_pos rfl).trans ?_)
      refine (if_pos ((same_iff b b).trans (decide_eq_true rfl))).trans ?_
      show (imprimaturref20_Name.f b.1 (mkB b.2.1) (mkB b.2.2.1) b.2.2.2.1 b.2.2.2.2).bind _ = _
      rw [ref_of vb, Option.bind_some, toList_list, mkB_list, toList_list, nb]
      simp
    · exact absurd na (nb a va)
  · obtain ⟨b, hb⟩ : ∃ b, Nm.refN R.data.toList = (b, false) := ⟨(Nm.refN R.data.toList).1, by rw [← ra]⟩
    rw [rparse_of R hr hb]
    rcases Nm.parse_iff R.data.toList with ⟨c, vc, nc, pc⟩ | ⟨nc, pc⟩
    · exact absurd nc (na c vc)
    · rw [parse_of R hr pc, Option.bind_some, Option.bind_some]
      refine (if_neg (fun h => Bool.noConfusion (show false = true from h))).trans ?_
      rw [hal, Option.bind_some]
      refine (if_pos rfl).trans ((if_pos rfl).trans ?_)
      have e : ((mkB ([] : List UInt8)).toList == ([] : List UInt8)) = true := by rw [toList_list, mkB_list]; rfl
      show some ((0 : Int) == 0 && ((mkB []).toList == [] && ((mkB []).toList == [] && ((0 : Int) == 0 && ((0 : Int) == 0))))) = some true
      rw [e]; rfl
end Go.Proofs.YtmgkgjacnbeboaaDoor.Pure

end
section
section
set_option linter.unusedVariables false
namespace Go.Proofs.YtmgkgjacnbeboaaDoor.E
open Go.RowKit Go.Lib Go.Shelf
def ren8 : Ren := ⟨fun x => x, fun x => if x = 119 then 97 else if x = 138 then 99 else if x = 139 then 100 else x, fun x => x - 3⟩
theorem u8types : U8Types Tryd.prog ren8 := ⟨by kernel_rfl, by kernel_rfl, by kernel_rfl, by kernel_rfl⟩
theorem u8extra : U8Extra Tryd.prog ren8 := ⟨by kernel_rfl, by kernel_rfl, by kernel_rfl, by kernel_rfl, by kernel_rfl, by kernel_rfl, by kernel_rfl⟩
theorem pow_data : (Rows.laid_internal_strconv_uint64pow10 : DataW Unit) = Lib.tabData .u64 Lib.pow10Tab := by kernel_rfl
theorem first_data : (Rows.laid_unicode_utf8_first : DataW Unit) = firstData := by kernel_rfl
theorem accept_data : (Rows.laid_unicode_utf8_acceptRanges : DataW Unit) = acceptData := by kernel_rfl
theorem tabs_of {l : List (String × DataW Unit)} {W : World} (hL : laidMet Tryd.prog l W) (h1 : ("internal/strconv.uint64pow10", Rows.laid_internal_strconv_uint64pow10) ∈ l) (h2 : ("unicode/utf8.first", Rows.laid_unicode_utf8_first) ∈ l) (h3 : ("unicode/utf8.acceptRanges", Rows.laid_unicode_utf8_acceptRanges) ∈ l) : Tabs W := by
  rw [pow_data] at h1
  rw [first_data] at h2
  rw [accept_data] at h3
  refine ⟨?_, utf8Tabs_of_readsT u8types u8extra (Lib.laidMet.reads hL h2) (Lib.laidMet.reads hL h3)⟩
  obtain ⟨g, t, cs, fuel, p, hg, hty, hvar, hd⟩ := Lib.laidMet.reads hL h1
  obtain rfl : 2 = g := Option.some.inj ((show Tryd.prog.globalNamed "internal/strconv.uint64pow10" = some 2 by kernel_rfl).symm.trans hg)
  obtain rfl : 105 = t := Option.some.inj ((show (Tryd.prog.globals[2]?).map (·.type) = some 105 by kernel_rfl).symm.trans hty)
  unfold Lib.TabIs
  rw [hvar, ← Lib.cells_of_tab (n := 20) (e := 84) (by kernel_rfl) (by kernel_rfl) (by kernel_rfl) (by kernel_rfl) hd]
/-- A table's cells, for a witness' world. -/
def litsOf : DataW Unit → List Value
  | .agg l => l.filterMap fun d => match d with | .lit (.int k z) => some (.int k z) | _ => none
  | _ => []
end Go.Proofs.YtmgkgjacnbeboaaDoor.E

end
section
set_option linter.unusedVariables false
namespace Go.Proofs.YtmgkgjacnbeboaaDoor.E
open Go.RowKit Go.Lib Go.Shelf
theorem err_of {l : List (String × DataW Unit)} {W : World} (hL : laidMet Tryd.prog l W) {nm : String} {d : DataW Unit} {n0 : String} {g : Nat} (hm : (nm, DataW.iface n0 d) ∈ l) (hg : Tryd.prog.globalNamed nm = some g) (ht : (Tryd.prog.globals[g]?).map (·.type) = some 62)
    {ms : Array (String × TypeId)} (hi : Tryd.prog.underlying 62 = some (.interface ms)) :
    ∃ ev, W.cell? ⟨g, 0, none⟩ = some ev ∧ (ev = .nilIface ∨ ∃ te pe, ev = .iface te pe) := by
  obtain ⟨g', t, cs, fuel, p, hg', hty, hvar, hd⟩ := Lib.laidMet.reads hL hm
  obtain rfl : g = g' := Option.some.inj (hg.symm.trans hg')
  obtain rfl : 62 = t := Option.some.inj (ht.symm.trans hty)
  obtain ⟨f', u, v, hc, _, _⟩ := iface_of_trod hi hd
  have := World.var?_cell hg hvar 0
  have e : cs[0]? = some (.iface u v) := by
    rw [← Array.getElem?_toList, hc]; rfl
  exact ⟨.iface u v, this.trans e, .inr ⟨u, v, rfl⟩⟩
theorem tabs5_of {l : List (String × DataW Unit)} {W : World} (hL : laidMet Tryd.prog l W) (h1 : ("internal/strconv.uint64pow10", Rows.laid_internal_strconv_uint64pow10) ∈ l) (h2 : ("unicode/utf8.first", Rows.laid_unicode_utf8_first) ∈ l) (h3 : ("unicode/utf8.acceptRanges", Rows.laid_unicode_utf8_acceptRanges) ∈ l)
    (h4 : ("strconv.ErrSyntax", Rows.laid_strconv_ErrSyntax) ∈ l) (h5 : ("strconv.ErrRange", Rows.laid_strconv_ErrRange) ∈ l) : Tabs5 W :=
  ⟨tabs_of hL h1 h2 h3, err_of hL h4 (by kernel_rfl) (by kernel_rfl) Tryd.underlying62, err_of hL h5 (by kernel_rfl) (by kernel_rfl) Tryd.underlying62⟩
end Go.Proofs.YtmgkgjacnbeboaaDoor.E

end
section
set_option linter.unusedVariables false
namespace Go.Proofs.YtmgkgjacnbeboaaDoor.E
open Go.RowKit Go.Lib
theorem reads_laid {w : World} (hL : laidMetH Tryd.prog Rows.nameReadsRow.laid w) (a0 : ByteArray) (w0 : a0.size ≤ 140737488351232) :
    Calls Tryd.prog 4 #[.string a0] w fun e w' => e = .returned (.bool true) ∧ Below w.heap.size w w' :=
  R.imprimaturlaw20_NameReads.walk Pure.NameReads a0 w
    (tabs5_of (l := Rows.nameReadsRow.laid) hL (by simp [Rows.nameReadsRow]) (by simp [Rows.nameReadsRow]) (by simp [Rows.nameReadsRow]) (by simp [Rows.nameReadsRow]) (by simp [Rows.nameReadsRow])) w0
end Go.Proofs.YtmgkgjacnbeboaaDoor.E

end

end
