/- The library's tables, out of a law's condition on laid variables. -/
import Derived.Test.YtmgkgjacnbeboaaDoorH1
import Derived.Test.YtmgkgjacnbeboaaDoorRows
import Derived.Lib.LaidU8T
import Derived.Lib.LaidTab
import Derived.Deep.DeepLaidRun
import Derived.LaidLaws
import Derived.Test.YtmgkgjacnbeboaaDoorPureNameLogs
section
set_option linter.unusedVariables false
namespace Go.Proofs.YtmgkgjacnbeboaaDoor.E
open Go.RowKit Go.Lib Go.Shelf
def ren8 : Ren := ⟨fun x => x, fun x => if x = 119 then 97 else if x = 138 then 99 else if x = 139 then 100 else x, fun x => x - 3⟩
theorem u8types : U8Types Tryd.prog ren8 := ⟨by kernel_rfl, by kernel_rfl, by kernel_rfl, by kernel_rfl⟩
theorem u8extra : U8Extra Tryd.prog ren8 := ⟨by kernel_rfl, by kernel_rfl, by kernel_rfl, by kernel_rfl, by kernel_rfl, by kernel_rfl, by kernel_rfl⟩
theorem pow_data : (Rows.laid_internal_strconv_uint64pow10 : DataW Unit) = Lib.tabData .u64 Lib.pow10Tab := by kernel_rfl
theorem first_data : (Rows.laid_unicode_utf8_first : DataW Unit) = firstData := by kernel_rfl
theorem accept_data : (Rows.laid_unicode_utf8_acceptRanges : DataW Unit) = acceptData := by kernel_rfl
theorem tabs_of {l : List (String × DataW Unit)} {W : World} (hL : laidMet Tryd.prog l W) (h1 : ("internal/strconv.uint64pow10", Rows.laid_internal_strconv_uint64pow10) ∈ l) (h2 : ("unicode/utf8.first", Rows.laid_unicode_utf8_first) ∈ l) (h3 : ("unicode/utf8.acceptRanges", Rows.laid_unicode_utf8_acceptRanges) ∈ l) : Tabs W := by
  rw [pow_data] at h1
  rw [first_data] at h2
  rw [accept_data] at h3
  refine ⟨?_, utf8Tabs_of_readsT u8types u8extra (Lib.laidMet.reads hL h2) (Lib.laidMet.reads hL h3)⟩
  obtain ⟨g, t, cs, fuel, p, hg, hty, hvar, hd⟩ := Lib.laidMet.reads hL h1
  obtain rfl : 2 = g := Option.some.inj ((show Tryd.prog.globalNamed "internal/strconv.uint64pow10" = some 2 by kernel_rfl).symm.trans hg)
  obtain rfl : 105 = t := Option.some.inj ((show (Tryd.prog.globals[2]?).map (·.type) = some 105 by kernel_rfl).symm.trans hty)
  unfold Lib.TabIs
  rw [hvar, ← Lib.cells_of_tab (n := 20) (e := 84) (by kernel_rfl) (by kernel_rfl) (by kernel_rfl) (by kernel_rfl) hd]
/-- A table's cells, for a witness' world. -/
def litsOf : DataW Unit → List Value
  | .agg l => l.filterMap fun d => match d with | .lit (.int k z) => some (.int k z) | _ => none
  | _ => []
end Go.Proofs.YtmgkgjacnbeboaaDoor.E

end
section
set_option linter.unusedVariables false
namespace Go.Proofs.YtmgkgjacnbeboaaDoor.E
open Go.RowKit Go.Lib Go.Shelf
theorem err_of {l : List (String × DataW Unit)} {W : World} (hL : laidMet Tryd.prog l W) {nm : String} {d : DataW Unit} {n0 : String} {g : Nat} (hm : (nm, DataW.iface n0 d) ∈ l) (hg : Tryd.prog.globalNamed nm = some g) (ht : (Tryd.prog.globals[g]?).map (·.type) = some 62)
    {ms : Array (String × TypeId)} (hi : Tryd.prog.underlying 62 = some (.interface ms)) :
    ∃ ev, W.cell? ⟨g, 0, none⟩ = some ev ∧ (ev = .nilIface ∨ ∃ te pe, ev = .iface te pe) := by
  obtain ⟨g', t, cs, fuel, p, hg', hty, hvar, hd⟩ := Lib.laidMet.reads hL hm
  obtain rfl : g = g' := Option.some.inj (hg.symm.trans hg')
  obtain rfl : 62 = t := Option.some.inj (ht.symm.trans hty)
  obtain ⟨f', u, v, hc, _, _⟩ := iface_of_trod hi hd
  have := World.var?_cell hg hvar 0
  have e : cs[0]? = some (.iface u v) := by
    rw [← Array.getElem?_toList, hc]; rfl
  exact ⟨.iface u v, this.trans e, .inr ⟨u, v, rfl⟩⟩
theorem tabs5_of {l : List (String × DataW Unit)} {W : World} (hL : laidMet Tryd.prog l W) (h1 : ("internal/strconv.uint64pow10", Rows.laid_internal_strconv_uint64pow10) ∈ l) (h2 : ("unicode/utf8.first", Rows.laid_unicode_utf8_first) ∈ l) (h3 : ("unicode/utf8.acceptRanges", Rows.laid_unicode_utf8_acceptRanges) ∈ l)
    (h4 : ("strconv.ErrSyntax", Rows.laid_strconv_ErrSyntax) ∈ l) (h5 : ("strconv.ErrRange", Rows.laid_strconv_ErrRange) ∈ l) : Tabs5 W :=
  ⟨tabs_of hL h1 h2 h3, err_of hL h4 (by kernel_rfl) (by kernel_rfl) Tryd.underlying62, err_of hL h5 (by kernel_rfl) (by kernel_rfl) Tryd.underlying62⟩
end Go.Proofs.YtmgkgjacnbeboaaDoor.E

end
section
set_option linter.unusedVariables false
namespace Go.Proofs.YtmgkgjacnbeboaaDoor.E
open Go.RowKit Go.Lib
theorem logs_laid {w : World} (hL : laidMetH Tryd.prog Rows.nameLogsRow.laid w) (a0 : Int) (w0 : (Lit.int .i64 a0).wf = true) (a1 : Int) (w1 : (Lit.int .i64 a1).wf = true) :
    Calls Tryd.prog 6 #[.int .i64 a0, .int .i64 a1] w fun e w' => e = .returned (.bool true) ∧ Below w.heap.size w w' :=
  Z.imprimaturlaw20_NameLogs.walk Pure.NameLogs a0 a1 w
    (tabs5_of (l := Rows.nameLogsRow.laid) hL (by simp [Rows.nameLogsRow]) (by simp [Rows.nameLogsRow]) (by simp [Rows.nameLogsRow]) (by simp [Rows.nameLogsRow]) (by simp [Rows.nameLogsRow])) w0 w1
end Go.Proofs.YtmgkgjacnbeboaaDoor.E

end
