/- NameApart, with no program in sight: two names ask for one thing just if they are one name. -/
import Derived.Test.YtmgkgjacnbeboaaDoorZ2
set_option linter.unusedVariables false
set_option linter.unusedSimpArgs false
namespace Go.Proofs.YtmgkgjacnbeboaaDoor.Pure
open Go.RowKit Go.Proofs.YtmgkgjacnbeboaaDoor.Z Go.Proofs.YtmgkgjacnbeboaaDoor.E Go.Proofs.YtmgkgjacnbeboaaDoorW.PrintWords Go.Proofs.YtmgkgjacnbeboaaDoorW.PrintLast
open _root_.Go.Proofs.YtmgkgjacnbeboaaDoor.S (mkB mkB_size mkB_list size_list toList_list)
theorem w0_ : Nm.within 0 = true := by decide
theorem valid_small {a : Nm.Ask} (h : Nm.Valid a) : a.2.1.length ≤ 1000 ∧ a.2.2.1.length ≤ 1000 ∧ Nm.within a.2.2.2.1 = true ∧ Nm.within a.2.2.2.2 = true := by
  cases h with
  | meta_ r v hr hv =>
    refine ⟨?_, by simp, Nm.within_nat hv, w0_⟩
    have := hr
    unfold Nm.nameOk at this
    simp at this
    show r.length ≤ 1000
    omega
  | data_ sum hs => exact ⟨by simp, by show sum.length ≤ 1000; omega, w0_, w0_⟩
  | head => exact ⟨by simp, by simp, w0_, w0_⟩
  | path u v hu hv => exact ⟨by simp, by simp, Nm.within_nat hu, Nm.within_nat hv⟩
  | step u v hu hv => exact ⟨by simp, by simp, Nm.within_nat hu, Nm.within_nat hv⟩
  | leaf u hu => exact ⟨by simp, by simp, Nm.within_nat hu, w0_⟩
theorem ref_of {a : Nm.Ask} (h : Nm.Valid a) : imprimaturref20_Name.f a.1 (mkB a.2.1) (mkB a.2.2.1) a.2.2.2.1 a.2.2.2.2 = some (mkB (Nm.nmS a)) := by
  obtain ⟨h1, h2, h3, h4⟩ := valid_small h
  unfold imprimaturref20_Name.f
  rw [if_pos ⟨by rw [mkB_size]; exact h1, by rw [mkB_size]; exact h2, h3, h4⟩, mkB_list, mkB_list]
theorem parse_of (s : ByteArray) (hs : s.size ≤ 1000) {a : Nm.Ask} {c : Int} (h : Nm.parseN s.data.toList = (a, c)) : name_Parse.f s = some (a.1, mkB a.2.1, mkB a.2.2.1, a.2.2.2.1, a.2.2.2.2, c) := by
  unfold name_Parse.f
  rw [if_pos hs, h]
theorem mn300 (n : Nat) : 0 ≤ mn (n : Int) 300 ∧ mn (n : Int) 300 ≤ (n : Int) ∧ (mn (n : Int) 300).toNat ≤ 300 := by unfold mn; split <;> omega
theorem same_iff (a b : Nm.Ask) : (a.1 == b.1 && ((mkB a.2.1).toList == (mkB b.2.1).toList && ((mkB a.2.2.1).toList == (mkB b.2.2.1).toList && (a.2.2.2.1 == b.2.2.2.1 && (a.2.2.2.2 == b.2.2.2.2))))) = decide (a = b) := by
  obtain ⟨a1, a2, a3, a4, a5⟩ := a
  obtain ⟨b1, b2, b3, b4, b5⟩ := b
  rw [Bool.eq_iff_iff]
  simp only [toList_list, mkB_list, Bool.and_eq_true, beq_iff_eq, decide_eq_true_eq, Prod.mk.injEq]
theorem NameApart : imprimaturlaw20_NameApart.Pure := by
  intro a0 a1 h0 h1
  refine ⟨1, ?_⟩
  obtain ⟨m1, m2, m3⟩ := mn300 a0.size
  obtain ⟨m4, m5, m6⟩ := mn300 a1.size
  have hr : (a0.extract 0 (mn (a0.size : Int) 300).toNat).size ≤ 1000 := by rw [ByteArray.size_extract]; omega
  have hu : (a1.extract 0 (mn (a1.size : Int) 300).toNat).size ≤ 1000 := by rw [ByteArray.size_extract]; omega
  unfold imprimaturlaw20_NameApart.f
  refine (if_pos m1).trans ((if_pos m2).trans ((if_pos m4).trans ((if_pos m5).trans ?_)))
  generalize a0.extract 0 (mn (a0.size : Int) 300).toNat = R at *
  generalize a1.extract 0 (mn (a1.size : Int) 300).toNat = U at *
  have hal : imprimaturlaw20_alive.f = some true := rfl
  rcases Nm.parse_iff R.data.toList with ⟨a, va, na, pa⟩ | ⟨na, pa⟩
  · rw [parse_of R hr pa, Option.bind_some]
    rcases Nm.parse_iff U.data.toList with ⟨b, vb, nb, pb⟩ | ⟨nb, pb⟩
    · rw [parse_of U hu pb, Option.bind_some]
      refine (if_pos rfl).trans ?_
      show imprimaturlaw20_NameApart.j0 1 R U ((0 : Int) != 0) a.1 (mkB a.2.1) (mkB a.2.2.1) a.2.2.2.1 a.2.2.2.2 b.1 (mkB b.2.1) (mkB b.2.2.1) b.2.2.2.1 b.2.2.2.2 = some true
      rw [imprimaturlaw20_NameApart.j0, if_neg (by decide), hal, Option.bind_some, if_pos rfl, same_iff]
      have e : ((R.toList == U.toList) == decide (a = b)) = true := by
        rw [toList_list, toList_list, ← na, ← nb, Bool.eq_iff_iff]
        simp only [beq_iff_eq, iff_true]
        rw [Bool.eq_iff_iff]
        simp only [beq_iff_eq, decide_eq_true_eq]
        exact ⟨fun h => Nm.valid_inj va vb h, fun h => by rw [h]⟩
      rw [if_pos e, ref_of va, Option.bind_some, if_pos (by rw [toList_list, mkB_list, toList_list, na]), ref_of vb, Option.bind_some, toList_list, mkB_list, toList_list, nb]
      simp
    · rw [parse_of U hu pb, Option.bind_some]
      refine (if_pos rfl).trans ?_
      show imprimaturlaw20_NameApart.j0 1 R U ((36 : Int) != 0) _ _ _ _ _ _ _ _ _ _ = some true
      rw [imprimaturlaw20_NameApart.j0, if_pos (by decide), hal, Option.bind_some]
  · rw [parse_of R hr pa, Option.bind_some]
    have hb : ∃ b c, Nm.parseN U.data.toList = (b, c) := ⟨_, _, rfl⟩
    obtain ⟨b, c, pb⟩ := hb
    rw [parse_of U hu pb, Option.bind_some]
    refine (if_neg (by show ¬ (36 : Int) = 0; decide)).trans ?_
    rw [imprimaturlaw20_NameApart.j0, if_pos rfl, hal, Option.bind_some]
end Go.Proofs.YtmgkgjacnbeboaaDoor.Pure
