/- NameMakes, with no program in sight: what Meta, Data and Log tell is what the reference tells. -/
import Derived.Test.YtmgkgjacnbeboaaDoorM2
set_option linter.unusedVariables false
set_option linter.unusedSimpArgs false
namespace Go.Proofs.YtmgkgjacnbeboaaDoor.Pure
open Go.RowKit Go.Proofs.YtmgkgjacnbeboaaDoor.M Go.Proofs.YtmgkgjacnbeboaaDoor.E Go.Proofs.YtmgkgjacnbeboaaDoorW.PrintWords Go.Proofs.YtmgkgjacnbeboaaDoorW.PrintLast
open _root_.Go.Proofs.YtmgkgjacnbeboaaDoor.S (mkB mkB_size mkB_list size_list toList_list)
theorem dec3 : Lib.itoa 3 = [51] := by
  have := Nm.itoa_nat 3
  rw [Lib.decDigits, dif_pos (by omega)] at this
  exact this
theorem alive_true : imprimaturlaw20_alive.f = some true := by
  have hm : Nm.metaN [114, 111, 111, 116] 3 = ([109, 101, 116, 97, 47, 114, 111, 111, 116, 47, 51], 0) := by
    unfold Nm.metaN
    rw [if_pos ⟨by decide, by decide⟩, D.three_, dec3]; rfl
  unfold imprimaturlaw20_alive.f name_Meta.f
  rw [if_pos (show (⟨#[114, 111, 111, 116]⟩ : ByteArray).size < 35184372088832 by decide), Option.bind_some]
  show (if (Nm.metaN [114, 111, 111, 116] 3).2 = 0 then some ((mkB (Nm.metaN [114, 111, 111, 116] 3).1).toList == [109, 101, 116, 97, 47, 114, 111, 111, 116, 47, 51]) else some false) = some true
  rw [hm, if_pos rfl, toList_list, mkB_list]; rfl
theorem within0 : Nm.within 0 = true := by decide
theorem nm_of (k : Int) (r s : ByteArray) (a b : Int) (hr : r.size ≤ 1000) (hs : s.size ≤ 1000) (ha : Nm.within a = true) (hb : Nm.within b = true) :
    imprimaturref20_Name.f k r s a b = some (mkB (Nm.nmS (k, r.data.toList, s.data.toList, a, b))) := by
  unfold imprimaturref20_Name.f
  exact if_pos ⟨hr, hs, ha, hb⟩
theorem logN_no (what : List UInt8) (k n a b : Int) (hk : Nm.kd what = some (k, n)) (h : ¬ (Nm.within a = true ∧ Nm.within b = true ∧ ¬ (n < 1 ∧ a ≠ 0) ∧ ¬ (n < 2 ∧ b ≠ 0))) : Nm.logN what a b = ([], 1) := by
  unfold Nm.logN; rw [hk]; exact if_neg h
theorem logN_none (what : List UInt8) (a b : Int) (hk : Nm.kd what = none) : Nm.logN what a b = ([], 1) := by
  unfold Nm.logN; rw [hk]
theorem e0 : (⟨#[]⟩ : ByteArray).data.toList = [] := rfl
theorem z0 : (⟨#[]⟩ : ByteArray).size ≤ 1000 := by decide
theorem eqS (x y : List UInt8) (h : x = y) : some ((mkB x).toList == (mkB y).toList) = some true := by rw [h]; simp
theorem eqN : some ((mkB []).toList == ([] : List UInt8)) = some true := by rw [toList_list, mkB_list]; rfl
theorem j4_true (k : Nat) (s : ByteArray) (a b : Int) :
    imprimaturlaw20_NameMakes.j4 (k + 1) s a b (mkB (Nm.logN s.data.toList a b).1) (Nm.logN s.data.toList a b).2 (Nm.within a && Nm.within b) = some true := by
  rw [imprimaturlaw20_NameMakes.j4, toList_list s]
  have ks : ∀ l, s.data.toList = l → Nm.kd s.data.toList = Nm.kd l := fun l h => by rw [h]
  by_cases h1 : s.data.toList = [104, 101, 97, 100]
  · have hk : Nm.kd s.data.toList = some (3, 0) := ks _ h1
    rw [if_pos h1]
    by_cases hw : (Nm.within a && Nm.within b) = true
    · obtain ⟨ha, hb⟩ := Bool.and_eq_true_iff.1 hw
      rw [if_pos hw]
      by_cases a0 : a = 0
      · rw [if_pos a0, if_neg (by decide)]
        by_cases b0 : b = 0
        · rw [if_pos b0, Nm.logN_of _ 3 0 a b hk ⟨ha, hb, by omega, by omega⟩, if_pos rfl, nm_of 3 _ _ a b z0 z0 ha hb, Option.bind_some]
          exact eqS _ _ (by rw [h1]; rfl)
        · rw [if_neg b0, logN_no _ 3 0 a b hk (by omega), if_pos rfl, eqN]
      · rw [if_neg a0, if_neg (by decide), logN_no _ 3 0 a b hk (by omega), if_pos rfl, eqN]
    · rw [if_neg hw, if_neg (by decide), logN_no _ 3 0 a b hk (fun h => hw (by rw [h.1, h.2.1]; rfl)), if_pos rfl, eqN]
  · rw [if_neg h1]
    by_cases h2 : s.data.toList = [112, 97, 116, 104]
    · have hk : Nm.kd s.data.toList = some (4, 2) := ks _ h2
      rw [if_pos h2, if_neg (by decide)]
      by_cases hw : (Nm.within a && Nm.within b) = true
      · obtain ⟨ha, hb⟩ := Bool.and_eq_true_iff.1 hw
        rw [if_pos hw, Nm.logN_of _ 4 2 a b hk ⟨ha, hb, by omega, by omega⟩, if_pos rfl, nm_of 4 _ _ a b z0 z0 ha hb, Option.bind_some]
        exact eqS _ _ (by rw [h2]; rfl)
      · rw [if_neg hw, logN_no _ 4 2 a b hk (fun h => hw (by rw [h.1, h.2.1]; rfl)), if_pos rfl, eqN]
    · rw [if_neg h2]
      by_cases h3 : s.data.toList = [115, 116, 101, 112]
      · have hk : Nm.kd s.data.toList = some (5, 2) := ks _ h3
        rw [if_pos h3, if_neg (by decide)]
        by_cases hw : (Nm.within a && Nm.within b) = true
        · obtain ⟨ha, hb⟩ := Bool.and_eq_true_iff.1 hw
          rw [if_pos hw, Nm.logN_of _ 5 2 a b hk ⟨ha, hb, by omega, by omega⟩, if_pos rfl, nm_of 5 _ _ a b z0 z0 ha hb, Option.bind_some]
          exact eqS _ _ (by rw [h3]; rfl)
        · rw [if_neg hw, logN_no _ 5 2 a b hk (fun h => hw (by rw [h.1, h.2.1]; rfl)), if_pos rfl, eqN]
      · rw [if_neg h3]
        by_cases h4 : s.data.toList = [108, 101, 97, 102]
        · have hk : Nm.kd s.data.toList = some (6, 1) := ks _ h4
          rw [if_pos h4]
          by_cases hw : (Nm.within a && Nm.within b) = true
          · obtain ⟨ha, hb⟩ := Bool.and_eq_true_iff.1 hw
            rw [if_pos hw, if_neg (by decide)]
            by_cases b0 : b = 0
            · rw [if_pos b0, Nm.logN_of _ 6 1 a b hk ⟨ha, hb, by omega, by omega⟩, if_pos rfl, nm_of 6 _ _ a b z0 z0 ha hb, Option.bind_some]
              exact eqS _ _ (by rw [h4]; rfl)
            · rw [if_neg b0, logN_no _ 6 1 a b hk (by omega), if_pos rfl, eqN]
          · rw [if_neg hw, if_neg (by decide), logN_no _ 6 1 a b hk (fun h => hw (by rw [h.1, h.2.1]; rfl)), if_pos rfl, eqN]
        · have hk : Nm.kd s.data.toList = none := by
            unfold Nm.kd
            exact (if_neg h1).trans ((if_neg h2).trans ((if_neg h3).trans (if_neg h4)))
          rw [if_neg h4, if_pos rfl, logN_none _ a b hk, if_pos rfl, eqN]
theorem j3_true (k : Nat) (s : ByteArray) (a b : Int) :
    imprimaturlaw20_NameMakes.j3 (k + 2) s a b (mkB (Nm.logN s.data.toList a b).1) (Nm.logN s.data.toList a b).2 (Nm.within a) false = some true := by
  have h := j4_true k s a b
  rw [imprimaturlaw20_NameMakes.j3, if_neg (by decide)]
  cases ha : Nm.within a with
  | false => rw [if_neg (by decide)]; rw [ha] at h; exact h
  | true =>
    rw [if_pos rfl]
    rw [ha, Bool.true_and] at h
    by_cases hb : b ≥ 0
    · rw [if_pos hb]
      have e : Nm.within b = decide (b ≤ 1000000) := by unfold Nm.within; rw [decide_eq_true hb, Bool.true_and]
      rw [e] at h; exact h
    · rw [if_neg hb]
      have e : Nm.within b = false := by unfold Nm.within; rw [decide_eq_false hb, Bool.false_and]
      rw [e] at h; exact h
theorem j2_true (k : Nat) (u s : ByteArray) (a b : Int) (hu : u.size ≤ 40) :
    imprimaturlaw20_NameMakes.j2 (k + 3) u s a b (mkB (Nm.dataN u.data.toList).1) (Nm.dataN u.data.toList).2 (mkB (Nm.logN s.data.toList a b).1) (Nm.logN s.data.toList a b).2 (Nm.within a) false = some true := by
  have h := j3_true k s a b
  rw [imprimaturlaw20_NameMakes.j2, if_neg (by decide)]
  by_cases h3 : (u.size : Int) = 32
  · have e : Nm.dataN u.data.toList = (Lib.join [Nm.DATA, S.hexs u.data.toList] [47], 0) := by unfold Nm.dataN; rw [size_list]; exact if_pos (by omega)
    rw [if_pos h3, e, if_pos rfl, nm_of 2 _ _ 0 0 z0 (by omega) within0 within0, Option.bind_some, if_pos]
    · exact h
    · rfl
  · have e : Nm.dataN u.data.toList = ([], 1) := by unfold Nm.dataN; rw [size_list]; exact if_neg (by omega)
    have e1 : ((mkB []).toList != ([] : List UInt8)) = false := by rw [toList_list, mkB_list]; rfl
    rw [if_neg h3, e, if_pos rfl, e1]
    exact h
theorem j1_true (k : Nat) (r u s : ByteArray) (a b : Int) (hr : r.size ≤ 40) (hu : u.size ≤ 40) :
    imprimaturlaw20_NameMakes.j1 (k + 4) r u s a b (mkB (Nm.metaN r.data.toList a).1) (Nm.metaN r.data.toList a).2 (mkB (Nm.dataN u.data.toList).1) (Nm.dataN u.data.toList).2 (mkB (Nm.logN s.data.toList a b).1) (Nm.logN s.data.toList a b).2 (Nm.within a) (Nm.within a && Nm.nameOk r.data.toList) = some true := by
  have h := j2_true k u s a b hu
  rw [imprimaturlaw20_NameMakes.j1]
  by_cases hw : (Nm.within a && Nm.nameOk r.data.toList) = true
  · obtain ⟨ha, hn⟩ := Bool.and_eq_true_iff.1 hw
    have e : Nm.metaN r.data.toList a = (Lib.join [Nm.META, r.data.toList, Lib.itoa a] [47], 0) := by unfold Nm.metaN; exact if_pos ⟨hn, ha⟩
    rw [if_pos hw, e, if_pos rfl, nm_of 1 _ _ a 0 (by omega) z0 ha within0, Option.bind_some, if_pos]
    · rw [alive_true, Option.bind_some]; exact h
    · rfl
  · have e : Nm.metaN r.data.toList a = ([], 1) := by unfold Nm.metaN; exact if_neg (fun h => hw (by rw [h.1, h.2]; rfl))
    rw [if_neg hw, e, if_pos rfl, if_pos (by rw [toList_list, mkB_list]), alive_true, Option.bind_some]; exact h
theorem j0_true (k : Nat) (r u s : ByteArray) (a b : Int) (hr : r.size ≤ 40) (hu : u.size ≤ 40) :
    imprimaturlaw20_NameMakes.j0 (k + 5) r u s a b (mkB (Nm.metaN r.data.toList a).1) (Nm.metaN r.data.toList a).2 (mkB (Nm.dataN u.data.toList).1) (Nm.dataN u.data.toList).2 (mkB (Nm.logN s.data.toList a b).1) (Nm.logN s.data.toList a b).2 (Nm.within a) = some true := by
  have h := j1_true k r u s a b hr hu
  rw [imprimaturlaw20_NameMakes.j0]
  cases ha : Nm.within a with
  | true =>
    have e : imprimaturref15_Name.f r = some (Nm.nameOk r.data.toList) := by unfold imprimaturref15_Name.f; exact if_pos (by omega)
    rw [if_pos rfl, e, Option.bind_some]; rw [ha, Bool.true_and] at h; exact h
  | false => rw [if_neg (by decide)]; rw [ha, Bool.false_and] at h; exact h
theorem mn_le (n : Nat) : 0 ≤ mn (n : Int) 40 ∧ mn (n : Int) 40 ≤ (n : Int) ∧ (mn (n : Int) 40).toNat ≤ 40 := by unfold mn; split <;> omega
theorem NameMakes : imprimaturlaw20_NameMakes.Pure := by
  intro a0 a1 a2 a3 a4 h0 h1 h2 h3 h4
  refine ⟨5, ?_⟩
  obtain ⟨m1, m2, m3⟩ := mn_le a0.size
  obtain ⟨m4, m5, m6⟩ := mn_le a1.size
  have hr : (a0.extract 0 (mn (a0.size : Int) 40).toNat).size ≤ 40 := by rw [ByteArray.size_extract]; omega
  have hu : (a1.extract 0 (mn (a1.size : Int) 40).toNat).size ≤ 40 := by rw [ByteArray.size_extract]; omega
  unfold imprimaturlaw20_NameMakes.f
  refine (if_pos m1).trans ((if_pos m2).trans ((if_pos m4).trans ((if_pos m5).trans ?_)))
  generalize a0.extract 0 (mn (a0.size : Int) 40).toNat = R at *
  generalize a1.extract 0 (mn (a1.size : Int) 40).toNat = U at *
  have h := j0_true 0 R U a2 a3 a4 hr hu
  have eM : name_Meta.f R a3 = some (mkB (Nm.metaN R.data.toList a3).1, (Nm.metaN R.data.toList a3).2) := by unfold name_Meta.f; exact if_pos (by omega)
  have eD : name_Data.f U = some (mkB (Nm.dataN U.data.toList).1, (Nm.dataN U.data.toList).2) := by unfold name_Data.f; exact if_pos (by omega)
  have eL : name_Log.f a2 a3 a4 = some (mkB (Nm.logN a2.data.toList a3 a4).1, (Nm.logN a2.data.toList a3 a4).2) := by unfold name_Log.f; exact if_pos (by omega)
  rw [eM, Option.bind_some, eD, Option.bind_some, eL, Option.bind_some]
  by_cases ha : a3 ≥ 0
  · rw [if_pos ha]
    have e : Nm.within a3 = decide (a3 ≤ 1000000) := by unfold Nm.within; rw [decide_eq_true ha, Bool.true_and]
    rw [e] at h; exact h
  · rw [if_neg ha]
    have e : Nm.within a3 = false := by unfold Nm.within; rw [decide_eq_false ha, Bool.false_and]
    rw [e] at h; exact h
end Go.Proofs.YtmgkgjacnbeboaaDoor.Pure
