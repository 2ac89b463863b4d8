/- NameLogs, with no program in sight: names of a log are told apart by their numbers. -/
import Derived.Test.YtmgkgjacnbeboaaDoorZ3
set_option linter.unusedVariables false
set_option linter.unusedSimpArgs false
namespace Go.Proofs.YtmgkgjacnbeboaaDoor.Pure
open Go.RowKit Go.Proofs.YtmgkgjacnbeboaaDoor.Z Go.Proofs.YtmgkgjacnbeboaaDoor.E Go.Proofs.YtmgkgjacnbeboaaDoorW.PrintWords Go.Proofs.YtmgkgjacnbeboaaDoorW.PrintLast
open _root_.Go.Proofs.YtmgkgjacnbeboaaDoor.S (mkB mkB_size mkB_list size_list toList_list)
theorem logsN (what : List UInt8) (k n a b : Int) (hk : Nm.kd what = some (k, n)) (h1 : ¬ (n < 1 ∧ a ≠ 0)) (h2 : ¬ (n < 2 ∧ b ≠ 0)) :
    Nm.logN what a b = if (Nm.within a && Nm.within b) = true then (Lib.join ([Nm.LOG, what, Lib.itoa a, Lib.itoa b].take (2 + n).toNat) [47], 0) else ([], 1) := by
  by_cases hw : (Nm.within a && Nm.within b) = true
  · obtain ⟨ha, hb⟩ := Bool.and_eq_true_iff.1 hw
    rw [if_pos hw, Nm.logN_of what k n a b hk ⟨ha, hb, h1, h2⟩]
  · rw [if_neg hw]
    unfold Nm.logN; rw [hk]
    exact if_neg (fun h => hw (by rw [h.1, h.2.1]; rfl))
theorem lparse (s : ByteArray) (hs : s.size ≤ 1000) {a : Nm.Ask} {c : Int} (h : Nm.parseN s.data.toList = (a, c)) : name_Parse.f s = some (a.1, mkB a.2.1, mkB a.2.2.1, a.2.2.2.1, a.2.2.2.2, c) := by
  unfold name_Parse.f
  rw [if_pos hs, h]
theorem name_small (a : Nm.Ask) (u v : Nat) (hu : u ≤ 1000000) (hv : v ≤ 1000000) (h : Nm.parts a = [Nm.LOG, Nm.PATH, Lib.itoa u, Lib.itoa v] ∨ Nm.parts a = [Nm.LOG, Nm.STEP, Lib.itoa u, Lib.itoa v] ∨ Nm.parts a = [Nm.LOG, Nm.LEAF, Lib.itoa u]) : (mkB (Nm.nmS a)).size ≤ 1000 := by
  have h1 := itoa_len u (Nm.within_nat hu)
  have h2 := itoa_len v (Nm.within_nat hv)
  rw [mkB_size]
  unfold Nm.nmS
  rcases h with h | h | h
  · rw [h, D.four_]; simp [Nm.LOG, Nm.PATH]; omega
  · rw [h, D.four_]; simp [Nm.LOG, Nm.STEP]; omega
  · rw [h, D.three_]; simp [Nm.LOG, Nm.LEAF]; omega
theorem NameLogs : imprimaturlaw20_NameLogs.Pure := by
  intro a b h0 h1
  refine ⟨3, ?_⟩
  have hal : imprimaturlaw20_alive.f = some true := rfl
  have eP : name_Log.f (⟨#[112, 97, 116, 104]⟩ : ByteArray) a b = some (mkB (Nm.logN Nm.PATH a b).1, (Nm.logN Nm.PATH a b).2) := by unfold name_Log.f; exact if_pos (by decide)
  have eS : name_Log.f (⟨#[115, 116, 101, 112]⟩ : ByteArray) a b = some (mkB (Nm.logN Nm.STEP a b).1, (Nm.logN Nm.STEP a b).2) := by unfold name_Log.f; exact if_pos (by decide)
  have eL : name_Log.f (⟨#[108, 101, 97, 102]⟩ : ByteArray) a 0 = some (mkB (Nm.logN Nm.LEAF a 0).1, (Nm.logN Nm.LEAF a 0).2) := by unfold name_Log.f; exact if_pos (by decide)
  unfold imprimaturlaw20_NameLogs.f
  rw [eP, Option.bind_some, eS, Option.bind_some, eL, Option.bind_some]
  have key : imprimaturlaw20_NameLogs.j0 3 a b (mkB (Nm.logN Nm.PATH a b).1) (Nm.logN Nm.PATH a b).2 (mkB (Nm.logN Nm.STEP a b).1) (Nm.logN Nm.STEP a b).2 (mkB (Nm.logN Nm.LEAF a 0).1) (Nm.logN Nm.LEAF a 0).2 (Nm.within a) = some true := by
    have hP := logsN Nm.PATH 4 2 a b rfl (by omega) (by omega)
    have hS := logsN Nm.STEP 5 2 a b rfl (by omega) (by omega)
    have hL := logsN Nm.LEAF 6 1 a 0 rfl (by omega) (by omega)
    have hL0 : (Nm.within a && Nm.within 0) = Nm.within a := by rw [show Nm.within 0 = true by decide, Bool.and_true]
    rw [hL0] at hL
    have hB : imprimaturlaw20_NameLogs.j1 2 a b (mkB (Nm.logN Nm.PATH a b).1) (Nm.logN Nm.PATH a b).2 (mkB (Nm.logN Nm.STEP a b).1) (Nm.logN Nm.STEP a b).2 (mkB (Nm.logN Nm.LEAF a 0).1) (Nm.logN Nm.LEAF a 0).2 (Nm.within a) (Nm.within a && Nm.within b) = some true := by
      have p1 : ((Nm.logN Nm.PATH a b).2 == 0) = (Nm.within a && Nm.within b) := by rw [hP]; cases (Nm.within a && Nm.within b) <;> rfl
      have p2 : ((Nm.logN Nm.STEP a b).2 == 0) = (Nm.within a && Nm.within b) := by rw [hS]; cases (Nm.within a && Nm.within b) <;> rfl
      have p3 : ((Nm.logN Nm.LEAF a 0).2 == 0) = Nm.within a := by rw [hL]; cases Nm.within a <;> rfl
      rw [imprimaturlaw20_NameLogs.j1, p1, p2, p3, if_neg (by simp), if_neg (by simp), if_neg (by simp), hal, Option.bind_some, imprimaturlaw20_NameLogs.j2, if_neg (by decide)]
      by_cases hw : (Nm.within a && Nm.within b) = true
      · rw [if_pos hw]
        obtain ⟨ha, hb⟩ := Bool.and_eq_true_iff.1 hw
        obtain ⟨_, u1, u2⟩ := Nm.itoa_in a ha
        obtain ⟨_, v1, v2⟩ := Nm.itoa_in b hb
        generalize a.toNat = u at u1 u2
        generalize b.toNat = v at v1 v2
        subst u2
        subst v2
        have q1 : (Nm.logN Nm.PATH u v).1 = Nm.nmS (4, [], [], (u : Int), (v : Int)) := by rw [hP, if_pos hw]; rfl
        have q2 : (Nm.logN Nm.STEP u v).1 = Nm.nmS (5, [], [], (u : Int), (v : Int)) := by rw [hS, if_pos hw]; rfl
        have q3 : (Nm.logN Nm.LEAF u 0).1 = Nm.nmS (6, [], [], (u : Int), 0) := by rw [hL, if_pos ha]; rfl
        rw [q1, q2, q3]
        have r1 := lparse (mkB (Nm.nmS (4, [], [], (u : Int), (v : Int)))) (name_small (4, [], [], (u : Int), (v : Int)) u v u1 v1 (.inl rfl)) (a := (4, [], [], (u : Int), (v : Int))) (c := 0) (by rw [mkB_list]; exact Nm.parse_valid (.path u v u1 v1))
        have r2 := lparse (mkB (Nm.nmS (5, [], [], (u : Int), (v : Int)))) (name_small (5, [], [], (u : Int), (v : Int)) u v u1 v1 (.inr (.inl rfl))) (a := (5, [], [], (u : Int), (v : Int))) (c := 0) (by rw [mkB_list]; exact Nm.parse_valid (.step u v u1 v1))
        have r3 := lparse (mkB (Nm.nmS (6, [], [], (u : Int), 0))) (name_small (6, [], [], (u : Int), 0) u v u1 v1 (.inr (.inr rfl))) (a := (6, [], [], (u : Int), 0)) (c := 0) (by rw [mkB_list]; exact Nm.parse_valid (.leaf u u1))
        rw [r1, Option.bind_some, r2, Option.bind_some, r3, Option.bind_some]
        simp [toList_list, mkB_list]
      · rw [if_neg hw, hP, if_neg hw, if_pos (by rw [toList_list, mkB_list]), hS, if_neg hw, toList_list, mkB_list]; rfl
    rw [imprimaturlaw20_NameLogs.j0]
    cases ha : Nm.within a with
    | false => rw [if_neg (by decide)]; rw [ha] at hB; exact hB
    | true =>
      rw [if_pos rfl]
      rw [ha, Bool.true_and] at hB
      by_cases hb : b ≥ 0
      · rw [if_pos hb]
        have e : Nm.within b = decide (b ≤ 1000000) := by unfold Nm.within; rw [decide_eq_true hb, Bool.true_and]
        rw [e] at hB; exact hB
      · rw [if_neg hb]
        have e : Nm.within b = false := by unfold Nm.within; rw [decide_eq_false hb, Bool.false_and]
        rw [e] at hB; exact hB
  by_cases ha : a ≥ 0
  · rw [if_pos ha]
    have e : Nm.within a = decide (a ≤ 1000000) := by unfold Nm.within; rw [decide_eq_true ha, Bool.true_and]
    rw [e] at key; exact key
  · rw [if_neg ha]
    have e : Nm.within a = false := by unfold Nm.within; rw [decide_eq_false ha, Bool.false_and]
    rw [e] at key; exact key
end Go.Proofs.YtmgkgjacnbeboaaDoor.Pure
