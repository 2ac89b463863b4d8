import Derived.Test.YtjlmhndfpfgfkaaDoorTk
set_option linter.unusedVariables false
set_option linter.unusedSimpArgs false
namespace Go.Proofs.YtjlmhndfpfgfkaaDoor.E
open Go.RowKit Go.Proofs.YtjlmhndfpfgfkaaDoorW.PrintWords Go.Proofs.YtjlmhndfpfgfkaaDoorW.PrintLast Go.Proofs.YtjlmhndfpfgfkaaDoorW.PrintMore
attribute [local go_sem] max2_int min2_int max_two min_two
open S (mkB be num)
theorem getD_out (l : List Nat) (j : Nat) (h : l.length ≤ j) : l.getD j 0 = 0 := by
  rw [List.getD_eq_getElem?_getD, List.getElem?_eq_none h]; rfl
attribute [local irreducible] Rt.val Rt.D
set_option maxHeartbeats 4000000 in
set_option maxRecDepth 100000 in
theorem above_any (a b : List Nat) (ga gb ca cb : Nat) (w : World) (ha : ∀ j, j < a.length → w.cell? ⟨ga, j, none⟩ = some (.int .u64 (a.getD j 0 : Nat)))
    (hb : ∀ j, j < b.length → w.cell? ⟨gb, j, none⟩ = some (.int .u64 (b.getD j 0 : Nat))) (da : Rt.D a) (db : Rt.D b) (hla : a.length ≤ 100) (hlb : b.length ≤ 100) :
    Calls Tryd.prog 33 #[.slice (some ⟨ga, 0, none⟩) a.length ca, .slice (some ⟨gb, 0, none⟩) b.length cb] w fun e w' => e = .returned (.bool (decide (Rt.val b < Rt.val a))) ∧ w' = w := by
  have HA := Lib.hid ha
  have HB := Lib.hid hb
  have hlt1 := fun i h1 h2 => Rt.above_lt a b da db i h1 h2
  have hlt2 := fun i h1 h2 => Rt.above_lt b a db da i h1 h2
  have HL1 := Lib.hid hlt1
  have HL2 := Lib.hid hlt2
  have HEx : Hid ((∀ j, a.getD j 0 = b.getD j 0) → decide (Rt.val b < Rt.val a) = false) := Lib.hid (fun h => by rw [Rt.val_ext a b h]; simp)
  have HT : Hid (Rt.val b < Rt.val a → decide (Rt.val b < Rt.val a) = true) := Lib.hid (fun h => by simp [h])
  have HF : Hid (Rt.val a < Rt.val b → decide (Rt.val b < Rt.val a) = false) := Lib.hid (fun h => by simp; omega)
  generalize decide (Rt.val b < Rt.val a) = bb at *
  have HDA := Lib.hid da
  have HDB := Lib.hid db
  clear ha hb da db hlt1 hlt2
  go_enter Tryd.func33, Tryd.ntmps33
  go_wp2_with fail
  go_loop [5] (fun i => ∃ q : Nat, q ≤ a.length + b.length ∧ i = .int .i64 ((q : Int) - 1) ∧ Hid (∀ j, q ≤ j → a.getD j 0 = b.getD j 0)) (fun i => (intOf i + 1).toNat)
  case atStart => exact ⟨a.length + b.length, Nat.le_refl _, by simp, Lib.hid (fun j hj => by rw [getD_out a j (by omega), getD_out b j (by omega)])⟩
  case round =>
    obtain ⟨q, hq, rfl, hEq⟩ := hrel
    by_cases h0 : 0 < q
    · obtain ⟨p, rfl⟩ : ∃ p, q = p + 1 := ⟨q - 1, by omega⟩
      rw [show (((p + 1 : Nat) : Int) - 1) = (p : Int) from by omega]
      have hXa : (p < a.length ∧ w.cell? ⟨ga, p, none⟩ = some (.int .u64 (a.getD p 0 : Nat))) ∨ (¬ p < a.length ∧ a.getD p 0 = 0) := by
        by_cases h : p < a.length
        · exact .inl ⟨h, HA.out p h⟩
        · exact .inr ⟨h, getD_out a p (by omega)⟩
      have hYb : (p < b.length ∧ w.cell? ⟨gb, p, none⟩ = some (.int .u64 (b.getD p 0 : Nat))) ∨ (¬ p < b.length ∧ b.getD p 0 = 0) := by
        by_cases h : p < b.length
        · exact .inl ⟨h, HB.out p h⟩
        · exact .inr ⟨h, getD_out b p (by omega)⟩
      have hdx := D_get HDA.out p
      have hdy := D_get HDB.out p
      have L1 := Lib.hid (fun h => HF.out (HL1.out p (fun j hj => hEq.out j hj) h))
      have L2 := Lib.hid (fun h => HT.out (HL2.out p (fun j hj => (hEq.out j hj).symm) h))
      have L3 : Hid (a.getD p 0 = b.getD p 0 → ∀ j, p ≤ j → a.getD j 0 = b.getD j 0) := Lib.hid (fun h j hj => by
        rcases Nat.eq_or_lt_of_le hj with rfl | hj
        · exact h
        · exact hEq.out j hj)
      generalize a.getD p 0 = X at *
      generalize b.getD p 0 = Y at *
      rcases Nat.lt_trichotomy X Y with hXY | hXY | hXY
      · have hL := L1.out hXY
        subst hL
        rcases hXa with ⟨h1, cX⟩ | ⟨h1, rfl⟩ <;> rcases hYb with ⟨h2, cY⟩ | ⟨h2, rfl⟩
        all_goals try omega
        all_goals
          go_wp2_with fail
          go_ret
          refine ⟨?_, rfl⟩
          try rfl
          try (simp; omega)
      · subst hXY
        have hL := Lib.hid (L3.out rfl)
        rcases hXa with ⟨h1, cX⟩ | ⟨h1, rfl⟩ <;> rcases hYb with ⟨h2, cY⟩ | ⟨h2, h3⟩
        all_goals try subst h3
        all_goals
          go_wp2_with fail
          go_round
          case rel => exact ⟨p, by omega, by go_num, hL⟩
          case measure => (simp [intOf] <;> omega)
      · have hL := L2.out hXY
        subst hL
        rcases hXa with ⟨h1, cX⟩ | ⟨h1, rfl⟩ <;> rcases hYb with ⟨h2, cY⟩ | ⟨h2, rfl⟩
        all_goals try omega
        all_goals
          go_wp2_with fail
          go_ret
          refine ⟨?_, rfl⟩
          try rfl
          try (simp; omega)
    · obtain rfl : q = 0 := by omega
      have hL := HEx.out (fun j => hEq.out j (Nat.zero_le _))
      subst hL
      go_wp2_with fail
      go_ret
      exact ⟨rfl, rfl⟩
end Go.Proofs.YtjlmhndfpfgfkaaDoor.E
