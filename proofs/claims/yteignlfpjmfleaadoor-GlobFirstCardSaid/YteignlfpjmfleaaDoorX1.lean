-- Written by a program of this session (wip/tools/xprint.py).
import Derived.Test.YteignlfpjmfleaaDoorX0
import Derived.Test.YteignlfpjmfleaaDoorE
namespace Go.Proofs.YteignlfpjmfleaaDoor.X
open Go.RowKit Go.Proofs.YteignlfpjmfleaaDoorW.PrintWords Go.Proofs.YteignlfpjmfleaaDoorW.PrintLast Go.Proofs.YteignlfpjmfleaaDoorW.PrintMore
open Go.Proofs.YteignlfpjmfleaaDoor.E
attribute [local go_sem] max2_int min2_int max_two min_two max_three min_three max_four min_four   -- for this text's walks alone
set_option linter.unusedVariables false
set_option linter.unusedSimpArgs false

/-! ### imprimaturref13_byt: function 21 -/
def imprimaturref13_byt.j0 : Nat → Int → Bool → Option (Bool)
  | 0, _, _ => none
  | k + 1, x0, x13 => if x13 = true then (some true) else (if x0 ≥ 97 then (if x0 ≤ 122 then (some true) else (if x0 ≥ 65 then (if x0 ≤ 90 then (some true) else (if x0 ≥ 48 then (if x0 ≤ 57 then (some true) else (if x0 = 46 then (some true) else (if x0 = 47 then (some true) else (if x0 = 95 then (some true) else (some (x0 == 45)))))) else (if x0 = 46 then (some true) else (if x0 = 47 then (some true) else (if x0 = 95 then (some true) else (some (x0 == 45))))))) else (if x0 ≥ 48 then (if x0 ≤ 57 then (some true) else (if x0 = 46 then (some true) else (if x0 = 47 then (some true) else (if x0 = 95 then (some true) else (some (x0 == 45)))))) else (if x0 = 46 then (some true) else (if x0 = 47 then (some true) else (if x0 = 95 then (some true) else (some (x0 == 45)))))))) else (if x0 ≥ 65 then (if x0 ≤ 90 then (some true) else (if x0 ≥ 48 then (if x0 ≤ 57 then (some true) else (if x0 = 46 then (some true) else (if x0 = 47 then (some true) else (if x0 = 95 then (some true) else (some (x0 == 45)))))) else (if x0 = 46 then (some true) else (if x0 = 47 then (some true) else (if x0 = 95 then (some true) else (some (x0 == 45))))))) else (if x0 ≥ 48 then (if x0 ≤ 57 then (some true) else (if x0 = 46 then (some true) else (if x0 = 47 then (some true) else (if x0 = 95 then (some true) else (some (x0 == 45)))))) else (if x0 = 46 then (some true) else (if x0 = 47 then (some true) else (if x0 = 95 then (some true) else (some (x0 == 45))))))))
def imprimaturref13_byt.f (k : Nat) (a0 : Int) (a1 : Bool) : Option (Bool) := if a1 = true then (if a0 = 42 then (imprimaturref13_byt.j0 k a0 true) else (imprimaturref13_byt.j0 k a0 (a0 == 63))) else (imprimaturref13_byt.j0 k a0 false)
theorem imprimaturref13_byt.mono_l : ∀ k, (∀ y0 y1, LeO (imprimaturref13_byt.j0 k y0 y1) (imprimaturref13_byt.j0 (k + 1) y0 y1))
  | 0 => fun _ _ r h => by simp [imprimaturref13_byt.j0] at h
  | k + 1 => by
    have ih0 := imprimaturref13_byt.mono_l k
    · intro y0 y1
      unfold imprimaturref13_byt.j0
      repeat' first
      | (with_reducible exact ih0 _ _)
      | (with_reducible exact LeO.refl _)
      | (with_reducible exact LeO.none _)
      | (with_reducible refine LeO.ite ?_ ?_)
      | (with_reducible refine LeO.bind ?_ (fun _ => ?_))
      | exact ih0 _ _
      | exact LeO.none _
      | refine LeO.ite ?_ ?_
      | refine LeO.bind ?_ (fun _ => ?_)
theorem imprimaturref13_byt.mono : ∀ a0 a1 k, LeO (imprimaturref13_byt.f k a0 a1) (imprimaturref13_byt.f (k + 1) a0 a1) := by
  intro a0 a1 k
  have ih0 := imprimaturref13_byt.mono_l k
  unfold imprimaturref13_byt.f
  repeat' first
      | (with_reducible exact ih0 _ _)
      | (with_reducible exact LeO.refl _)
      | (with_reducible exact LeO.none _)
      | (with_reducible refine LeO.ite ?_ ?_)
      | (with_reducible refine LeO.bind ?_ (fun _ => ?_))
      | exact ih0 _ _
      | exact LeO.none _
      | refine LeO.ite ?_ ?_
      | refine LeO.bind ?_ (fun _ => ?_)
set_option maxHeartbeats 8000000 in
set_option maxRecDepth 100000 in
theorem imprimaturref13_byt.calls (k : Nat) (a0 : Int) (a1 : Bool) (r : Bool) (w : World) (h : imprimaturref13_byt.f k a0 a1 = some r) :
    Calls Tryd.prog 21 #[.int .u8 a0, .bool a1] w fun e w' => e = .returned (.bool r) ∧ Drawn0 w w' := by
  have H : (if a1 = true then (if a0 = 42 then (imprimaturref13_byt.j0 k a0 true) else (imprimaturref13_byt.j0 k a0 (a0 == 63))) else (imprimaturref13_byt.j0 k a0 false)) = some r := h
  clear h
  have HC3 := Aside0.mk H
  clear H
  go_enter Tryd.func21, Tryd.ntmps21
  go_upto_region 1 with (fail)
  go_cut [13] (fun v13 wc => ∃ (kq : Nat) (x13_2 : Bool), v13 = .bool x13_2 ∧ Aside0 (imprimaturref13_byt.j0 kq a0 x13_2 = some r) ∧ Aside0 (kq ≤ k) ∧ Drawn0 w wc)
  case first =>
    have H := HC3.out
    clear HC3
    by_cases c4 : a1 = true
    · subst c4
      have H1 : (if a0 = 42 then (imprimaturref13_byt.j0 k a0 true) else (imprimaturref13_byt.j0 k a0 (a0 == 63))) = some r := by rw [if_pos rfl] at H; exact H
      clear H
      have H := H1
      clear H1
      by_cases c5 : a0 = 42
      · rw [if_pos c5] at H
        have c5b0 : (a0 == 42) = true := beq_iff_eq.mpr c5
        have c5b1 : (a0 != 42) = false := bne_eq_false_iff_eq.mpr c5
        clear c5
        (first | rw [c5b0] | (simp only [i64_w, i32_w]; rw [c5b0]) | skip)
        have H' := Aside0.mk H
        clear H
        go_wp2
        go_meet
        case rel => exact ⟨_, (true), (by first | rfl | (simp; done) | (simp [*]; done)), H', ⟨by first | omega | exact Nat.le_refl _⟩, by repeat (first | exact Drawn0.refl _ | apply Drawn0.step)⟩
      · rw [if_neg c5] at H
        have c5b0 : (a0 == 42) = false := beq_eq_false_iff_ne.mpr c5
        have c5b1 : (a0 != 42) = true := bne_iff_ne.mpr c5
        (first | rw [c5b0] | (simp only [i64_w, i32_w]; rw [c5b0]) | skip)
        have H' := Aside0.mk H
        clear H
        go_wp2
        go_meet
        case rel => exact ⟨_, ((a0 == 63)), (by first | rfl | (simp; done) | (simp [*]; done)), H', ⟨by first | omega | exact Nat.le_refl _⟩, by repeat (first | exact Drawn0.refl _ | apply Drawn0.step)⟩
    · replace c4 := Bool.eq_false_iff.mpr c4
      subst c4
      have H1 : (imprimaturref13_byt.j0 k a0 false) = some r := by rw [if_neg (show ¬ (false = true) by decide)] at H; exact H
      clear H
      have H := H1
      clear H1
      have H' := Aside0.mk H
      clear H
      go_wp2
      go_meet
      case rel => exact ⟨_, (false), (by first | rfl | (simp; done) | (simp [*]; done)), H', ⟨by first | omega | exact Nat.le_refl _⟩, by repeat (first | exact Drawn0.refl _ | apply Drawn0.step)⟩
  case rest =>
    clear HC3
    try clear c2
    try clear p2
    try clear c4
    try clear c5
    try clear c5b0
    try clear c5b1
    obtain ⟨kq, x13_2, rfl, HA, HJ2, ⟨mc2, rfl⟩⟩ := hcut
    cases kq with
    | zero => exact absurd HA.out (by simp [imprimaturref13_byt.j0])
    | succ kj2 =>
      have H := HA.out
      clear HA
      simp only [imprimaturref13_byt.j0] at H
      by_cases c6 : x13_2 = true
      · subst c6
        have H1 : (some true) = some r := by rw [if_pos rfl] at H; exact H
        clear H
        have H := H1
        clear H1
        obtain rfl := Option.some.inj H
        go_wp2
        go_ret
        exact ⟨by first | rfl | (simp; done) | (simp [*]; done), by repeat (first | exact Drawn0.refl _ | apply Drawn0.step)⟩
      · replace c6 := Bool.eq_false_iff.mpr c6
        subst c6
        have H1 : (if a0 ≥ 97 then (if a0 ≤ 122 then (some true) else (if a0 ≥ 65 then (if a0 ≤ 90 then (some true) else (if a0 ≥ 48 then (if a0 ≤ 57 then (some true) else (if a0 = 46 then (some true) else (if a0 = 47 then (some true) else (if a0 = 95 then (some true) else (some (a0 == 45)))))) else (if a0 = 46 then (some true) else (if a0 = 47 then (some true) else (if a0 = 95 then (some true) else (some (a0 == 45))))))) else (if a0 ≥ 48 then (if a0 ≤ 57 then (some true) else (if a0 = 46 then (some true) else (if a0 = 47 then (some true) else (if a0 = 95 then (some true) else (some (a0 == 45)))))) else (if a0 = 46 then (some true) else (if a0 = 47 then (some true) else (if a0 = 95 then (some true) else (some (a0 == 45)))))))) else (if a0 ≥ 65 then (if a0 ≤ 90 then (some true) else (if a0 ≥ 48 then (if a0 ≤ 57 then (some true) else (if a0 = 46 then (some true) else (if a0 = 47 then (some true) else (if a0 = 95 then (some true) else (some (a0 == 45)))))) else (if a0 = 46 then (some true) else (if a0 = 47 then (some true) else (if a0 = 95 then (some true) else (some (a0 == 45))))))) else (if a0 ≥ 48 then (if a0 ≤ 57 then (some true) else (if a0 = 46 then (some true) else (if a0 = 47 then (some true) else (if a0 = 95 then (some true) else (some (a0 == 45)))))) else (if a0 = 46 then (some true) else (if a0 = 47 then (some true) else (if a0 = 95 then (some true) else (some (a0 == 45)))))))) = some r := by rw [if_neg (show ¬ (false = true) by decide)] at H; exact H
        clear H
        have H := H1
        clear H1
        by_cases c7 : a0 ≥ 97
        · rw [if_pos c7] at H
          have c7b0 : decide (97 ≤ a0) = true := decide_eq_true c7
          clear c7
          by_cases c8 : a0 ≤ 122
          · rw [if_pos c8] at H
            have c8b0 : decide (a0 ≤ 122) = true := decide_eq_true c8
            clear c8
            obtain rfl := Option.some.inj H
            go_wp2
            go_ret
            exact ⟨by first | rfl | (simp; done) | (simp [*]; done), by repeat (first | exact Drawn0.refl _ | apply Drawn0.step)⟩
          · rw [if_neg c8] at H
            have c8b0 : decide (a0 ≤ 122) = false := decide_eq_false c8
            clear c8
            by_cases c9 : a0 ≥ 65
            · rw [if_pos c9] at H
              have c9b0 : decide (65 ≤ a0) = true := decide_eq_true c9
              clear c9
              by_cases c10 : a0 ≤ 90
              · rw [if_pos c10] at H
                have c10b0 : decide (a0 ≤ 90) = true := decide_eq_true c10
                clear c10
                obtain rfl := Option.some.inj H
                go_wp2
                go_ret
                exact ⟨by first | rfl | (simp; done) | (simp [*]; done), by repeat (first | exact Drawn0.refl _ | apply Drawn0.step)⟩
              · rw [if_neg c10] at H
                have c10b0 : decide (a0 ≤ 90) = false := decide_eq_false c10
                clear c10
                by_cases c11 : a0 ≥ 48
                · rw [if_pos c11] at H
                  have c11b0 : decide (48 ≤ a0) = true := decide_eq_true c11
                  clear c11
                  by_cases c12 : a0 ≤ 57
                  · rw [if_pos c12] at H
                    have c12b0 : decide (a0 ≤ 57) = true := decide_eq_true c12
                    clear c12
                    obtain rfl := Option.some.inj H
                    go_wp2
                    go_ret
                    exact ⟨by first | rfl | (simp; done) | (simp [*]; done), by repeat (first | exact Drawn0.refl _ | apply Drawn0.step)⟩
                  · rw [if_neg c12] at H
                    have c12b0 : decide (a0 ≤ 57) = false := decide_eq_false c12
                    clear c12
                    by_cases c13 : a0 = 46
                    · rw [if_pos c13] at H
                      have c13b0 : (a0 == 46) = true := beq_iff_eq.mpr c13
                      have c13b1 : (a0 != 46) = false := bne_eq_false_iff_eq.mpr c13
                      clear c13
                      obtain rfl := Option.some.inj H
                      go_wp2
                      go_ret
                      exact ⟨by first | rfl | (simp; done) | (simp [*]; done), by repeat (first | exact Drawn0.refl _ | apply Drawn0.step)⟩
                    · rw [if_neg c13] at H
                      have c13b0 : (a0 == 46) = false := beq_eq_false_iff_ne.mpr c13
                      have c13b1 : (a0 != 46) = true := bne_iff_ne.mpr c13
                      by_cases c14 : a0 = 47
                      · rw [if_pos c14] at H
                        have c14b0 : (a0 == 47) = true := beq_iff_eq.mpr c14
                        have c14b1 : (a0 != 47) = false := bne_eq_false_iff_eq.mpr c14
                        clear c14
                        obtain rfl := Option.some.inj H
                        go_wp2
                        go_ret
                        exact ⟨by first | rfl | (simp; done) | (simp [*]; done), by repeat (first | exact Drawn0.refl _ | apply Drawn0.step)⟩
                      · rw [if_neg c14] at H
                        have c14b0 : (a0 == 47) = false := beq_eq_false_iff_ne.mpr c14
                        have c14b1 : (a0 != 47) = true := bne_iff_ne.mpr c14
                        by_cases c15 : a0 = 95
                        · rw [if_pos c15] at H
                          have c15b0 : (a0 == 95) = true := beq_iff_eq.mpr c15
                          have c15b1 : (a0 != 95) = false := bne_eq_false_iff_eq.mpr c15
                          clear c15
                          obtain rfl := Option.some.inj H
                          go_wp2
                          go_ret
                          exact ⟨by first | rfl | (simp; done) | (simp [*]; done), by repeat (first | exact Drawn0.refl _ | apply Drawn0.step)⟩
                        · rw [if_neg c15] at H
                          have c15b0 : (a0 == 95) = false := beq_eq_false_iff_ne.mpr c15
                          have c15b1 : (a0 != 95) = true := bne_iff_ne.mpr c15
                          obtain rfl := Option.some.inj H
                          go_wp2
                          go_ret
                          exact ⟨by first | rfl | (simp; done) | (simp [*]; done), by repeat (first | exact Drawn0.refl _ | apply Drawn0.step)⟩
                · rw [if_neg c11] at H
                  have c11b0 : decide (48 ≤ a0) = false := decide_eq_false c11
                  clear c11
                  by_cases c16 : a0 = 46
                  · rw [if_pos c16] at H
                    have c16b0 : (a0 == 46) = true := beq_iff_eq.mpr c16
                    have c16b1 : (a0 != 46) = false := bne_eq_false_iff_eq.mpr c16
                    clear c16
                    obtain rfl := Option.some.inj H
                    go_wp2
                    go_ret
                    exact ⟨by first | rfl | (simp; done) | (simp [*]; done), by repeat (first | exact Drawn0.refl _ | apply Drawn0.step)⟩
                  · rw [if_neg c16] at H
                    have c16b0 : (a0 == 46) = false := beq_eq_false_iff_ne.mpr c16
                    have c16b1 : (a0 != 46) = true := bne_iff_ne.mpr c16
                    by_cases c17 : a0 = 47
                    · rw [if_pos c17] at H
                      have c17b0 : (a0 == 47) = true := beq_iff_eq.mpr c17
                      have c17b1 : (a0 != 47) = false := bne_eq_false_iff_eq.mpr c17
                      clear c17
                      obtain rfl := Option.some.inj H
                      go_wp2
                      go_ret
                      exact ⟨by first | rfl | (simp; done) | (simp [*]; done), by repeat (first | exact Drawn0.refl _ | apply Drawn0.step)⟩
                    · rw [if_neg c17] at H
                      have c17b0 : (a0 == 47) = false := beq_eq_false_iff_ne.mpr c17
                      have c17b1 : (a0 != 47) = true := bne_iff_ne.mpr c17
                      by_cases c18 : a0 = 95
                      · rw [if_pos c18] at H
                        have c18b0 : (a0 == 95) = true := beq_iff_eq.mpr c18
                        have c18b1 : (a0 != 95) = false := bne_eq_false_iff_eq.mpr c18
                        clear c18
                        obtain rfl := Option.some.inj H
                        go_wp2
                        go_ret
                        exact ⟨by first | rfl | (simp; done) | (simp [*]; done), by repeat (first | exact Drawn0.refl _ | apply Drawn0.step)⟩
                      · rw [if_neg c18] at H
                        have c18b0 : (a0 == 95) = false := beq_eq_false_iff_ne.mpr c18
                        have c18b1 : (a0 != 95) = true := bne_iff_ne.mpr c18
                        obtain rfl := Option.some.inj H
                        go_wp2
                        go_ret
                        exact ⟨by first | rfl | (simp; done) | (simp [*]; done), by repeat (first | exact Drawn0.refl _ | apply Drawn0.step)⟩
            · rw [if_neg c9] at H
              have c9b0 : decide (65 ≤ a0) = false := decide_eq_false c9
              clear c9
              by_cases c19 : a0 ≥ 48
              · rw [if_pos c19] at H
                have c19b0 : decide (48 ≤ a0) = true := decide_eq_true c19
                clear c19
                by_cases c20 : a0 ≤ 57
                · rw [if_pos c20] at H
                  have c20b0 : decide (a0 ≤ 57) = true := decide_eq_true c20
                  clear c20
                  obtain rfl := Option.some.inj H
                  go_wp2
                  go_ret
                  exact ⟨by first | rfl | (simp; done) | (simp [*]; done), by repeat (first | exact Drawn0.refl _ | apply Drawn0.step)⟩
                · rw [if_neg c20] at H
                  have c20b0 : decide (a0 ≤ 57) = false := decide_eq_false c20
                  clear c20
                  by_cases c21 : a0 = 46
                  · rw [if_pos c21] at H
                    have c21b0 : (a0 == 46) = true := beq_iff_eq.mpr c21
                    have c21b1 : (a0 != 46) = false := bne_eq_false_iff_eq.mpr c21
                    clear c21
                    obtain rfl := Option.some.inj H
                    go_wp2
                    go_ret
                    exact ⟨by first | rfl | (simp; done) | (simp [*]; done), by repeat (first | exact Drawn0.refl _ | apply Drawn0.step)⟩
                  · rw [if_neg c21] at H
                    have c21b0 : (a0 == 46) = false := beq_eq_false_iff_ne.mpr c21
                    have c21b1 : (a0 != 46) = true := bne_iff_ne.mpr c21
                    by_cases c22 : a0 = 47
                    · rw [if_pos c22] at H
                      have c22b0 : (a0 == 47) = true := beq_iff_eq.mpr c22
                      have c22b1 : (a0 != 47) = false := bne_eq_false_iff_eq.mpr c22
                      clear c22
                      obtain rfl := Option.some.inj H
                      go_wp2
                      go_ret
                      exact ⟨by first | rfl | (simp; done) | (simp [*]; done), by repeat (first | exact Drawn0.refl _ | apply Drawn0.step)⟩
                    · rw [if_neg c22] at H
                      have c22b0 : (a0 == 47) = false := beq_eq_false_iff_ne.mpr c22
                      have c22b1 : (a0 != 47) = true := bne_iff_ne.mpr c22
                      by_cases c23 : a0 = 95
                      · rw [if_pos c23] at H
                        have c23b0 : (a0 == 95) = true := beq_iff_eq.mpr c23
                        have c23b1 : (a0 != 95) = false := bne_eq_false_iff_eq.mpr c23
                        clear c23
                        obtain rfl := Option.some.inj H
                        go_wp2
                        go_ret
                        exact ⟨by first | rfl | (simp; done) | (simp [*]; done), by repeat (first | exact Drawn0.refl _ | apply Drawn0.step)⟩
                      · rw [if_neg c23] at H
                        have c23b0 : (a0 == 95) = false := beq_eq_false_iff_ne.mpr c23
                        have c23b1 : (a0 != 95) = true := bne_iff_ne.mpr c23
                        obtain rfl := Option.some.inj H
                        go_wp2
                        go_ret
                        exact ⟨by first | rfl | (simp; done) | (simp [*]; done), by repeat (first | exact Drawn0.refl _ | apply Drawn0.step)⟩
              · rw [if_neg c19] at H
                have c19b0 : decide (48 ≤ a0) = false := decide_eq_false c19
                clear c19
                by_cases c24 : a0 = 46
                · rw [if_pos c24] at H
                  have c24b0 : (a0 == 46) = true := beq_iff_eq.mpr c24
                  have c24b1 : (a0 != 46) = false := bne_eq_false_iff_eq.mpr c24
                  clear c24
                  obtain rfl := Option.some.inj H
                  go_wp2
                  go_ret
                  exact ⟨by first | rfl | (simp; done) | (simp [*]; done), by repeat (first | exact Drawn0.refl _ | apply Drawn0.step)⟩
                · rw [if_neg c24] at H
                  have c24b0 : (a0 == 46) = false := beq_eq_false_iff_ne.mpr c24
                  have c24b1 : (a0 != 46) = true := bne_iff_ne.mpr c24
                  by_cases c25 : a0 = 47
                  · rw [if_pos c25] at H
                    have c25b0 : (a0 == 47) = true := beq_iff_eq.mpr c25
                    have c25b1 : (a0 != 47) = false := bne_eq_false_iff_eq.mpr c25
                    clear c25
                    obtain rfl := Option.some.inj H
                    go_wp2
                    go_ret
                    exact ⟨by first | rfl | (simp; done) | (simp [*]; done), by repeat (first | exact Drawn0.refl _ | apply Drawn0.step)⟩
                  · rw [if_neg c25] at H
                    have c25b0 : (a0 == 47) = false := beq_eq_false_iff_ne.mpr c25
                    have c25b1 : (a0 != 47) = true := bne_iff_ne.mpr c25
                    by_cases c26 : a0 = 95
                    · rw [if_pos c26] at H
                      have c26b0 : (a0 == 95) = true := beq_iff_eq.mpr c26
                      have c26b1 : (a0 != 95) = false := bne_eq_false_iff_eq.mpr c26
                      clear c26
                      obtain rfl := Option.some.inj H
                      go_wp2
                      go_ret
                      exact ⟨by first | rfl | (simp; done) | (simp [*]; done), by repeat (first | exact Drawn0.refl _ | apply Drawn0.step)⟩
                    · rw [if_neg c26] at H
                      have c26b0 : (a0 == 95) = false := beq_eq_false_iff_ne.mpr c26
                      have c26b1 : (a0 != 95) = true := bne_iff_ne.mpr c26
                      obtain rfl := Option.some.inj H
                      go_wp2
                      go_ret
                      exact ⟨by first | rfl | (simp; done) | (simp [*]; done), by repeat (first | exact Drawn0.refl _ | apply Drawn0.step)⟩
        · rw [if_neg c7] at H
          have c7b0 : decide (97 ≤ a0) = false := decide_eq_false c7
          clear c7
          by_cases c27 : a0 ≥ 65
          · rw [if_pos c27] at H
            have c27b0 : decide (65 ≤ a0) = true := decide_eq_true c27
            clear c27
            by_cases c28 : a0 ≤ 90
            · rw [if_pos c28] at H
              have c28b0 : decide (a0 ≤ 90) = true := decide_eq_true c28
              clear c28
              obtain rfl := Option.some.inj H
              go_wp2
              go_ret
              exact ⟨by first | rfl | (simp; done) | (simp [*]; done), by repeat (first | exact Drawn0.refl _ | apply Drawn0.step)⟩
            · rw [if_neg c28] at H
              have c28b0 : decide (a0 ≤ 90) = false := decide_eq_false c28
              clear c28
              by_cases c29 : a0 ≥ 48
              · rw [if_pos c29] at H
                have c29b0 : decide (48 ≤ a0) = true := decide_eq_true c29
                clear c29
                by_cases c30 : a0 ≤ 57
                · rw [if_pos c30] at H
                  have c30b0 : decide (a0 ≤ 57) = true := decide_eq_true c30
                  clear c30
                  obtain rfl := Option.some.inj H
                  go_wp2
                  go_ret
                  exact ⟨by first | rfl | (simp; done) | (simp [*]; done), by repeat (first | exact Drawn0.refl _ | apply Drawn0.step)⟩
                · rw [if_neg c30] at H
                  have c30b0 : decide (a0 ≤ 57) = false := decide_eq_false c30
                  clear c30
                  by_cases c31 : a0 = 46
                  · rw [if_pos c31] at H
                    have c31b0 : (a0 == 46) = true := beq_iff_eq.mpr c31
                    have c31b1 : (a0 != 46) = false := bne_eq_false_iff_eq.mpr c31
                    clear c31
                    obtain rfl := Option.some.inj H
                    go_wp2
                    go_ret
                    exact ⟨by first | rfl | (simp; done) | (simp [*]; done), by repeat (first | exact Drawn0.refl _ | apply Drawn0.step)⟩
                  · rw [if_neg c31] at H
                    have c31b0 : (a0 == 46) = false := beq_eq_false_iff_ne.mpr c31
                    have c31b1 : (a0 != 46) = true := bne_iff_ne.mpr c31
                    by_cases c32 : a0 = 47
                    · rw [if_pos c32] at H
                      have c32b0 : (a0 == 47) = true := beq_iff_eq.mpr c32
                      have c32b1 : (a0 != 47) = false := bne_eq_false_iff_eq.mpr c32
                      clear c32
                      obtain rfl := Option.some.inj H
                      go_wp2
                      go_ret
                      exact ⟨by first | rfl | (simp; done) | (simp [*]; done), by repeat (first | exact Drawn0.refl _ | apply Drawn0.step)⟩
                    · rw [if_neg c32] at H
                      have c32b0 : (a0 == 47) = false := beq_eq_false_iff_ne.mpr c32
                      have c32b1 : (a0 != 47) = true := bne_iff_ne.mpr c32
                      by_cases c33 : a0 = 95
                      · rw [if_pos c33] at H
                        have c33b0 : (a0 == 95) = true := beq_iff_eq.mpr c33
                        have c33b1 : (a0 != 95) = false := bne_eq_false_iff_eq.mpr c33
                        clear c33
                        obtain rfl := Option.some.inj H
                        go_wp2
                        go_ret
                        exact ⟨by first | rfl | (simp; done) | (simp [*]; done), by repeat (first | exact Drawn0.refl _ | apply Drawn0.step)⟩
                      · rw [if_neg c33] at H
                        have c33b0 : (a0 == 95) = false := beq_eq_false_iff_ne.mpr c33
                        have c33b1 : (a0 != 95) = true := bne_iff_ne.mpr c33
                        obtain rfl := Option.some.inj H
                        go_wp2
                        go_ret
                        exact ⟨by first | rfl | (simp; done) | (simp [*]; done), by repeat (first | exact Drawn0.refl _ | apply Drawn0.step)⟩
              · rw [if_neg c29] at H
                have c29b0 : decide (48 ≤ a0) = false := decide_eq_false c29
                clear c29
                by_cases c34 : a0 = 46
                · rw [if_pos c34] at H
                  have c34b0 : (a0 == 46) = true := beq_iff_eq.mpr c34
                  have c34b1 : (a0 != 46) = false := bne_eq_false_iff_eq.mpr c34
                  clear c34
                  obtain rfl := Option.some.inj H
                  go_wp2
                  go_ret
                  exact ⟨by first | rfl | (simp; done) | (simp [*]; done), by repeat (first | exact Drawn0.refl _ | apply Drawn0.step)⟩
                · rw [if_neg c34] at H
                  have c34b0 : (a0 == 46) = false := beq_eq_false_iff_ne.mpr c34
                  have c34b1 : (a0 != 46) = true := bne_iff_ne.mpr c34
                  by_cases c35 : a0 = 47
                  · rw [if_pos c35] at H
                    have c35b0 : (a0 == 47) = true := beq_iff_eq.mpr c35
                    have c35b1 : (a0 != 47) = false := bne_eq_false_iff_eq.mpr c35
                    clear c35
                    obtain rfl := Option.some.inj H
                    go_wp2
                    go_ret
                    exact ⟨by first | rfl | (simp; done) | (simp [*]; done), by repeat (first | exact Drawn0.refl _ | apply Drawn0.step)⟩
                  · rw [if_neg c35] at H
                    have c35b0 : (a0 == 47) = false := beq_eq_false_iff_ne.mpr c35
                    have c35b1 : (a0 != 47) = true := bne_iff_ne.mpr c35
                    by_cases c36 : a0 = 95
                    · rw [if_pos c36] at H
                      have c36b0 : (a0 == 95) = true := beq_iff_eq.mpr c36
                      have c36b1 : (a0 != 95) = false := bne_eq_false_iff_eq.mpr c36
                      clear c36
                      obtain rfl := Option.some.inj H
                      go_wp2
                      go_ret
                      exact ⟨by first | rfl | (simp; done) | (simp [*]; done), by repeat (first | exact Drawn0.refl _ | apply Drawn0.step)⟩
                    · rw [if_neg c36] at H
                      have c36b0 : (a0 == 95) = false := beq_eq_false_iff_ne.mpr c36
                      have c36b1 : (a0 != 95) = true := bne_iff_ne.mpr c36
                      obtain rfl := Option.some.inj H
                      go_wp2
                      go_ret
                      exact ⟨by first | rfl | (simp; done) | (simp [*]; done), by repeat (first | exact Drawn0.refl _ | apply Drawn0.step)⟩
          · rw [if_neg c27] at H
            have c27b0 : decide (65 ≤ a0) = false := decide_eq_false c27
            clear c27
            by_cases c37 : a0 ≥ 48
            · rw [if_pos c37] at H
              have c37b0 : decide (48 ≤ a0) = true := decide_eq_true c37
              clear c37
              by_cases c38 : a0 ≤ 57
              · rw [if_pos c38] at H
                have c38b0 : decide (a0 ≤ 57) = true := decide_eq_true c38
                clear c38
                obtain rfl := Option.some.inj H
                go_wp2
                go_ret
                exact ⟨by first | rfl | (simp; done) | (simp [*]; done), by repeat (first | exact Drawn0.refl _ | apply Drawn0.step)⟩
              · rw [if_neg c38] at H
                have c38b0 : decide (a0 ≤ 57) = false := decide_eq_false c38
                clear c38
                by_cases c39 : a0 = 46
                · rw [if_pos c39] at H
                  have c39b0 : (a0 == 46) = true := beq_iff_eq.mpr c39
                  have c39b1 : (a0 != 46) = false := bne_eq_false_iff_eq.mpr c39
                  clear c39
                  obtain rfl := Option.some.inj H
                  go_wp2
                  go_ret
                  exact ⟨by first | rfl | (simp; done) | (simp [*]; done), by repeat (first | exact Drawn0.refl _ | apply Drawn0.step)⟩
                · rw [if_neg c39] at H
                  have c39b0 : (a0 == 46) = false := beq_eq_false_iff_ne.mpr c39
                  have c39b1 : (a0 != 46) = true := bne_iff_ne.mpr c39
                  by_cases c40 : a0 = 47
                  · rw [if_pos c40] at H
                    have c40b0 : (a0 == 47) = true := beq_iff_eq.mpr c40
                    have c40b1 : (a0 != 47) = false := bne_eq_false_iff_eq.mpr c40
                    clear c40
                    obtain rfl := Option.some.inj H
                    go_wp2
                    go_ret
                    exact ⟨by first | rfl | (simp; done) | (simp [*]; done), by repeat (first | exact Drawn0.refl _ | apply Drawn0.step)⟩
                  · rw [if_neg c40] at H
                    have c40b0 : (a0 == 47) = false := beq_eq_false_iff_ne.mpr c40
                    have c40b1 : (a0 != 47) = true := bne_iff_ne.mpr c40
                    by_cases c41 : a0 = 95
                    · rw [if_pos c41] at H
                      have c41b0 : (a0 == 95) = true := beq_iff_eq.mpr c41
                      have c41b1 : (a0 != 95) = false := bne_eq_false_iff_eq.mpr c41
                      clear c41
                      obtain rfl := Option.some.inj H
                      go_wp2
                      go_ret
                      exact ⟨by first | rfl | (simp; done) | (simp [*]; done), by repeat (first | exact Drawn0.refl _ | apply Drawn0.step)⟩
                    · rw [if_neg c41] at H
                      have c41b0 : (a0 == 95) = false := beq_eq_false_iff_ne.mpr c41
                      have c41b1 : (a0 != 95) = true := bne_iff_ne.mpr c41
                      obtain rfl := Option.some.inj H
                      go_wp2
                      go_ret
                      exact ⟨by first | rfl | (simp; done) | (simp [*]; done), by repeat (first | exact Drawn0.refl _ | apply Drawn0.step)⟩
            · rw [if_neg c37] at H
              have c37b0 : decide (48 ≤ a0) = false := decide_eq_false c37
              clear c37
              by_cases c42 : a0 = 46
              · rw [if_pos c42] at H
                have c42b0 : (a0 == 46) = true := beq_iff_eq.mpr c42
                have c42b1 : (a0 != 46) = false := bne_eq_false_iff_eq.mpr c42
                clear c42
                obtain rfl := Option.some.inj H
                go_wp2
                go_ret
                exact ⟨by first | rfl | (simp; done) | (simp [*]; done), by repeat (first | exact Drawn0.refl _ | apply Drawn0.step)⟩
              · rw [if_neg c42] at H
                have c42b0 : (a0 == 46) = false := beq_eq_false_iff_ne.mpr c42
                have c42b1 : (a0 != 46) = true := bne_iff_ne.mpr c42
                by_cases c43 : a0 = 47
                · rw [if_pos c43] at H
                  have c43b0 : (a0 == 47) = true := beq_iff_eq.mpr c43
                  have c43b1 : (a0 != 47) = false := bne_eq_false_iff_eq.mpr c43
                  clear c43
                  obtain rfl := Option.some.inj H
                  go_wp2
                  go_ret
                  exact ⟨by first | rfl | (simp; done) | (simp [*]; done), by repeat (first | exact Drawn0.refl _ | apply Drawn0.step)⟩
                · rw [if_neg c43] at H
                  have c43b0 : (a0 == 47) = false := beq_eq_false_iff_ne.mpr c43
                  have c43b1 : (a0 != 47) = true := bne_iff_ne.mpr c43
                  by_cases c44 : a0 = 95
                  · rw [if_pos c44] at H
                    have c44b0 : (a0 == 95) = true := beq_iff_eq.mpr c44
                    have c44b1 : (a0 != 95) = false := bne_eq_false_iff_eq.mpr c44
                    clear c44
                    obtain rfl := Option.some.inj H
                    go_wp2
                    go_ret
                    exact ⟨by first | rfl | (simp; done) | (simp [*]; done), by repeat (first | exact Drawn0.refl _ | apply Drawn0.step)⟩
                  · rw [if_neg c44] at H
                    have c44b0 : (a0 == 95) = false := beq_eq_false_iff_ne.mpr c44
                    have c44b1 : (a0 != 95) = true := bne_iff_ne.mpr c44
                    obtain rfl := Option.some.inj H
                    go_wp2
                    go_ret
                    exact ⟨by first | rfl | (simp; done) | (simp [*]; done), by repeat (first | exact Drawn0.refl _ | apply Drawn0.step)⟩

end Go.Proofs.YteignlfpjmfleaaDoor.X
