-- Written by a program of this session (wip/tools/xprint.py).
import Derived.Test.YteignlfpjmfleaaDoorX0
import Derived.Test.YteignlfpjmfleaaDoorX3
import Derived.Test.YteignlfpjmfleaaDoorE
namespace Go.Proofs.YteignlfpjmfleaaDoor.X
open Go.RowKit Go.Proofs.YteignlfpjmfleaaDoorW.PrintWords Go.Proofs.YteignlfpjmfleaaDoorW.PrintLast Go.Proofs.YteignlfpjmfleaaDoorW.PrintMore
open Go.Proofs.YteignlfpjmfleaaDoor.E
attribute [local go_sem] max2_int min2_int max_two min_two max_three min_three max_four min_four   -- for this text's walks alone
set_option linter.unusedVariables false
set_option linter.unusedSimpArgs false

/-! ### imprimaturlaw13_GlobStars: function 6 -/
mutual
def imprimaturlaw13_GlobStars.j0 : Nat → ByteArray → ByteArray → ByteArray → Bool → Option (Bool)
  | 0, _, _, _, _ => none
  | k + 1, x0, x1, x2, x58 => if x58 = true then (some false) else (if x0.size + 1 ≤ 9223372036854775807 then (if (x0 ++ (⟨#[42]⟩ : ByteArray)).size + x1.size ≤ 9223372036854775807 then ((imprimaturref13_Right.f k ((x0 ++ (⟨#[42]⟩ : ByteArray)) ++ x1) true).bind fun t124 => (if t124 = true then (if x0.size + x1.size ≤ 9223372036854775807 then ((strings_ContainsAny.f (x0 ++ x1) (⟨#[42, 63, 47]⟩ : ByteArray)).bind fun t125 => (if t125 = true then (imprimaturlaw13_GlobStars.j1 k x0 x1 x2 ((x0 ++ (⟨#[42]⟩ : ByteArray)) ++ x1) true) else ((strings_Contains.f x2 (⟨#[47]⟩ : ByteArray)).bind fun t126 => (imprimaturlaw13_GlobStars.j1 k x0 x1 x2 ((x0 ++ (⟨#[42]⟩ : ByteArray)) ++ x1) t126)))) else (none)) else (imprimaturlaw13_GlobStars.j1 k x0 x1 x2 ((x0 ++ (⟨#[42]⟩ : ByteArray)) ++ x1) true))) else (none)) else (none))
def imprimaturlaw13_GlobStars.j1 : Nat → ByteArray → ByteArray → ByteArray → ByteArray → Bool → Option (Bool)
  | 0, _, _, _, _, _ => none
  | k + 1, x0, x1, x2, x8, x75 => if x75 = true then (some true) else (if (x2.size : Int) ≥ (wrap64 ((x0.size : Int) + (x1.size : Int))) then ((strings_HasPrefix.f x2 x0).bind fun t127 => (if t127 = true then ((strings_HasSuffix.f x2 x1).bind fun t128 => ((glob_Match.f x8 x2).bind fun t129 => (some (t129 == t128)))) else ((glob_Match.f x8 x2).bind fun t130 => (some (t130 == false))))) else ((glob_Match.f x8 x2).bind fun t131 => (some (t131 == false))))
end
def imprimaturlaw13_GlobStars.f (k : Nat) (a0 : ByteArray) (a1 : ByteArray) (a2 : ByteArray) : Option (Bool) := if 0 ≤ (mn (a0.size : Int) 40) then (if (mn (a0.size : Int) 40) ≤ (a0.size : Int) then (if 0 ≤ (mn (a1.size : Int) 40) then (if (mn (a1.size : Int) 40) ≤ (a1.size : Int) then (if 0 ≤ (mn (a2.size : Int) 100) then (if (mn (a2.size : Int) 100) ≤ (a2.size : Int) then ((imprimaturref13_Right.f k (a2.extract 0 ((mn (a2.size : Int) 100) : Int).toNat) false).bind fun t115 => (if t115 = true then ((strings_Count.f (a2.extract 0 ((mn (a2.size : Int) 100) : Int).toNat) (⟨#[47]⟩ : ByteArray)).bind fun t118 => ((strings_Repeat.f (⟨#[42, 47]⟩ : ByteArray) t118).bind fun t119 => (if t119.size + 1 ≤ 9223372036854775807 then ((glob_Match.f (a2.extract 0 ((mn (a2.size : Int) 100) : Int).toNat) (a2.extract 0 ((mn (a2.size : Int) 100) : Int).toNat)).bind fun t120 => (if t120 = true then ((glob_Match.f (t119 ++ (⟨#[42]⟩ : ByteArray)) (a2.extract 0 ((mn (a2.size : Int) 100) : Int).toNat)).bind fun t121 => (if t121 = true then (if 2 + (t119 ++ (⟨#[42]⟩ : ByteArray)).size ≤ 9223372036854775807 then ((glob_Match.f ((⟨#[42, 47]⟩ : ByteArray) ++ (t119 ++ (⟨#[42]⟩ : ByteArray))) (a2.extract 0 ((mn (a2.size : Int) 100) : Int).toNat)).bind fun t122 => (if t122 = true then (imprimaturlaw13_GlobStars.j0 k (a0.extract 0 ((mn (a0.size : Int) 40) : Int).toNat) (a1.extract 0 ((mn (a1.size : Int) 40) : Int).toNat) (a2.extract 0 ((mn (a2.size : Int) 100) : Int).toNat) true) else ((imprimaturlaw13_alive.f).bind fun t123 => (imprimaturlaw13_GlobStars.j0 k (a0.extract 0 ((mn (a0.size : Int) 40) : Int).toNat) (a1.extract 0 ((mn (a1.size : Int) 40) : Int).toNat) (a2.extract 0 ((mn (a2.size : Int) 100) : Int).toNat) (!t123))))) else (none)) else (imprimaturlaw13_GlobStars.j0 k (a0.extract 0 ((mn (a0.size : Int) 40) : Int).toNat) (a1.extract 0 ((mn (a1.size : Int) 40) : Int).toNat) (a2.extract 0 ((mn (a2.size : Int) 100) : Int).toNat) true))) else (imprimaturlaw13_GlobStars.j0 k (a0.extract 0 ((mn (a0.size : Int) 40) : Int).toNat) (a1.extract 0 ((mn (a1.size : Int) 40) : Int).toNat) (a2.extract 0 ((mn (a2.size : Int) 100) : Int).toNat) true))) else (none)))) else ((imprimaturlaw13_alive.f).bind fun t116 => (if t116 = true then ((glob_Match.f (a2.extract 0 ((mn (a2.size : Int) 100) : Int).toNat) (a2.extract 0 ((mn (a2.size : Int) 100) : Int).toNat)).bind fun t117 => (some (!t117))) else (some false))))) else (none)) else (none)) else (none)) else (none)) else (none)) else (none)
theorem imprimaturlaw13_GlobStars.mono_l : ∀ k, (∀ y0 y1 y2 y3, LeO (imprimaturlaw13_GlobStars.j0 k y0 y1 y2 y3) (imprimaturlaw13_GlobStars.j0 (k + 1) y0 y1 y2 y3)) ∧ (∀ y0 y1 y2 y3 y4, LeO (imprimaturlaw13_GlobStars.j1 k y0 y1 y2 y3 y4) (imprimaturlaw13_GlobStars.j1 (k + 1) y0 y1 y2 y3 y4))
  | 0 => ⟨fun _ _ _ _ r h => by simp [imprimaturlaw13_GlobStars.j0] at h, fun _ _ _ _ _ r h => by simp [imprimaturlaw13_GlobStars.j1] at h⟩
  | k + 1 => by
    obtain ⟨ih0, ih1⟩ := imprimaturlaw13_GlobStars.mono_l k
    refine ⟨?_, ?_⟩
    · intro y0 y1 y2 y3
      unfold imprimaturlaw13_GlobStars.j0
      repeat' first
      | (with_reducible exact ih0 _ _ _ _)
      | (with_reducible exact ih1 _ _ _ _ _)
      | (with_reducible exact imprimaturref13_Right.mono _ _ _)
      | (with_reducible exact LeO.refl _)
      | (with_reducible exact LeO.none _)
      | (with_reducible refine LeO.ite ?_ ?_)
      | (with_reducible refine LeO.bind ?_ (fun _ => ?_))
      | exact ih0 _ _ _ _
      | exact ih1 _ _ _ _ _
      | exact imprimaturref13_Right.mono _ _ _
      | exact LeO.none _
      | refine LeO.ite ?_ ?_
      | refine LeO.bind ?_ (fun _ => ?_)
    · intro y0 y1 y2 y3 y4
      unfold imprimaturlaw13_GlobStars.j1
      repeat' first
      | (with_reducible exact ih0 _ _ _ _)
      | (with_reducible exact ih1 _ _ _ _ _)
      | (with_reducible exact imprimaturref13_Right.mono _ _ _)
      | (with_reducible exact LeO.refl _)
      | (with_reducible exact LeO.none _)
      | (with_reducible refine LeO.ite ?_ ?_)
      | (with_reducible refine LeO.bind ?_ (fun _ => ?_))
      | exact ih0 _ _ _ _
      | exact ih1 _ _ _ _ _
      | exact imprimaturref13_Right.mono _ _ _
      | exact LeO.none _
      | refine LeO.ite ?_ ?_
      | refine LeO.bind ?_ (fun _ => ?_)
theorem imprimaturlaw13_GlobStars.mono : ∀ a0 a1 a2 k, LeO (imprimaturlaw13_GlobStars.f k a0 a1 a2) (imprimaturlaw13_GlobStars.f (k + 1) a0 a1 a2) := by
  intro a0 a1 a2 k
  obtain ⟨ih0, ih1⟩ := imprimaturlaw13_GlobStars.mono_l k
  unfold imprimaturlaw13_GlobStars.f
  repeat' first
      | (with_reducible exact ih0 _ _ _ _)
      | (with_reducible exact ih1 _ _ _ _ _)
      | (with_reducible exact imprimaturref13_Right.mono _ _ _)
      | (with_reducible exact LeO.refl _)
      | (with_reducible exact LeO.none _)
      | (with_reducible refine LeO.ite ?_ ?_)
      | (with_reducible refine LeO.bind ?_ (fun _ => ?_))
      | exact ih0 _ _ _ _
      | exact ih1 _ _ _ _ _
      | exact imprimaturref13_Right.mono _ _ _
      | exact LeO.none _
      | refine LeO.ite ?_ ?_
      | refine LeO.bind ?_ (fun _ => ?_)
set_option maxHeartbeats 8000000 in
set_option maxRecDepth 100000 in
theorem imprimaturlaw13_GlobStars.calls (k : Nat) (a0 : ByteArray) (a1 : ByteArray) (a2 : ByteArray) (r : Bool) (w : World) (h : imprimaturlaw13_GlobStars.f k a0 a1 a2 = some r) :
    Calls Tryd.prog 6 #[.string a0, .string a1, .string a2] w fun e w' => e = .returned (.bool r) ∧ Below w.heap.size w w' := by
  have HB := Aside0.mk (Below.refl w.heap.size w)
  have H : (if 0 ≤ (mn (a0.size : Int) 40) then (if (mn (a0.size : Int) 40) ≤ (a0.size : Int) then (if 0 ≤ (mn (a1.size : Int) 40) then (if (mn (a1.size : Int) 40) ≤ (a1.size : Int) then (if 0 ≤ (mn (a2.size : Int) 100) then (if (mn (a2.size : Int) 100) ≤ (a2.size : Int) then ((imprimaturref13_Right.f k (a2.extract 0 ((mn (a2.size : Int) 100) : Int).toNat) false).bind fun t115 => (if t115 = true then ((strings_Count.f (a2.extract 0 ((mn (a2.size : Int) 100) : Int).toNat) (⟨#[47]⟩ : ByteArray)).bind fun t118 => ((strings_Repeat.f (⟨#[42, 47]⟩ : ByteArray) t118).bind fun t119 => (if t119.size + 1 ≤ 9223372036854775807 then ((glob_Match.f (a2.extract 0 ((mn (a2.size : Int) 100) : Int).toNat) (a2.extract 0 ((mn (a2.size : Int) 100) : Int).toNat)).bind fun t120 => (if t120 = true then ((glob_Match.f (t119 ++ (⟨#[42]⟩ : ByteArray)) (a2.extract 0 ((mn (a2.size : Int) 100) : Int).toNat)).bind fun t121 => (if t121 = true then (if 2 + (t119 ++ (⟨#[42]⟩ : ByteArray)).size ≤ 9223372036854775807 then ((glob_Match.f ((⟨#[42, 47]⟩ : ByteArray) ++ (t119 ++ (⟨#[42]⟩ : ByteArray))) (a2.extract 0 ((mn (a2.size : Int) 100) : Int).toNat)).bind fun t122 => (if t122 = true then (imprimaturlaw13_GlobStars.j0 k (a0.extract 0 ((mn (a0.size : Int) 40) : Int).toNat) (a1.extract 0 ((mn (a1.size : Int) 40) : Int).toNat) (a2.extract 0 ((mn (a2.size : Int) 100) : Int).toNat) true) else ((imprimaturlaw13_alive.f).bind fun t123 => (imprimaturlaw13_GlobStars.j0 k (a0.extract 0 ((mn (a0.size : Int) 40) : Int).toNat) (a1.extract 0 ((mn (a1.size : Int) 40) : Int).toNat) (a2.extract 0 ((mn (a2.size : Int) 100) : Int).toNat) (!t123))))) else (none)) else (imprimaturlaw13_GlobStars.j0 k (a0.extract 0 ((mn (a0.size : Int) 40) : Int).toNat) (a1.extract 0 ((mn (a1.size : Int) 40) : Int).toNat) (a2.extract 0 ((mn (a2.size : Int) 100) : Int).toNat) true))) else (imprimaturlaw13_GlobStars.j0 k (a0.extract 0 ((mn (a0.size : Int) 40) : Int).toNat) (a1.extract 0 ((mn (a1.size : Int) 40) : Int).toNat) (a2.extract 0 ((mn (a2.size : Int) 100) : Int).toNat) true))) else (none)))) else ((imprimaturlaw13_alive.f).bind fun t116 => (if t116 = true then ((glob_Match.f (a2.extract 0 ((mn (a2.size : Int) 100) : Int).toNat) (a2.extract 0 ((mn (a2.size : Int) 100) : Int).toNat)).bind fun t117 => (some (!t117))) else (some false))))) else (none)) else (none)) else (none)) else (none)) else (none)) else (none)) = some r := h
  clear h
  obtain ⟨ji4, hji4⟩ : ∃ j_ : Int, (mn (a0.size : Int) 40) = j_ := ⟨_, rfl⟩
  replace H : (if 0 ≤ (ji4) then (if (ji4) ≤ (a0.size : Int) then (if 0 ≤ (mn (a1.size : Int) 40) then (if (mn (a1.size : Int) 40) ≤ (a1.size : Int) then (if 0 ≤ (mn (a2.size : Int) 100) then (if (mn (a2.size : Int) 100) ≤ (a2.size : Int) then ((imprimaturref13_Right.f k (a2.extract 0 ((mn (a2.size : Int) 100) : Int).toNat) false).bind fun t115 => (if t115 = true then ((strings_Count.f (a2.extract 0 ((mn (a2.size : Int) 100) : Int).toNat) (⟨#[47]⟩ : ByteArray)).bind fun t118 => ((strings_Repeat.f (⟨#[42, 47]⟩ : ByteArray) t118).bind fun t119 => (if t119.size + 1 ≤ 9223372036854775807 then ((glob_Match.f (a2.extract 0 ((mn (a2.size : Int) 100) : Int).toNat) (a2.extract 0 ((mn (a2.size : Int) 100) : Int).toNat)).bind fun t120 => (if t120 = true then ((glob_Match.f (t119 ++ (⟨#[42]⟩ : ByteArray)) (a2.extract 0 ((mn (a2.size : Int) 100) : Int).toNat)).bind fun t121 => (if t121 = true then (if 2 + (t119 ++ (⟨#[42]⟩ : ByteArray)).size ≤ 9223372036854775807 then ((glob_Match.f ((⟨#[42, 47]⟩ : ByteArray) ++ (t119 ++ (⟨#[42]⟩ : ByteArray))) (a2.extract 0 ((mn (a2.size : Int) 100) : Int).toNat)).bind fun t122 => (if t122 = true then (imprimaturlaw13_GlobStars.j0 k (a0.extract 0 ((ji4) : Int).toNat) (a1.extract 0 ((mn (a1.size : Int) 40) : Int).toNat) (a2.extract 0 ((mn (a2.size : Int) 100) : Int).toNat) true) else ((imprimaturlaw13_alive.f).bind fun t123 => (imprimaturlaw13_GlobStars.j0 k (a0.extract 0 ((ji4) : Int).toNat) (a1.extract 0 ((mn (a1.size : Int) 40) : Int).toNat) (a2.extract 0 ((mn (a2.size : Int) 100) : Int).toNat) (!t123))))) else (none)) else (imprimaturlaw13_GlobStars.j0 k (a0.extract 0 ((ji4) : Int).toNat) (a1.extract 0 ((mn (a1.size : Int) 40) : Int).toNat) (a2.extract 0 ((mn (a2.size : Int) 100) : Int).toNat) true))) else (imprimaturlaw13_GlobStars.j0 k (a0.extract 0 ((ji4) : Int).toNat) (a1.extract 0 ((mn (a1.size : Int) 40) : Int).toNat) (a2.extract 0 ((mn (a2.size : Int) 100) : Int).toNat) true))) else (none)))) else ((imprimaturlaw13_alive.f).bind fun t116 => (if t116 = true then ((glob_Match.f (a2.extract 0 ((mn (a2.size : Int) 100) : Int).toNat) (a2.extract 0 ((mn (a2.size : Int) 100) : Int).toNat)).bind fun t117 => (some (!t117))) else (some false))))) else (none)) else (none)) else (none)) else (none)) else (none)) else (none)) = some r := by first | (rw [hji4] at H; exact H) | (simp only [hji4] at H ⊢; exact H)
  (try (have hji4h : ji4 ≤ 40 := by (rw [← hji4]; unfold mn; (repeat' split) <;> omega)))
  (try (have hji4g : ji4 ≤ 64 := by omega))
  (try (have hji4l : 0 ≤ ji4 := by (rw [← hji4]; unfold mn; (repeat' split) <;> omega)))
  (try (have hji4m : 0 ≤ ji4 := by omega))
  have hji4_ : (if 40 < (a0.size : Int) then 40 else (a0.size : Int)) = ji4 := hji4
  by_cases c5 : 0 ≤ (ji4)
  · rw [if_pos c5] at H
    have c5b0 := eq_true c5
    have c5b1 : decide (0 ≤ (ji4)) = true := decide_eq_true c5
    clear c5
    by_cases c6 : (ji4) ≤ (a0.size : Int)
    · rw [if_pos c6] at H
      have c6b0 := eq_true c6
      have c6b1 : decide ((ji4) ≤ (a0.size : Int)) = true := decide_eq_true c6
      clear c6
      obtain ⟨ji7, hji7⟩ : ∃ j_ : Int, (mn (a1.size : Int) 40) = j_ := ⟨_, rfl⟩
      replace H : (if 0 ≤ (ji7) then (if (ji7) ≤ (a1.size : Int) then (if 0 ≤ (mn (a2.size : Int) 100) then (if (mn (a2.size : Int) 100) ≤ (a2.size : Int) then ((imprimaturref13_Right.f k (a2.extract 0 ((mn (a2.size : Int) 100) : Int).toNat) false).bind fun t115 => (if t115 = true then ((strings_Count.f (a2.extract 0 ((mn (a2.size : Int) 100) : Int).toNat) (⟨#[47]⟩ : ByteArray)).bind fun t118 => ((strings_Repeat.f (⟨#[42, 47]⟩ : ByteArray) t118).bind fun t119 => (if t119.size + 1 ≤ 9223372036854775807 then ((glob_Match.f (a2.extract 0 ((mn (a2.size : Int) 100) : Int).toNat) (a2.extract 0 ((mn (a2.size : Int) 100) : Int).toNat)).bind fun t120 => (if t120 = true then ((glob_Match.f (t119 ++ (⟨#[42]⟩ : ByteArray)) (a2.extract 0 ((mn (a2.size : Int) 100) : Int).toNat)).bind fun t121 => (if t121 = true then (if 2 + (t119 ++ (⟨#[42]⟩ : ByteArray)).size ≤ 9223372036854775807 then ((glob_Match.f ((⟨#[42, 47]⟩ : ByteArray) ++ (t119 ++ (⟨#[42]⟩ : ByteArray))) (a2.extract 0 ((mn (a2.size : Int) 100) : Int).toNat)).bind fun t122 => (if t122 = true then (imprimaturlaw13_GlobStars.j0 k (a0.extract 0 ((ji4) : Int).toNat) (a1.extract 0 ((ji7) : Int).toNat) (a2.extract 0 ((mn (a2.size : Int) 100) : Int).toNat) true) else ((imprimaturlaw13_alive.f).bind fun t123 => (imprimaturlaw13_GlobStars.j0 k (a0.extract 0 ((ji4) : Int).toNat) (a1.extract 0 ((ji7) : Int).toNat) (a2.extract 0 ((mn (a2.size : Int) 100) : Int).toNat) (!t123))))) else (none)) else (imprimaturlaw13_GlobStars.j0 k (a0.extract 0 ((ji4) : Int).toNat) (a1.extract 0 ((ji7) : Int).toNat) (a2.extract 0 ((mn (a2.size : Int) 100) : Int).toNat) true))) else (imprimaturlaw13_GlobStars.j0 k (a0.extract 0 ((ji4) : Int).toNat) (a1.extract 0 ((ji7) : Int).toNat) (a2.extract 0 ((mn (a2.size : Int) 100) : Int).toNat) true))) else (none)))) else ((imprimaturlaw13_alive.f).bind fun t116 => (if t116 = true then ((glob_Match.f (a2.extract 0 ((mn (a2.size : Int) 100) : Int).toNat) (a2.extract 0 ((mn (a2.size : Int) 100) : Int).toNat)).bind fun t117 => (some (!t117))) else (some false))))) else (none)) else (none)) else (none)) else (none)) = some r := by first | (rw [hji7] at H; exact H) | (simp only [hji7] at H ⊢; exact H)
      (try (have hji7h : ji7 ≤ 40 := by (rw [← hji7]; unfold mn; (repeat' split) <;> omega)))
      (try (have hji7g : ji7 ≤ 64 := by omega))
      (try (have hji7l : 0 ≤ ji7 := by (rw [← hji7]; unfold mn; (repeat' split) <;> omega)))
      (try (have hji7m : 0 ≤ ji7 := by omega))
      have hji7_ : (if 40 < (a1.size : Int) then 40 else (a1.size : Int)) = ji7 := hji7
      by_cases c8 : 0 ≤ (ji7)
      · rw [if_pos c8] at H
        have c8b0 := eq_true c8
        have c8b1 : decide (0 ≤ (ji7)) = true := decide_eq_true c8
        clear c8
        by_cases c9 : (ji7) ≤ (a1.size : Int)
        · rw [if_pos c9] at H
          have c9b0 := eq_true c9
          have c9b1 : decide ((ji7) ≤ (a1.size : Int)) = true := decide_eq_true c9
          clear c9
          obtain ⟨ji10, hji10⟩ : ∃ j_ : Int, (mn (a2.size : Int) 100) = j_ := ⟨_, rfl⟩
          replace H : (if 0 ≤ (ji10) then (if (ji10) ≤ (a2.size : Int) then ((imprimaturref13_Right.f k (a2.extract 0 ((ji10) : Int).toNat) false).bind fun t115 => (if t115 = true then ((strings_Count.f (a2.extract 0 ((ji10) : Int).toNat) (⟨#[47]⟩ : ByteArray)).bind fun t118 => ((strings_Repeat.f (⟨#[42, 47]⟩ : ByteArray) t118).bind fun t119 => (if t119.size + 1 ≤ 9223372036854775807 then ((glob_Match.f (a2.extract 0 ((ji10) : Int).toNat) (a2.extract 0 ((ji10) : Int).toNat)).bind fun t120 => (if t120 = true then ((glob_Match.f (t119 ++ (⟨#[42]⟩ : ByteArray)) (a2.extract 0 ((ji10) : Int).toNat)).bind fun t121 => (if t121 = true then (if 2 + (t119 ++ (⟨#[42]⟩ : ByteArray)).size ≤ 9223372036854775807 then ((glob_Match.f ((⟨#[42, 47]⟩ : ByteArray) ++ (t119 ++ (⟨#[42]⟩ : ByteArray))) (a2.extract 0 ((ji10) : Int).toNat)).bind fun t122 => (if t122 = true then (imprimaturlaw13_GlobStars.j0 k (a0.extract 0 ((ji4) : Int).toNat) (a1.extract 0 ((ji7) : Int).toNat) (a2.extract 0 ((ji10) : Int).toNat) true) else ((imprimaturlaw13_alive.f).bind fun t123 => (imprimaturlaw13_GlobStars.j0 k (a0.extract 0 ((ji4) : Int).toNat) (a1.extract 0 ((ji7) : Int).toNat) (a2.extract 0 ((ji10) : Int).toNat) (!t123))))) else (none)) else (imprimaturlaw13_GlobStars.j0 k (a0.extract 0 ((ji4) : Int).toNat) (a1.extract 0 ((ji7) : Int).toNat) (a2.extract 0 ((ji10) : Int).toNat) true))) else (imprimaturlaw13_GlobStars.j0 k (a0.extract 0 ((ji4) : Int).toNat) (a1.extract 0 ((ji7) : Int).toNat) (a2.extract 0 ((ji10) : Int).toNat) true))) else (none)))) else ((imprimaturlaw13_alive.f).bind fun t116 => (if t116 = true then ((glob_Match.f (a2.extract 0 ((ji10) : Int).toNat) (a2.extract 0 ((ji10) : Int).toNat)).bind fun t117 => (some (!t117))) else (some false))))) else (none)) else (none)) = some r := by first | (rw [hji10] at H; exact H) | (simp only [hji10] at H ⊢; exact H)
          (try (have hji10h : ji10 ≤ 100 := by (rw [← hji10]; unfold mn; (repeat' split) <;> omega)))
          (try (have hji10g : ji10 ≤ 64 := by omega))
          (try (have hji10l : 0 ≤ ji10 := by (rw [← hji10]; unfold mn; (repeat' split) <;> omega)))
          (try (have hji10m : 0 ≤ ji10 := by omega))
          have hji10_ : (if 100 < (a2.size : Int) then 100 else (a2.size : Int)) = ji10 := hji10
          by_cases c11 : 0 ≤ (ji10)
          · rw [if_pos c11] at H
            have c11b0 := eq_true c11
            have c11b1 : decide (0 ≤ (ji10)) = true := decide_eq_true c11
            clear c11
            by_cases c12 : (ji10) ≤ (a2.size : Int)
            · rw [if_pos c12] at H
              have c12b0 := eq_true c12
              have c12b1 : decide ((ji10) ≤ (a2.size : Int)) = true := decide_eq_true c12
              clear c12
              replace H := Option.bind_eq_some_iff.mp H
              obtain ⟨t115, A130, H⟩ := H
              replace H : (if t115 = true then ((strings_Count.f (a2.extract 0 ((ji10) : Int).toNat) (⟨#[47]⟩ : ByteArray)).bind fun t118 => ((strings_Repeat.f (⟨#[42, 47]⟩ : ByteArray) t118).bind fun t119 => (if t119.size + 1 ≤ 9223372036854775807 then ((glob_Match.f (a2.extract 0 ((ji10) : Int).toNat) (a2.extract 0 ((ji10) : Int).toNat)).bind fun t120 => (if t120 = true then ((glob_Match.f (t119 ++ (⟨#[42]⟩ : ByteArray)) (a2.extract 0 ((ji10) : Int).toNat)).bind fun t121 => (if t121 = true then (if 2 + (t119 ++ (⟨#[42]⟩ : ByteArray)).size ≤ 9223372036854775807 then ((glob_Match.f ((⟨#[42, 47]⟩ : ByteArray) ++ (t119 ++ (⟨#[42]⟩ : ByteArray))) (a2.extract 0 ((ji10) : Int).toNat)).bind fun t122 => (if t122 = true then (imprimaturlaw13_GlobStars.j0 k (a0.extract 0 ((ji4) : Int).toNat) (a1.extract 0 ((ji7) : Int).toNat) (a2.extract 0 ((ji10) : Int).toNat) true) else ((imprimaturlaw13_alive.f).bind fun t123 => (imprimaturlaw13_GlobStars.j0 k (a0.extract 0 ((ji4) : Int).toNat) (a1.extract 0 ((ji7) : Int).toNat) (a2.extract 0 ((ji10) : Int).toNat) (!t123))))) else (none)) else (imprimaturlaw13_GlobStars.j0 k (a0.extract 0 ((ji4) : Int).toNat) (a1.extract 0 ((ji7) : Int).toNat) (a2.extract 0 ((ji10) : Int).toNat) true))) else (imprimaturlaw13_GlobStars.j0 k (a0.extract 0 ((ji4) : Int).toNat) (a1.extract 0 ((ji7) : Int).toNat) (a2.extract 0 ((ji10) : Int).toNat) true))) else (none)))) else ((imprimaturlaw13_alive.f).bind fun t116 => (if t116 = true then ((glob_Match.f (a2.extract 0 ((ji10) : Int).toNat) (a2.extract 0 ((ji10) : Int).toNat)).bind fun t117 => (some (!t117))) else (some false)))) = some r := H
              have A13 := Aside0.mk A130
              clear A130
              by_cases c14 : t115 = true
              · subst c14
                have H1 : ((strings_Count.f (a2.extract 0 ((ji10) : Int).toNat) (⟨#[47]⟩ : ByteArray)).bind fun t118 => ((strings_Repeat.f (⟨#[42, 47]⟩ : ByteArray) t118).bind fun t119 => (if t119.size + 1 ≤ 9223372036854775807 then ((glob_Match.f (a2.extract 0 ((ji10) : Int).toNat) (a2.extract 0 ((ji10) : Int).toNat)).bind fun t120 => (if t120 = true then ((glob_Match.f (t119 ++ (⟨#[42]⟩ : ByteArray)) (a2.extract 0 ((ji10) : Int).toNat)).bind fun t121 => (if t121 = true then (if 2 + (t119 ++ (⟨#[42]⟩ : ByteArray)).size ≤ 9223372036854775807 then ((glob_Match.f ((⟨#[42, 47]⟩ : ByteArray) ++ (t119 ++ (⟨#[42]⟩ : ByteArray))) (a2.extract 0 ((ji10) : Int).toNat)).bind fun t122 => (if t122 = true then (imprimaturlaw13_GlobStars.j0 k (a0.extract 0 ((ji4) : Int).toNat) (a1.extract 0 ((ji7) : Int).toNat) (a2.extract 0 ((ji10) : Int).toNat) true) else ((imprimaturlaw13_alive.f).bind fun t123 => (imprimaturlaw13_GlobStars.j0 k (a0.extract 0 ((ji4) : Int).toNat) (a1.extract 0 ((ji7) : Int).toNat) (a2.extract 0 ((ji10) : Int).toNat) (!t123))))) else (none)) else (imprimaturlaw13_GlobStars.j0 k (a0.extract 0 ((ji4) : Int).toNat) (a1.extract 0 ((ji7) : Int).toNat) (a2.extract 0 ((ji10) : Int).toNat) true))) else (imprimaturlaw13_GlobStars.j0 k (a0.extract 0 ((ji4) : Int).toNat) (a1.extract 0 ((ji7) : Int).toNat) (a2.extract 0 ((ji10) : Int).toNat) true))) else (none)))) = some r := by rw [if_pos rfl] at H; exact H
                clear H
                have H := H1
                clear H1
                replace H := Option.bind_eq_some_iff.mp H
                obtain ⟨t118, A150, H⟩ := H
                replace H : ((strings_Repeat.f (⟨#[42, 47]⟩ : ByteArray) t118).bind fun t119 => (if t119.size + 1 ≤ 9223372036854775807 then ((glob_Match.f (a2.extract 0 ((ji10) : Int).toNat) (a2.extract 0 ((ji10) : Int).toNat)).bind fun t120 => (if t120 = true then ((glob_Match.f (t119 ++ (⟨#[42]⟩ : ByteArray)) (a2.extract 0 ((ji10) : Int).toNat)).bind fun t121 => (if t121 = true then (if 2 + (t119 ++ (⟨#[42]⟩ : ByteArray)).size ≤ 9223372036854775807 then ((glob_Match.f ((⟨#[42, 47]⟩ : ByteArray) ++ (t119 ++ (⟨#[42]⟩ : ByteArray))) (a2.extract 0 ((ji10) : Int).toNat)).bind fun t122 => (if t122 = true then (imprimaturlaw13_GlobStars.j0 k (a0.extract 0 ((ji4) : Int).toNat) (a1.extract 0 ((ji7) : Int).toNat) (a2.extract 0 ((ji10) : Int).toNat) true) else ((imprimaturlaw13_alive.f).bind fun t123 => (imprimaturlaw13_GlobStars.j0 k (a0.extract 0 ((ji4) : Int).toNat) (a1.extract 0 ((ji7) : Int).toNat) (a2.extract 0 ((ji10) : Int).toNat) (!t123))))) else (none)) else (imprimaturlaw13_GlobStars.j0 k (a0.extract 0 ((ji4) : Int).toNat) (a1.extract 0 ((ji7) : Int).toNat) (a2.extract 0 ((ji10) : Int).toNat) true))) else (imprimaturlaw13_GlobStars.j0 k (a0.extract 0 ((ji4) : Int).toNat) (a1.extract 0 ((ji7) : Int).toNat) (a2.extract 0 ((ji10) : Int).toNat) true))) else (none))) = some r := H
                have A15 := Aside0.mk A150
                clear A150
                replace H := Option.bind_eq_some_iff.mp H
                obtain ⟨t119, A160, H⟩ := H
                replace H : (if t119.size + 1 ≤ 9223372036854775807 then ((glob_Match.f (a2.extract 0 ((ji10) : Int).toNat) (a2.extract 0 ((ji10) : Int).toNat)).bind fun t120 => (if t120 = true then ((glob_Match.f (t119 ++ (⟨#[42]⟩ : ByteArray)) (a2.extract 0 ((ji10) : Int).toNat)).bind fun t121 => (if t121 = true then (if 2 + (t119 ++ (⟨#[42]⟩ : ByteArray)).size ≤ 9223372036854775807 then ((glob_Match.f ((⟨#[42, 47]⟩ : ByteArray) ++ (t119 ++ (⟨#[42]⟩ : ByteArray))) (a2.extract 0 ((ji10) : Int).toNat)).bind fun t122 => (if t122 = true then (imprimaturlaw13_GlobStars.j0 k (a0.extract 0 ((ji4) : Int).toNat) (a1.extract 0 ((ji7) : Int).toNat) (a2.extract 0 ((ji10) : Int).toNat) true) else ((imprimaturlaw13_alive.f).bind fun t123 => (imprimaturlaw13_GlobStars.j0 k (a0.extract 0 ((ji4) : Int).toNat) (a1.extract 0 ((ji7) : Int).toNat) (a2.extract 0 ((ji10) : Int).toNat) (!t123))))) else (none)) else (imprimaturlaw13_GlobStars.j0 k (a0.extract 0 ((ji4) : Int).toNat) (a1.extract 0 ((ji7) : Int).toNat) (a2.extract 0 ((ji10) : Int).toNat) true))) else (imprimaturlaw13_GlobStars.j0 k (a0.extract 0 ((ji4) : Int).toNat) (a1.extract 0 ((ji7) : Int).toNat) (a2.extract 0 ((ji10) : Int).toNat) true))) else (none)) = some r := H
                have A16 := Aside0.mk A160
                clear A160
                by_cases c17 : t119.size + 1 ≤ 9223372036854775807
                · rw [if_pos c17] at H
                  have c17b0 := eq_true c17
                  have c17b1 : decide (t119.size + 1 ≤ 9223372036854775807) = true := decide_eq_true c17
                  try have c17b2 : (9223372036854775807 < t119.size + 1) = False := eq_false (Nat.not_lt.2 c17)
                  have HC18 := Aside0.mk H
                  clear H
                  go_enter Tryd.func6, Tryd.ntmps6
                  go_upto_region 5 with (first | (go_at_call 8; (with_reducible refine (imprimaturref13_Right.calls k (a2.extract 0 ((ji10) : Int).toNat) false true _ A13.out).mono ?_); rintro e w19 ⟨rfl, hb⟩; have n0_ := Aside0.mk (below_step (by repeat (first | (with_reducible first | exact HB.out | apply below_alloc | apply pw_below_drewN | apply below_drew1) | exact HB.out)) hb); clear HB; have HB := n0_; clear n0_; (try clear hb); (try clear hb2); (try clear hk); (try clear hi)) | (go_at_call 17; (with_reducible refine (strings_Count.calls (a2.extract 0 ((ji10) : Int).toNat) (⟨#[47]⟩ : ByteArray) t118 _ A15.out).mono ?_); rintro e w' ⟨rfl, ⟨nd, rfl⟩⟩; (try first | exact ⟨rfl, _, World.drewN_drewN _ _ _⟩ | exact ⟨rfl, _, Eq.trans (World.drewN_drewN _ _ _) (congrArg (World.drewN _) (Nat.add_assoc _ _ _))⟩)) | (go_at_call 16; (with_reducible refine (strings_Repeat.calls (⟨#[42, 47]⟩ : ByteArray) t118 t119 _ A16.out).mono ?_); rintro e w20 ⟨rfl, hb⟩; have n0_ := Aside0.mk (below_step (by repeat (first | (with_reducible first | exact HB.out | apply below_alloc | apply pw_below_drewN | apply below_drew1) | exact HB.out)) hb); clear HB; have HB := n0_; clear n0_; (try clear hb); (try clear hb2); (try clear hk); (try clear hi)))
                  repeat (go_quiet (first | (go_at_call 8; (with_reducible refine (imprimaturref13_Right.calls k (a2.extract 0 ((ji10) : Int).toNat) false true _ A13.out).mono ?_); rintro e w19 ⟨rfl, hb⟩; have n0_ := Aside0.mk (below_step (by repeat (first | (with_reducible first | exact HB.out | apply below_alloc | apply pw_below_drewN | apply below_drew1) | exact HB.out)) hb); clear HB; have HB := n0_; clear n0_; (try clear hb); (try clear hb2); (try clear hk); (try clear hi)) | (go_at_call 17; (with_reducible refine (strings_Count.calls (a2.extract 0 ((ji10) : Int).toNat) (⟨#[47]⟩ : ByteArray) t118 _ A15.out).mono ?_); rintro e w' ⟨rfl, ⟨nd, rfl⟩⟩; (try first | exact ⟨rfl, _, World.drewN_drewN _ _ _⟩ | exact ⟨rfl, _, Eq.trans (World.drewN_drewN _ _ _) (congrArg (World.drewN _) (Nat.add_assoc _ _ _))⟩)) | (go_at_call 16; (with_reducible refine (strings_Repeat.calls (⟨#[42, 47]⟩ : ByteArray) t118 t119 _ A16.out).mono ?_); rintro e w20 ⟨rfl, hb⟩; have n0_ := Aside0.mk (below_step (by repeat (first | (with_reducible first | exact HB.out | apply below_alloc | apply pw_below_drewN | apply below_drew1) | exact HB.out)) hb); clear HB; have HB := n0_; clear n0_; (try clear hb); (try clear hb2); (try clear hk); (try clear hi))); go_upto_region 5 with (first | (go_at_call 8; (with_reducible refine (imprimaturref13_Right.calls k (a2.extract 0 ((ji10) : Int).toNat) false true _ A13.out).mono ?_); rintro e w19 ⟨rfl, hb⟩; have n0_ := Aside0.mk (below_step (by repeat (first | (with_reducible first | exact HB.out | apply below_alloc | apply pw_below_drewN | apply below_drew1) | exact HB.out)) hb); clear HB; have HB := n0_; clear n0_; (try clear hb); (try clear hb2); (try clear hk); (try clear hi)) | (go_at_call 17; (with_reducible refine (strings_Count.calls (a2.extract 0 ((ji10) : Int).toNat) (⟨#[47]⟩ : ByteArray) t118 _ A15.out).mono ?_); rintro e w' ⟨rfl, ⟨nd, rfl⟩⟩; (try first | exact ⟨rfl, _, World.drewN_drewN _ _ _⟩ | exact ⟨rfl, _, Eq.trans (World.drewN_drewN _ _ _) (congrArg (World.drewN _) (Nat.add_assoc _ _ _))⟩)) | (go_at_call 16; (with_reducible refine (strings_Repeat.calls (⟨#[42, 47]⟩ : ByteArray) t118 t119 _ A16.out).mono ?_); rintro e w20 ⟨rfl, hb⟩; have n0_ := Aside0.mk (below_step (by repeat (first | (with_reducible first | exact HB.out | apply below_alloc | apply pw_below_drewN | apply below_drew1) | exact HB.out)) hb); clear HB; have HB := n0_; clear n0_; (try clear hb); (try clear hb2); (try clear hk); (try clear hi))))
                  (try simp only [Act.put, List.setIfInBounds_toArray, List.set_cons_zero, List.set_cons_succ])
                  go_cut [58] (fun v58 wc => ∃ (kq : Nat) (x58_17 : Bool), v58 = .bool x58_17 ∧ Aside0 (imprimaturlaw13_GlobStars.j0 kq (a0.extract 0 ((ji4) : Int).toNat) (a1.extract 0 ((ji7) : Int).toNat) (a2.extract 0 ((ji10) : Int).toNat) x58_17 = some r) ∧ Aside0 (kq ≤ k) ∧ Aside0 (Below w.heap.size w wc))
                  case first =>
                    have H := HC18.out
                    clear HC18
                    replace H := Option.bind_eq_some_iff.mp H
                    obtain ⟨t120, A210, H⟩ := H
                    replace H : (if t120 = true then ((glob_Match.f (t119 ++ (⟨#[42]⟩ : ByteArray)) (a2.extract 0 ((ji10) : Int).toNat)).bind fun t121 => (if t121 = true then (if 2 + (t119 ++ (⟨#[42]⟩ : ByteArray)).size ≤ 9223372036854775807 then ((glob_Match.f ((⟨#[42, 47]⟩ : ByteArray) ++ (t119 ++ (⟨#[42]⟩ : ByteArray))) (a2.extract 0 ((ji10) : Int).toNat)).bind fun t122 => (if t122 = true then (imprimaturlaw13_GlobStars.j0 k (a0.extract 0 ((ji4) : Int).toNat) (a1.extract 0 ((ji7) : Int).toNat) (a2.extract 0 ((ji10) : Int).toNat) true) else ((imprimaturlaw13_alive.f).bind fun t123 => (imprimaturlaw13_GlobStars.j0 k (a0.extract 0 ((ji4) : Int).toNat) (a1.extract 0 ((ji7) : Int).toNat) (a2.extract 0 ((ji10) : Int).toNat) (!t123))))) else (none)) else (imprimaturlaw13_GlobStars.j0 k (a0.extract 0 ((ji4) : Int).toNat) (a1.extract 0 ((ji7) : Int).toNat) (a2.extract 0 ((ji10) : Int).toNat) true))) else (imprimaturlaw13_GlobStars.j0 k (a0.extract 0 ((ji4) : Int).toNat) (a1.extract 0 ((ji7) : Int).toNat) (a2.extract 0 ((ji10) : Int).toNat) true)) = some r := H
                    have A21 := Aside0.mk A210
                    clear A210
                    by_cases c22 : t120 = true
                    · subst c22
                      have H1 : ((glob_Match.f (t119 ++ (⟨#[42]⟩ : ByteArray)) (a2.extract 0 ((ji10) : Int).toNat)).bind fun t121 => (if t121 = true then (if 2 + (t119 ++ (⟨#[42]⟩ : ByteArray)).size ≤ 9223372036854775807 then ((glob_Match.f ((⟨#[42, 47]⟩ : ByteArray) ++ (t119 ++ (⟨#[42]⟩ : ByteArray))) (a2.extract 0 ((ji10) : Int).toNat)).bind fun t122 => (if t122 = true then (imprimaturlaw13_GlobStars.j0 k (a0.extract 0 ((ji4) : Int).toNat) (a1.extract 0 ((ji7) : Int).toNat) (a2.extract 0 ((ji10) : Int).toNat) true) else ((imprimaturlaw13_alive.f).bind fun t123 => (imprimaturlaw13_GlobStars.j0 k (a0.extract 0 ((ji4) : Int).toNat) (a1.extract 0 ((ji7) : Int).toNat) (a2.extract 0 ((ji10) : Int).toNat) (!t123))))) else (none)) else (imprimaturlaw13_GlobStars.j0 k (a0.extract 0 ((ji4) : Int).toNat) (a1.extract 0 ((ji7) : Int).toNat) (a2.extract 0 ((ji10) : Int).toNat) true))) = some r := by rw [if_pos rfl] at H; exact H
                      clear H
                      have H := H1
                      clear H1
                      replace H := Option.bind_eq_some_iff.mp H
                      obtain ⟨t121, A230, H⟩ := H
                      replace H : (if t121 = true then (if 2 + (t119 ++ (⟨#[42]⟩ : ByteArray)).size ≤ 9223372036854775807 then ((glob_Match.f ((⟨#[42, 47]⟩ : ByteArray) ++ (t119 ++ (⟨#[42]⟩ : ByteArray))) (a2.extract 0 ((ji10) : Int).toNat)).bind fun t122 => (if t122 = true then (imprimaturlaw13_GlobStars.j0 k (a0.extract 0 ((ji4) : Int).toNat) (a1.extract 0 ((ji7) : Int).toNat) (a2.extract 0 ((ji10) : Int).toNat) true) else ((imprimaturlaw13_alive.f).bind fun t123 => (imprimaturlaw13_GlobStars.j0 k (a0.extract 0 ((ji4) : Int).toNat) (a1.extract 0 ((ji7) : Int).toNat) (a2.extract 0 ((ji10) : Int).toNat) (!t123))))) else (none)) else (imprimaturlaw13_GlobStars.j0 k (a0.extract 0 ((ji4) : Int).toNat) (a1.extract 0 ((ji7) : Int).toNat) (a2.extract 0 ((ji10) : Int).toNat) true)) = some r := H
                      have A23 := Aside0.mk A230
                      clear A230
                      by_cases c24 : t121 = true
                      · subst c24
                        have H1 : (if 2 + (t119 ++ (⟨#[42]⟩ : ByteArray)).size ≤ 9223372036854775807 then ((glob_Match.f ((⟨#[42, 47]⟩ : ByteArray) ++ (t119 ++ (⟨#[42]⟩ : ByteArray))) (a2.extract 0 ((ji10) : Int).toNat)).bind fun t122 => (if t122 = true then (imprimaturlaw13_GlobStars.j0 k (a0.extract 0 ((ji4) : Int).toNat) (a1.extract 0 ((ji7) : Int).toNat) (a2.extract 0 ((ji10) : Int).toNat) true) else ((imprimaturlaw13_alive.f).bind fun t123 => (imprimaturlaw13_GlobStars.j0 k (a0.extract 0 ((ji4) : Int).toNat) (a1.extract 0 ((ji7) : Int).toNat) (a2.extract 0 ((ji10) : Int).toNat) (!t123))))) else (none)) = some r := by rw [if_pos rfl] at H; exact H
                        clear H
                        have H := H1
                        clear H1
                        by_cases c25 : 2 + (t119 ++ (⟨#[42]⟩ : ByteArray)).size ≤ 9223372036854775807
                        · rw [if_pos c25] at H
                          have c25b0 := eq_true c25
                          have c25b1 : decide (2 + (t119 ++ (⟨#[42]⟩ : ByteArray)).size ≤ 9223372036854775807) = true := decide_eq_true c25
                          try have c25b2 : (9223372036854775807 < 2 + (t119 ++ (⟨#[42]⟩ : ByteArray)).size) = False := eq_false (Nat.not_lt.2 c25)
                          have c25x : (9223372036854775807 < 2 + (t119.size + 1)) = False := eq_false (by have c25' := c25; rw [ByteArray.size_append] at c25'; have e : (⟨#[42]⟩ : ByteArray).size = 1 := rfl; omega)
                          replace H := Option.bind_eq_some_iff.mp H
                          obtain ⟨t122, A260, H⟩ := H
                          replace H : (if t122 = true then (imprimaturlaw13_GlobStars.j0 k (a0.extract 0 ((ji4) : Int).toNat) (a1.extract 0 ((ji7) : Int).toNat) (a2.extract 0 ((ji10) : Int).toNat) true) else ((imprimaturlaw13_alive.f).bind fun t123 => (imprimaturlaw13_GlobStars.j0 k (a0.extract 0 ((ji4) : Int).toNat) (a1.extract 0 ((ji7) : Int).toNat) (a2.extract 0 ((ji10) : Int).toNat) (!t123)))) = some r := H
                          have A26 := Aside0.mk A260
                          clear A260
                          by_cases c27 : t122 = true
                          · subst c27
                            have H1 : (imprimaturlaw13_GlobStars.j0 k (a0.extract 0 ((ji4) : Int).toNat) (a1.extract 0 ((ji7) : Int).toNat) (a2.extract 0 ((ji10) : Int).toNat) true) = some r := by rw [if_pos rfl] at H; exact H
                            clear H
                            have H := H1
                            clear H1
                            have H' := Aside0.mk H
                            clear H
                            go_wp2_with (first | (go_at_call 13; (with_reducible refine (glob_Match.calls (a2.extract 0 ((ji10) : Int).toNat) (a2.extract 0 ((ji10) : Int).toNat) true _ A21.out).mono ?_); rintro e w28 ⟨rfl, hb⟩; have n0_ := Aside0.mk (below_step (by repeat (first | (with_reducible first | exact HB.out | apply below_alloc | apply pw_below_drewN | apply below_drew1) | exact HB.out)) hb); clear HB; have HB := n0_; clear n0_; (try clear hb); (try clear hb2); (try clear hk); (try clear hi)) | (go_at_call 13; (with_reducible refine (glob_Match.calls (t119 ++ (⟨#[42]⟩ : ByteArray)) (a2.extract 0 ((ji10) : Int).toNat) true _ A23.out).mono ?_); rintro e w29 ⟨rfl, hb⟩; have n0_ := Aside0.mk (below_step (by repeat (first | (with_reducible first | exact HB.out | apply below_alloc | apply pw_below_drewN | apply below_drew1) | exact HB.out)) hb); clear HB; have HB := n0_; clear n0_; (try clear hb); (try clear hb2); (try clear hk); (try clear hi)) | (go_at_call 13; (with_reducible refine (glob_Match.calls ((⟨#[42, 47]⟩ : ByteArray) ++ (t119 ++ (⟨#[42]⟩ : ByteArray))) (a2.extract 0 ((ji10) : Int).toNat) true _ A26.out).mono ?_); rintro e w30 ⟨rfl, hb⟩; have n0_ := Aside0.mk (below_step (by repeat (first | (with_reducible first | exact HB.out | apply below_alloc | apply pw_below_drewN | apply below_drew1) | exact HB.out)) hb); clear HB; have HB := n0_; clear n0_; (try clear hb); (try clear hb2); (try clear hk); (try clear hi)))
                            repeat (go_quiet (first | (go_at_call 13; (with_reducible refine (glob_Match.calls (a2.extract 0 ((ji10) : Int).toNat) (a2.extract 0 ((ji10) : Int).toNat) true _ A21.out).mono ?_); rintro e w28 ⟨rfl, hb⟩; have n0_ := Aside0.mk (below_step (by repeat (first | (with_reducible first | exact HB.out | apply below_alloc | apply pw_below_drewN | apply below_drew1) | exact HB.out)) hb); clear HB; have HB := n0_; clear n0_; (try clear hb); (try clear hb2); (try clear hk); (try clear hi)) | (go_at_call 13; (with_reducible refine (glob_Match.calls (t119 ++ (⟨#[42]⟩ : ByteArray)) (a2.extract 0 ((ji10) : Int).toNat) true _ A23.out).mono ?_); rintro e w29 ⟨rfl, hb⟩; have n0_ := Aside0.mk (below_step (by repeat (first | (with_reducible first | exact HB.out | apply below_alloc | apply pw_below_drewN | apply below_drew1) | exact HB.out)) hb); clear HB; have HB := n0_; clear n0_; (try clear hb); (try clear hb2); (try clear hk); (try clear hi)) | (go_at_call 13; (with_reducible refine (glob_Match.calls ((⟨#[42, 47]⟩ : ByteArray) ++ (t119 ++ (⟨#[42]⟩ : ByteArray))) (a2.extract 0 ((ji10) : Int).toNat) true _ A26.out).mono ?_); rintro e w30 ⟨rfl, hb⟩; have n0_ := Aside0.mk (below_step (by repeat (first | (with_reducible first | exact HB.out | apply below_alloc | apply pw_below_drewN | apply below_drew1) | exact HB.out)) hb); clear HB; have HB := n0_; clear n0_; (try clear hb); (try clear hb2); (try clear hk); (try clear hi))); try go_wp2_with (first | (go_at_call 13; (with_reducible refine (glob_Match.calls (a2.extract 0 ((ji10) : Int).toNat) (a2.extract 0 ((ji10) : Int).toNat) true _ A21.out).mono ?_); rintro e w28 ⟨rfl, hb⟩; have n0_ := Aside0.mk (below_step (by repeat (first | (with_reducible first | exact HB.out | apply below_alloc | apply pw_below_drewN | apply below_drew1) | exact HB.out)) hb); clear HB; have HB := n0_; clear n0_; (try clear hb); (try clear hb2); (try clear hk); (try clear hi)) | (go_at_call 13; (with_reducible refine (glob_Match.calls (t119 ++ (⟨#[42]⟩ : ByteArray)) (a2.extract 0 ((ji10) : Int).toNat) true _ A23.out).mono ?_); rintro e w29 ⟨rfl, hb⟩; have n0_ := Aside0.mk (below_step (by repeat (first | (with_reducible first | exact HB.out | apply below_alloc | apply pw_below_drewN | apply below_drew1) | exact HB.out)) hb); clear HB; have HB := n0_; clear n0_; (try clear hb); (try clear hb2); (try clear hk); (try clear hi)) | (go_at_call 13; (with_reducible refine (glob_Match.calls ((⟨#[42, 47]⟩ : ByteArray) ++ (t119 ++ (⟨#[42]⟩ : ByteArray))) (a2.extract 0 ((ji10) : Int).toNat) true _ A26.out).mono ?_); rintro e w30 ⟨rfl, hb⟩; have n0_ := Aside0.mk (below_step (by repeat (first | (with_reducible first | exact HB.out | apply below_alloc | apply pw_below_drewN | apply below_drew1) | exact HB.out)) hb); clear HB; have HB := n0_; clear n0_; (try clear hb); (try clear hb2); (try clear hk); (try clear hi))))
                            go_meet
                            case rel => exact ⟨_, (true), (by first | rfl | (simp; done) | (simp [*]; done)), H', ⟨by first | omega | exact Nat.le_refl _⟩, ⟨by repeat (first | (with_reducible first | exact HB.out | apply below_alloc | apply pw_below_drewN | apply below_drew1) | exact HB.out)⟩⟩
                          · replace c27 := Bool.eq_false_iff.mpr c27
                            subst c27
                            have H1 : ((imprimaturlaw13_alive.f).bind fun t123 => (imprimaturlaw13_GlobStars.j0 k (a0.extract 0 ((ji4) : Int).toNat) (a1.extract 0 ((ji7) : Int).toNat) (a2.extract 0 ((ji10) : Int).toNat) (!t123))) = some r := by rw [if_neg (show ¬ (false = true) by decide)] at H; exact H
                            clear H
                            have H := H1
                            clear H1
                            replace H := Option.bind_eq_some_iff.mp H
                            obtain ⟨t123, A310, H⟩ := H
                            replace H : (imprimaturlaw13_GlobStars.j0 k (a0.extract 0 ((ji4) : Int).toNat) (a1.extract 0 ((ji7) : Int).toNat) (a2.extract 0 ((ji10) : Int).toNat) (!t123)) = some r := H
                            have A31 := Aside0.mk A310
                            clear A310
                            have H' := Aside0.mk H
                            clear H
                            go_wp2_with (first | (go_at_call 13; (with_reducible refine (glob_Match.calls (a2.extract 0 ((ji10) : Int).toNat) (a2.extract 0 ((ji10) : Int).toNat) true _ A21.out).mono ?_); rintro e w32 ⟨rfl, hb⟩; have n0_ := Aside0.mk (below_step (by repeat (first | (with_reducible first | exact HB.out | apply below_alloc | apply pw_below_drewN | apply below_drew1) | exact HB.out)) hb); clear HB; have HB := n0_; clear n0_; (try clear hb); (try clear hb2); (try clear hk); (try clear hi)) | (go_at_call 13; (with_reducible refine (glob_Match.calls (t119 ++ (⟨#[42]⟩ : ByteArray)) (a2.extract 0 ((ji10) : Int).toNat) true _ A23.out).mono ?_); rintro e w33 ⟨rfl, hb⟩; have n0_ := Aside0.mk (below_step (by repeat (first | (with_reducible first | exact HB.out | apply below_alloc | apply pw_below_drewN | apply below_drew1) | exact HB.out)) hb); clear HB; have HB := n0_; clear n0_; (try clear hb); (try clear hb2); (try clear hk); (try clear hi)) | (go_at_call 13; (with_reducible refine (glob_Match.calls ((⟨#[42, 47]⟩ : ByteArray) ++ (t119 ++ (⟨#[42]⟩ : ByteArray))) (a2.extract 0 ((ji10) : Int).toNat) false _ A26.out).mono ?_); rintro e w34 ⟨rfl, hb⟩; have n0_ := Aside0.mk (below_step (by repeat (first | (with_reducible first | exact HB.out | apply below_alloc | apply pw_below_drewN | apply below_drew1) | exact HB.out)) hb); clear HB; have HB := n0_; clear n0_; (try clear hb); (try clear hb2); (try clear hk); (try clear hi)) | (go_at_call 14; (with_reducible refine (imprimaturlaw13_alive.calls  t123 _ A31.out).mono ?_); rintro e w35 ⟨rfl, hb⟩; have n0_ := Aside0.mk (below_step (by repeat (first | (with_reducible first | exact HB.out | apply below_alloc | apply pw_below_drewN | apply below_drew1) | exact HB.out)) hb); clear HB; have HB := n0_; clear n0_; (try clear hb); (try clear hb2); (try clear hk); (try clear hi)))
                            repeat (go_quiet (first | (go_at_call 13; (with_reducible refine (glob_Match.calls (a2.extract 0 ((ji10) : Int).toNat) (a2.extract 0 ((ji10) : Int).toNat) true _ A21.out).mono ?_); rintro e w32 ⟨rfl, hb⟩; have n0_ := Aside0.mk (below_step (by repeat (first | (with_reducible first | exact HB.out | apply below_alloc | apply pw_below_drewN | apply below_drew1) | exact HB.out)) hb); clear HB; have HB := n0_; clear n0_; (try clear hb); (try clear hb2); (try clear hk); (try clear hi)) | (go_at_call 13; (with_reducible refine (glob_Match.calls (t119 ++ (⟨#[42]⟩ : ByteArray)) (a2.extract 0 ((ji10) : Int).toNat) true _ A23.out).mono ?_); rintro e w33 ⟨rfl, hb⟩; have n0_ := Aside0.mk (below_step (by repeat (first | (with_reducible first | exact HB.out | apply below_alloc | apply pw_below_drewN | apply below_drew1) | exact HB.out)) hb); clear HB; have HB := n0_; clear n0_; (try clear hb); (try clear hb2); (try clear hk); (try clear hi)) | (go_at_call 13; (with_reducible refine (glob_Match.calls ((⟨#[42, 47]⟩ : ByteArray) ++ (t119 ++ (⟨#[42]⟩ : ByteArray))) (a2.extract 0 ((ji10) : Int).toNat) false _ A26.out).mono ?_); rintro e w34 ⟨rfl, hb⟩; have n0_ := Aside0.mk (below_step (by repeat (first | (with_reducible first | exact HB.out | apply below_alloc | apply pw_below_drewN | apply below_drew1) | exact HB.out)) hb); clear HB; have HB := n0_; clear n0_; (try clear hb); (try clear hb2); (try clear hk); (try clear hi)) | (go_at_call 14; (with_reducible refine (imprimaturlaw13_alive.calls  t123 _ A31.out).mono ?_); rintro e w35 ⟨rfl, hb⟩; have n0_ := Aside0.mk (below_step (by repeat (first | (with_reducible first | exact HB.out | apply below_alloc | apply pw_below_drewN | apply below_drew1) | exact HB.out)) hb); clear HB; have HB := n0_; clear n0_; (try clear hb); (try clear hb2); (try clear hk); (try clear hi))); try go_wp2_with (first | (go_at_call 13; (with_reducible refine (glob_Match.calls (a2.extract 0 ((ji10) : Int).toNat) (a2.extract 0 ((ji10) : Int).toNat) true _ A21.out).mono ?_); rintro e w32 ⟨rfl, hb⟩; have n0_ := Aside0.mk (below_step (by repeat (first | (with_reducible first | exact HB.out | apply below_alloc | apply pw_below_drewN | apply below_drew1) | exact HB.out)) hb); clear HB; have HB := n0_; clear n0_; (try clear hb); (try clear hb2); (try clear hk); (try clear hi)) | (go_at_call 13; (with_reducible refine (glob_Match.calls (t119 ++ (⟨#[42]⟩ : ByteArray)) (a2.extract 0 ((ji10) : Int).toNat) true _ A23.out).mono ?_); rintro e w33 ⟨rfl, hb⟩; have n0_ := Aside0.mk (below_step (by repeat (first | (with_reducible first | exact HB.out | apply below_alloc | apply pw_below_drewN | apply below_drew1) | exact HB.out)) hb); clear HB; have HB := n0_; clear n0_; (try clear hb); (try clear hb2); (try clear hk); (try clear hi)) | (go_at_call 13; (with_reducible refine (glob_Match.calls ((⟨#[42, 47]⟩ : ByteArray) ++ (t119 ++ (⟨#[42]⟩ : ByteArray))) (a2.extract 0 ((ji10) : Int).toNat) false _ A26.out).mono ?_); rintro e w34 ⟨rfl, hb⟩; have n0_ := Aside0.mk (below_step (by repeat (first | (with_reducible first | exact HB.out | apply below_alloc | apply pw_below_drewN | apply below_drew1) | exact HB.out)) hb); clear HB; have HB := n0_; clear n0_; (try clear hb); (try clear hb2); (try clear hk); (try clear hi)) | (go_at_call 14; (with_reducible refine (imprimaturlaw13_alive.calls  t123 _ A31.out).mono ?_); rintro e w35 ⟨rfl, hb⟩; have n0_ := Aside0.mk (below_step (by repeat (first | (with_reducible first | exact HB.out | apply below_alloc | apply pw_below_drewN | apply below_drew1) | exact HB.out)) hb); clear HB; have HB := n0_; clear n0_; (try clear hb); (try clear hb2); (try clear hk); (try clear hi))))
                            go_meet
                            case rel => exact ⟨_, (!t123), (by first | rfl | (simp; done) | (simp [*]; done)), H', ⟨by first | omega | exact Nat.le_refl _⟩, ⟨by repeat (first | (with_reducible first | exact HB.out | apply below_alloc | apply pw_below_drewN | apply below_drew1) | exact HB.out)⟩⟩
                        · rw [if_neg c25] at H
                          exact absurd H (by simp)
                      · replace c24 := Bool.eq_false_iff.mpr c24
                        subst c24
                        have H1 : (imprimaturlaw13_GlobStars.j0 k (a0.extract 0 ((ji4) : Int).toNat) (a1.extract 0 ((ji7) : Int).toNat) (a2.extract 0 ((ji10) : Int).toNat) true) = some r := by rw [if_neg (show ¬ (false = true) by decide)] at H; exact H
                        clear H
                        have H := H1
                        clear H1
                        have H' := Aside0.mk H
                        clear H
                        go_wp2_with (first | (go_at_call 13; (with_reducible refine (glob_Match.calls (a2.extract 0 ((ji10) : Int).toNat) (a2.extract 0 ((ji10) : Int).toNat) true _ A21.out).mono ?_); rintro e w36 ⟨rfl, hb⟩; have n0_ := Aside0.mk (below_step (by repeat (first | (with_reducible first | exact HB.out | apply below_alloc | apply pw_below_drewN | apply below_drew1) | exact HB.out)) hb); clear HB; have HB := n0_; clear n0_; (try clear hb); (try clear hb2); (try clear hk); (try clear hi)) | (go_at_call 13; (with_reducible refine (glob_Match.calls (t119 ++ (⟨#[42]⟩ : ByteArray)) (a2.extract 0 ((ji10) : Int).toNat) false _ A23.out).mono ?_); rintro e w37 ⟨rfl, hb⟩; have n0_ := Aside0.mk (below_step (by repeat (first | (with_reducible first | exact HB.out | apply below_alloc | apply pw_below_drewN | apply below_drew1) | exact HB.out)) hb); clear HB; have HB := n0_; clear n0_; (try clear hb); (try clear hb2); (try clear hk); (try clear hi)))
                        repeat (go_quiet (first | (go_at_call 13; (with_reducible refine (glob_Match.calls (a2.extract 0 ((ji10) : Int).toNat) (a2.extract 0 ((ji10) : Int).toNat) true _ A21.out).mono ?_); rintro e w36 ⟨rfl, hb⟩; have n0_ := Aside0.mk (below_step (by repeat (first | (with_reducible first | exact HB.out | apply below_alloc | apply pw_below_drewN | apply below_drew1) | exact HB.out)) hb); clear HB; have HB := n0_; clear n0_; (try clear hb); (try clear hb2); (try clear hk); (try clear hi)) | (go_at_call 13; (with_reducible refine (glob_Match.calls (t119 ++ (⟨#[42]⟩ : ByteArray)) (a2.extract 0 ((ji10) : Int).toNat) false _ A23.out).mono ?_); rintro e w37 ⟨rfl, hb⟩; have n0_ := Aside0.mk (below_step (by repeat (first | (with_reducible first | exact HB.out | apply below_alloc | apply pw_below_drewN | apply below_drew1) | exact HB.out)) hb); clear HB; have HB := n0_; clear n0_; (try clear hb); (try clear hb2); (try clear hk); (try clear hi))); try go_wp2_with (first | (go_at_call 13; (with_reducible refine (glob_Match.calls (a2.extract 0 ((ji10) : Int).toNat) (a2.extract 0 ((ji10) : Int).toNat) true _ A21.out).mono ?_); rintro e w36 ⟨rfl, hb⟩; have n0_ := Aside0.mk (below_step (by repeat (first | (with_reducible first | exact HB.out | apply below_alloc | apply pw_below_drewN | apply below_drew1) | exact HB.out)) hb); clear HB; have HB := n0_; clear n0_; (try clear hb); (try clear hb2); (try clear hk); (try clear hi)) | (go_at_call 13; (with_reducible refine (glob_Match.calls (t119 ++ (⟨#[42]⟩ : ByteArray)) (a2.extract 0 ((ji10) : Int).toNat) false _ A23.out).mono ?_); rintro e w37 ⟨rfl, hb⟩; have n0_ := Aside0.mk (below_step (by repeat (first | (with_reducible first | exact HB.out | apply below_alloc | apply pw_below_drewN | apply below_drew1) | exact HB.out)) hb); clear HB; have HB := n0_; clear n0_; (try clear hb); (try clear hb2); (try clear hk); (try clear hi))))
                        go_meet
                        case rel => exact ⟨_, (true), (by first | rfl | (simp; done) | (simp [*]; done)), H', ⟨by first | omega | exact Nat.le_refl _⟩, ⟨by repeat (first | (with_reducible first | exact HB.out | apply below_alloc | apply pw_below_drewN | apply below_drew1) | exact HB.out)⟩⟩
                    · replace c22 := Bool.eq_false_iff.mpr c22
                      subst c22
                      have H1 : (imprimaturlaw13_GlobStars.j0 k (a0.extract 0 ((ji4) : Int).toNat) (a1.extract 0 ((ji7) : Int).toNat) (a2.extract 0 ((ji10) : Int).toNat) true) = some r := by rw [if_neg (show ¬ (false = true) by decide)] at H; exact H
                      clear H
                      have H := H1
                      clear H1
                      have H' := Aside0.mk H
                      clear H
                      go_wp2_with (first | (go_at_call 13; (with_reducible refine (glob_Match.calls (a2.extract 0 ((ji10) : Int).toNat) (a2.extract 0 ((ji10) : Int).toNat) false _ A21.out).mono ?_); rintro e w38 ⟨rfl, hb⟩; have n0_ := Aside0.mk (below_step (by repeat (first | (with_reducible first | exact HB.out | apply below_alloc | apply pw_below_drewN | apply below_drew1) | exact HB.out)) hb); clear HB; have HB := n0_; clear n0_; (try clear hb); (try clear hb2); (try clear hk); (try clear hi)))
                      repeat (go_quiet (first | (go_at_call 13; (with_reducible refine (glob_Match.calls (a2.extract 0 ((ji10) : Int).toNat) (a2.extract 0 ((ji10) : Int).toNat) false _ A21.out).mono ?_); rintro e w38 ⟨rfl, hb⟩; have n0_ := Aside0.mk (below_step (by repeat (first | (with_reducible first | exact HB.out | apply below_alloc | apply pw_below_drewN | apply below_drew1) | exact HB.out)) hb); clear HB; have HB := n0_; clear n0_; (try clear hb); (try clear hb2); (try clear hk); (try clear hi))); try go_wp2_with (first | (go_at_call 13; (with_reducible refine (glob_Match.calls (a2.extract 0 ((ji10) : Int).toNat) (a2.extract 0 ((ji10) : Int).toNat) false _ A21.out).mono ?_); rintro e w38 ⟨rfl, hb⟩; have n0_ := Aside0.mk (below_step (by repeat (first | (with_reducible first | exact HB.out | apply below_alloc | apply pw_below_drewN | apply below_drew1) | exact HB.out)) hb); clear HB; have HB := n0_; clear n0_; (try clear hb); (try clear hb2); (try clear hk); (try clear hi))))
                      go_meet
                      case rel => exact ⟨_, (true), (by first | rfl | (simp; done) | (simp [*]; done)), H', ⟨by first | omega | exact Nat.le_refl _⟩, ⟨by repeat (first | (with_reducible first | exact HB.out | apply below_alloc | apply pw_below_drewN | apply below_drew1) | exact HB.out)⟩⟩
                  case rest =>
                    clear HC18
                    try clear c1
                    try clear c2
                    try clear p2
                    try clear c5
                    try clear c5b0
                    try clear c5b1
                    try clear c6
                    try clear c6b0
                    try clear c6b1
                    try clear c8
                    try clear c8b0
                    try clear c8b1
                    try clear c9
                    try clear c9b0
                    try clear c9b1
                    try clear c11
                    try clear c11b0
                    try clear c11b1
                    try clear c12
                    try clear c12b0
                    try clear c12b1
                    try clear c14
                    try clear c17
                    try clear c17b0
                    try clear c17b1
                    try clear c17b2
                    try clear c22
                    try clear c24
                    try clear c25
                    try clear c25b0
                    try clear c25b1
                    try clear c25b2
                    try clear c27
                    obtain ⟨kq, x58_17, rfl, HA, HJ17, HB⟩ := hcut
                    cases kq with
                    | zero => exact absurd HA.out (by simp [imprimaturlaw13_GlobStars.j0])
                    | succ kj17 =>
                      have H := HA.out
                      clear HA
                      simp only [imprimaturlaw13_GlobStars.j0] at H
                      by_cases c39 : x58_17 = true
                      · subst c39
                        have H1 : (some false) = some r := by rw [if_pos rfl] at H; exact H
                        clear H
                        have H := H1
                        clear H1
                        obtain rfl := Option.some.inj H
                        go_wp2
                        repeat (go_quiet (fail); try go_wp2)
                        go_ret
                        exact ⟨by first | rfl | (simp [errW_none, errW_some] <;> rfl) | (simp only [← hji4, ← hji7, ← hji10]; first | rfl | (simp [errW_none, errW_some] <;> rfl)) | (simp [*, errW_none, errW_some] <;> rfl), by repeat (first | (with_reducible first | exact HB.out | apply below_alloc | apply pw_below_drewN | apply below_drew1) | exact HB.out)⟩
                      · replace c39 := Bool.eq_false_iff.mpr c39
                        subst c39
                        have H1 : (if (a0.extract 0 ((ji4) : Int).toNat).size + 1 ≤ 9223372036854775807 then (if ((a0.extract 0 ((ji4) : Int).toNat) ++ (⟨#[42]⟩ : ByteArray)).size + (a1.extract 0 ((ji7) : Int).toNat).size ≤ 9223372036854775807 then ((imprimaturref13_Right.f kj17 (((a0.extract 0 ((ji4) : Int).toNat) ++ (⟨#[42]⟩ : ByteArray)) ++ (a1.extract 0 ((ji7) : Int).toNat)) true).bind fun t124 => (if t124 = true then (if (a0.extract 0 ((ji4) : Int).toNat).size + (a1.extract 0 ((ji7) : Int).toNat).size ≤ 9223372036854775807 then ((strings_ContainsAny.f ((a0.extract 0 ((ji4) : Int).toNat) ++ (a1.extract 0 ((ji7) : Int).toNat)) (⟨#[42, 63, 47]⟩ : ByteArray)).bind fun t125 => (if t125 = true then (imprimaturlaw13_GlobStars.j1 kj17 (a0.extract 0 ((ji4) : Int).toNat) (a1.extract 0 ((ji7) : Int).toNat) (a2.extract 0 ((ji10) : Int).toNat) (((a0.extract 0 ((ji4) : Int).toNat) ++ (⟨#[42]⟩ : ByteArray)) ++ (a1.extract 0 ((ji7) : Int).toNat)) true) else ((strings_Contains.f (a2.extract 0 ((ji10) : Int).toNat) (⟨#[47]⟩ : ByteArray)).bind fun t126 => (imprimaturlaw13_GlobStars.j1 kj17 (a0.extract 0 ((ji4) : Int).toNat) (a1.extract 0 ((ji7) : Int).toNat) (a2.extract 0 ((ji10) : Int).toNat) (((a0.extract 0 ((ji4) : Int).toNat) ++ (⟨#[42]⟩ : ByteArray)) ++ (a1.extract 0 ((ji7) : Int).toNat)) t126)))) else (none)) else (imprimaturlaw13_GlobStars.j1 kj17 (a0.extract 0 ((ji4) : Int).toNat) (a1.extract 0 ((ji7) : Int).toNat) (a2.extract 0 ((ji10) : Int).toNat) (((a0.extract 0 ((ji4) : Int).toNat) ++ (⟨#[42]⟩ : ByteArray)) ++ (a1.extract 0 ((ji7) : Int).toNat)) true))) else (none)) else (none)) = some r := by rw [if_neg (show ¬ (false = true) by decide)] at H; exact H
                        clear H
                        have H := H1
                        clear H1
                        by_cases c40 : (a0.extract 0 ((ji4) : Int).toNat).size + 1 ≤ 9223372036854775807
                        · rw [if_pos c40] at H
                          have c40b0 := eq_true c40
                          have c40b1 : decide ((a0.extract 0 ((ji4) : Int).toNat).size + 1 ≤ 9223372036854775807) = true := decide_eq_true c40
                          try have c40b2 : (9223372036854775807 < (a0.extract 0 ((ji4) : Int).toNat).size + 1) = False := eq_false (Nat.not_lt.2 c40)
                          by_cases c41 : ((a0.extract 0 ((ji4) : Int).toNat) ++ (⟨#[42]⟩ : ByteArray)).size + (a1.extract 0 ((ji7) : Int).toNat).size ≤ 9223372036854775807
                          · rw [if_pos c41] at H
                            have c41b0 := eq_true c41
                            have c41b1 : decide (((a0.extract 0 ((ji4) : Int).toNat) ++ (⟨#[42]⟩ : ByteArray)).size + (a1.extract 0 ((ji7) : Int).toNat).size ≤ 9223372036854775807) = true := decide_eq_true c41
                            try have c41b2 : (9223372036854775807 < ((a0.extract 0 ((ji4) : Int).toNat) ++ (⟨#[42]⟩ : ByteArray)).size + (a1.extract 0 ((ji7) : Int).toNat).size) = False := eq_false (Nat.not_lt.2 c41)
                            have HC42 := Aside0.mk H
                            clear H
                            go_upto_region 8 with (fail)
                            repeat (go_quiet (fail); go_upto_region 8 with (fail))
                            go_cut [75] (fun v75 wc => ∃ (kq : Nat) (x75_41 : Bool), v75 = .bool x75_41 ∧ Aside0 (imprimaturlaw13_GlobStars.j1 kq (a0.extract 0 ((ji4) : Int).toNat) (a1.extract 0 ((ji7) : Int).toNat) (a2.extract 0 ((ji10) : Int).toNat) (((a0.extract 0 ((ji4) : Int).toNat) ++ (⟨#[42]⟩ : ByteArray)) ++ (a1.extract 0 ((ji7) : Int).toNat)) x75_41 = some r) ∧ Aside0 (kq ≤ kj17) ∧ Aside0 (Below w.heap.size w wc))
                            case first =>
                              have H := HC42.out
                              clear HC42
                              replace H := Option.bind_eq_some_iff.mp H
                              obtain ⟨t124, A430, H⟩ := H
                              replace H : (if t124 = true then (if (a0.extract 0 ((ji4) : Int).toNat).size + (a1.extract 0 ((ji7) : Int).toNat).size ≤ 9223372036854775807 then ((strings_ContainsAny.f ((a0.extract 0 ((ji4) : Int).toNat) ++ (a1.extract 0 ((ji7) : Int).toNat)) (⟨#[42, 63, 47]⟩ : ByteArray)).bind fun t125 => (if t125 = true then (imprimaturlaw13_GlobStars.j1 kj17 (a0.extract 0 ((ji4) : Int).toNat) (a1.extract 0 ((ji7) : Int).toNat) (a2.extract 0 ((ji10) : Int).toNat) (((a0.extract 0 ((ji4) : Int).toNat) ++ (⟨#[42]⟩ : ByteArray)) ++ (a1.extract 0 ((ji7) : Int).toNat)) true) else ((strings_Contains.f (a2.extract 0 ((ji10) : Int).toNat) (⟨#[47]⟩ : ByteArray)).bind fun t126 => (imprimaturlaw13_GlobStars.j1 kj17 (a0.extract 0 ((ji4) : Int).toNat) (a1.extract 0 ((ji7) : Int).toNat) (a2.extract 0 ((ji10) : Int).toNat) (((a0.extract 0 ((ji4) : Int).toNat) ++ (⟨#[42]⟩ : ByteArray)) ++ (a1.extract 0 ((ji7) : Int).toNat)) t126)))) else (none)) else (imprimaturlaw13_GlobStars.j1 kj17 (a0.extract 0 ((ji4) : Int).toNat) (a1.extract 0 ((ji7) : Int).toNat) (a2.extract 0 ((ji10) : Int).toNat) (((a0.extract 0 ((ji4) : Int).toNat) ++ (⟨#[42]⟩ : ByteArray)) ++ (a1.extract 0 ((ji7) : Int).toNat)) true)) = some r := H
                              have A43 := Aside0.mk A430
                              clear A430
                              by_cases c44 : t124 = true
                              · subst c44
                                have H1 : (if (a0.extract 0 ((ji4) : Int).toNat).size + (a1.extract 0 ((ji7) : Int).toNat).size ≤ 9223372036854775807 then ((strings_ContainsAny.f ((a0.extract 0 ((ji4) : Int).toNat) ++ (a1.extract 0 ((ji7) : Int).toNat)) (⟨#[42, 63, 47]⟩ : ByteArray)).bind fun t125 => (if t125 = true then (imprimaturlaw13_GlobStars.j1 kj17 (a0.extract 0 ((ji4) : Int).toNat) (a1.extract 0 ((ji7) : Int).toNat) (a2.extract 0 ((ji10) : Int).toNat) (((a0.extract 0 ((ji4) : Int).toNat) ++ (⟨#[42]⟩ : ByteArray)) ++ (a1.extract 0 ((ji7) : Int).toNat)) true) else ((strings_Contains.f (a2.extract 0 ((ji10) : Int).toNat) (⟨#[47]⟩ : ByteArray)).bind fun t126 => (imprimaturlaw13_GlobStars.j1 kj17 (a0.extract 0 ((ji4) : Int).toNat) (a1.extract 0 ((ji7) : Int).toNat) (a2.extract 0 ((ji10) : Int).toNat) (((a0.extract 0 ((ji4) : Int).toNat) ++ (⟨#[42]⟩ : ByteArray)) ++ (a1.extract 0 ((ji7) : Int).toNat)) t126)))) else (none)) = some r := by rw [if_pos rfl] at H; exact H
                                clear H
                                have H := H1
                                clear H1
                                by_cases c45 : (a0.extract 0 ((ji4) : Int).toNat).size + (a1.extract 0 ((ji7) : Int).toNat).size ≤ 9223372036854775807
                                · rw [if_pos c45] at H
                                  have c45b0 := eq_true c45
                                  have c45b1 : decide ((a0.extract 0 ((ji4) : Int).toNat).size + (a1.extract 0 ((ji7) : Int).toNat).size ≤ 9223372036854775807) = true := decide_eq_true c45
                                  try have c45b2 : (9223372036854775807 < (a0.extract 0 ((ji4) : Int).toNat).size + (a1.extract 0 ((ji7) : Int).toNat).size) = False := eq_false (Nat.not_lt.2 c45)
                                  replace H := Option.bind_eq_some_iff.mp H
                                  obtain ⟨t125, A460, H⟩ := H
                                  replace H : (if t125 = true then (imprimaturlaw13_GlobStars.j1 kj17 (a0.extract 0 ((ji4) : Int).toNat) (a1.extract 0 ((ji7) : Int).toNat) (a2.extract 0 ((ji10) : Int).toNat) (((a0.extract 0 ((ji4) : Int).toNat) ++ (⟨#[42]⟩ : ByteArray)) ++ (a1.extract 0 ((ji7) : Int).toNat)) true) else ((strings_Contains.f (a2.extract 0 ((ji10) : Int).toNat) (⟨#[47]⟩ : ByteArray)).bind fun t126 => (imprimaturlaw13_GlobStars.j1 kj17 (a0.extract 0 ((ji4) : Int).toNat) (a1.extract 0 ((ji7) : Int).toNat) (a2.extract 0 ((ji10) : Int).toNat) (((a0.extract 0 ((ji4) : Int).toNat) ++ (⟨#[42]⟩ : ByteArray)) ++ (a1.extract 0 ((ji7) : Int).toNat)) t126))) = some r := H
                                  have A46 := Aside0.mk A460
                                  clear A460
                                  by_cases c47 : t125 = true
                                  · subst c47
                                    have H1 : (imprimaturlaw13_GlobStars.j1 kj17 (a0.extract 0 ((ji4) : Int).toNat) (a1.extract 0 ((ji7) : Int).toNat) (a2.extract 0 ((ji10) : Int).toNat) (((a0.extract 0 ((ji4) : Int).toNat) ++ (⟨#[42]⟩ : ByteArray)) ++ (a1.extract 0 ((ji7) : Int).toNat)) true) = some r := by rw [if_pos rfl] at H; exact H
                                    clear H
                                    have H := H1
                                    clear H1
                                    have H' := Aside0.mk H
                                    clear H
                                    go_wp2_with (first | (go_at_call 8; (with_reducible refine (imprimaturref13_Right.calls kj17 (((a0.extract 0 ((ji4) : Int).toNat) ++ (⟨#[42]⟩ : ByteArray)) ++ (a1.extract 0 ((ji7) : Int).toNat)) true true _ A43.out).mono ?_); rintro e w48 ⟨rfl, hb⟩; have n0_ := Aside0.mk (below_step (by repeat (first | (with_reducible first | exact HB.out | apply below_alloc | apply pw_below_drewN | apply below_drew1) | exact HB.out)) hb); clear HB; have HB := n0_; clear n0_; (try clear hb); (try clear hb2); (try clear hk); (try clear hi)) | (go_at_call 18; (with_reducible refine (strings_ContainsAny.calls ((a0.extract 0 ((ji4) : Int).toNat) ++ (a1.extract 0 ((ji7) : Int).toNat)) (⟨#[42, 63, 47]⟩ : ByteArray) true _ A46.out).mono ?_); rintro e w49 ⟨rfl, hb⟩; have n0_ := Aside0.mk (below_step (by repeat (first | (with_reducible first | exact HB.out | apply below_alloc | apply pw_below_drewN | apply below_drew1) | exact HB.out)) hb); clear HB; have HB := n0_; clear n0_; (try clear hb); (try clear hb2); (try clear hk); (try clear hi)))
                                    repeat (go_quiet (first | (go_at_call 8; (with_reducible refine (imprimaturref13_Right.calls kj17 (((a0.extract 0 ((ji4) : Int).toNat) ++ (⟨#[42]⟩ : ByteArray)) ++ (a1.extract 0 ((ji7) : Int).toNat)) true true _ A43.out).mono ?_); rintro e w48 ⟨rfl, hb⟩; have n0_ := Aside0.mk (below_step (by repeat (first | (with_reducible first | exact HB.out | apply below_alloc | apply pw_below_drewN | apply below_drew1) | exact HB.out)) hb); clear HB; have HB := n0_; clear n0_; (try clear hb); (try clear hb2); (try clear hk); (try clear hi)) | (go_at_call 18; (with_reducible refine (strings_ContainsAny.calls ((a0.extract 0 ((ji4) : Int).toNat) ++ (a1.extract 0 ((ji7) : Int).toNat)) (⟨#[42, 63, 47]⟩ : ByteArray) true _ A46.out).mono ?_); rintro e w49 ⟨rfl, hb⟩; have n0_ := Aside0.mk (below_step (by repeat (first | (with_reducible first | exact HB.out | apply below_alloc | apply pw_below_drewN | apply below_drew1) | exact HB.out)) hb); clear HB; have HB := n0_; clear n0_; (try clear hb); (try clear hb2); (try clear hk); (try clear hi))); try go_wp2_with (first | (go_at_call 8; (with_reducible refine (imprimaturref13_Right.calls kj17 (((a0.extract 0 ((ji4) : Int).toNat) ++ (⟨#[42]⟩ : ByteArray)) ++ (a1.extract 0 ((ji7) : Int).toNat)) true true _ A43.out).mono ?_); rintro e w48 ⟨rfl, hb⟩; have n0_ := Aside0.mk (below_step (by repeat (first | (with_reducible first | exact HB.out | apply below_alloc | apply pw_below_drewN | apply below_drew1) | exact HB.out)) hb); clear HB; have HB := n0_; clear n0_; (try clear hb); (try clear hb2); (try clear hk); (try clear hi)) | (go_at_call 18; (with_reducible refine (strings_ContainsAny.calls ((a0.extract 0 ((ji4) : Int).toNat) ++ (a1.extract 0 ((ji7) : Int).toNat)) (⟨#[42, 63, 47]⟩ : ByteArray) true _ A46.out).mono ?_); rintro e w49 ⟨rfl, hb⟩; have n0_ := Aside0.mk (below_step (by repeat (first | (with_reducible first | exact HB.out | apply below_alloc | apply pw_below_drewN | apply below_drew1) | exact HB.out)) hb); clear HB; have HB := n0_; clear n0_; (try clear hb); (try clear hb2); (try clear hk); (try clear hi))))
                                    go_meet
                                    case rel => exact ⟨_, (true), (by first | rfl | (simp; done) | (simp [*]; done)), H', ⟨by have := HJ17.out; first | omega | exact Nat.le_refl _⟩, ⟨by repeat (first | (with_reducible first | exact HB.out | apply below_alloc | apply pw_below_drewN | apply below_drew1) | exact HB.out)⟩⟩
                                  · replace c47 := Bool.eq_false_iff.mpr c47
                                    subst c47
                                    have H1 : ((strings_Contains.f (a2.extract 0 ((ji10) : Int).toNat) (⟨#[47]⟩ : ByteArray)).bind fun t126 => (imprimaturlaw13_GlobStars.j1 kj17 (a0.extract 0 ((ji4) : Int).toNat) (a1.extract 0 ((ji7) : Int).toNat) (a2.extract 0 ((ji10) : Int).toNat) (((a0.extract 0 ((ji4) : Int).toNat) ++ (⟨#[42]⟩ : ByteArray)) ++ (a1.extract 0 ((ji7) : Int).toNat)) t126)) = some r := by rw [if_neg (show ¬ (false = true) by decide)] at H; exact H
                                    clear H
                                    have H := H1
                                    clear H1
                                    replace H := Option.bind_eq_some_iff.mp H
                                    obtain ⟨t126, A500, H⟩ := H
                                    replace H : (imprimaturlaw13_GlobStars.j1 kj17 (a0.extract 0 ((ji4) : Int).toNat) (a1.extract 0 ((ji7) : Int).toNat) (a2.extract 0 ((ji10) : Int).toNat) (((a0.extract 0 ((ji4) : Int).toNat) ++ (⟨#[42]⟩ : ByteArray)) ++ (a1.extract 0 ((ji7) : Int).toNat)) t126) = some r := H
                                    have A50 := Aside0.mk A500
                                    clear A500
                                    have H' := Aside0.mk H
                                    clear H
                                    go_wp2_with (first | (go_at_call 8; (with_reducible refine (imprimaturref13_Right.calls kj17 (((a0.extract 0 ((ji4) : Int).toNat) ++ (⟨#[42]⟩ : ByteArray)) ++ (a1.extract 0 ((ji7) : Int).toNat)) true true _ A43.out).mono ?_); rintro e w51 ⟨rfl, hb⟩; have n0_ := Aside0.mk (below_step (by repeat (first | (with_reducible first | exact HB.out | apply below_alloc | apply pw_below_drewN | apply below_drew1) | exact HB.out)) hb); clear HB; have HB := n0_; clear n0_; (try clear hb); (try clear hb2); (try clear hk); (try clear hi)) | (go_at_call 18; (with_reducible refine (strings_ContainsAny.calls ((a0.extract 0 ((ji4) : Int).toNat) ++ (a1.extract 0 ((ji7) : Int).toNat)) (⟨#[42, 63, 47]⟩ : ByteArray) false _ A46.out).mono ?_); rintro e w52 ⟨rfl, hb⟩; have n0_ := Aside0.mk (below_step (by repeat (first | (with_reducible first | exact HB.out | apply below_alloc | apply pw_below_drewN | apply below_drew1) | exact HB.out)) hb); clear HB; have HB := n0_; clear n0_; (try clear hb); (try clear hb2); (try clear hk); (try clear hi)) | (go_at_call 15; (with_reducible refine (strings_Contains.calls (a2.extract 0 ((ji10) : Int).toNat) (⟨#[47]⟩ : ByteArray) t126 _ A50.out).mono ?_); rintro e w' ⟨rfl, ⟨nd, rfl⟩⟩; (try first | exact ⟨rfl, _, World.drewN_drewN _ _ _⟩ | exact ⟨rfl, _, Eq.trans (World.drewN_drewN _ _ _) (congrArg (World.drewN _) (Nat.add_assoc _ _ _))⟩)))
                                    repeat (go_quiet (first | (go_at_call 8; (with_reducible refine (imprimaturref13_Right.calls kj17 (((a0.extract 0 ((ji4) : Int).toNat) ++ (⟨#[42]⟩ : ByteArray)) ++ (a1.extract 0 ((ji7) : Int).toNat)) true true _ A43.out).mono ?_); rintro e w51 ⟨rfl, hb⟩; have n0_ := Aside0.mk (below_step (by repeat (first | (with_reducible first | exact HB.out | apply below_alloc | apply pw_below_drewN | apply below_drew1) | exact HB.out)) hb); clear HB; have HB := n0_; clear n0_; (try clear hb); (try clear hb2); (try clear hk); (try clear hi)) | (go_at_call 18; (with_reducible refine (strings_ContainsAny.calls ((a0.extract 0 ((ji4) : Int).toNat) ++ (a1.extract 0 ((ji7) : Int).toNat)) (⟨#[42, 63, 47]⟩ : ByteArray) false _ A46.out).mono ?_); rintro e w52 ⟨rfl, hb⟩; have n0_ := Aside0.mk (below_step (by repeat (first | (with_reducible first | exact HB.out | apply below_alloc | apply pw_below_drewN | apply below_drew1) | exact HB.out)) hb); clear HB; have HB := n0_; clear n0_; (try clear hb); (try clear hb2); (try clear hk); (try clear hi)) | (go_at_call 15; (with_reducible refine (strings_Contains.calls (a2.extract 0 ((ji10) : Int).toNat) (⟨#[47]⟩ : ByteArray) t126 _ A50.out).mono ?_); rintro e w' ⟨rfl, ⟨nd, rfl⟩⟩; (try first | exact ⟨rfl, _, World.drewN_drewN _ _ _⟩ | exact ⟨rfl, _, Eq.trans (World.drewN_drewN _ _ _) (congrArg (World.drewN _) (Nat.add_assoc _ _ _))⟩))); try go_wp2_with (first | (go_at_call 8; (with_reducible refine (imprimaturref13_Right.calls kj17 (((a0.extract 0 ((ji4) : Int).toNat) ++ (⟨#[42]⟩ : ByteArray)) ++ (a1.extract 0 ((ji7) : Int).toNat)) true true _ A43.out).mono ?_); rintro e w51 ⟨rfl, hb⟩; have n0_ := Aside0.mk (below_step (by repeat (first | (with_reducible first | exact HB.out | apply below_alloc | apply pw_below_drewN | apply below_drew1) | exact HB.out)) hb); clear HB; have HB := n0_; clear n0_; (try clear hb); (try clear hb2); (try clear hk); (try clear hi)) | (go_at_call 18; (with_reducible refine (strings_ContainsAny.calls ((a0.extract 0 ((ji4) : Int).toNat) ++ (a1.extract 0 ((ji7) : Int).toNat)) (⟨#[42, 63, 47]⟩ : ByteArray) false _ A46.out).mono ?_); rintro e w52 ⟨rfl, hb⟩; have n0_ := Aside0.mk (below_step (by repeat (first | (with_reducible first | exact HB.out | apply below_alloc | apply pw_below_drewN | apply below_drew1) | exact HB.out)) hb); clear HB; have HB := n0_; clear n0_; (try clear hb); (try clear hb2); (try clear hk); (try clear hi)) | (go_at_call 15; (with_reducible refine (strings_Contains.calls (a2.extract 0 ((ji10) : Int).toNat) (⟨#[47]⟩ : ByteArray) t126 _ A50.out).mono ?_); rintro e w' ⟨rfl, ⟨nd, rfl⟩⟩; (try first | exact ⟨rfl, _, World.drewN_drewN _ _ _⟩ | exact ⟨rfl, _, Eq.trans (World.drewN_drewN _ _ _) (congrArg (World.drewN _) (Nat.add_assoc _ _ _))⟩))))
                                    go_meet
                                    case rel => exact ⟨_, (t126), (by first | rfl | (simp; done) | (simp [*]; done)), H', ⟨by have := HJ17.out; first | omega | exact Nat.le_refl _⟩, ⟨by repeat (first | (with_reducible first | exact HB.out | apply below_alloc | apply pw_below_drewN | apply below_drew1) | exact HB.out)⟩⟩
                                · rw [if_neg c45] at H
                                  exact absurd H (by simp)
                              · replace c44 := Bool.eq_false_iff.mpr c44
                                subst c44
                                have H1 : (imprimaturlaw13_GlobStars.j1 kj17 (a0.extract 0 ((ji4) : Int).toNat) (a1.extract 0 ((ji7) : Int).toNat) (a2.extract 0 ((ji10) : Int).toNat) (((a0.extract 0 ((ji4) : Int).toNat) ++ (⟨#[42]⟩ : ByteArray)) ++ (a1.extract 0 ((ji7) : Int).toNat)) true) = some r := by rw [if_neg (show ¬ (false = true) by decide)] at H; exact H
                                clear H
                                have H := H1
                                clear H1
                                have H' := Aside0.mk H
                                clear H
                                go_wp2_with (first | (go_at_call 8; (with_reducible refine (imprimaturref13_Right.calls kj17 (((a0.extract 0 ((ji4) : Int).toNat) ++ (⟨#[42]⟩ : ByteArray)) ++ (a1.extract 0 ((ji7) : Int).toNat)) true false _ A43.out).mono ?_); rintro e w53 ⟨rfl, hb⟩; have n0_ := Aside0.mk (below_step (by repeat (first | (with_reducible first | exact HB.out | apply below_alloc | apply pw_below_drewN | apply below_drew1) | exact HB.out)) hb); clear HB; have HB := n0_; clear n0_; (try clear hb); (try clear hb2); (try clear hk); (try clear hi)))
                                repeat (go_quiet (first | (go_at_call 8; (with_reducible refine (imprimaturref13_Right.calls kj17 (((a0.extract 0 ((ji4) : Int).toNat) ++ (⟨#[42]⟩ : ByteArray)) ++ (a1.extract 0 ((ji7) : Int).toNat)) true false _ A43.out).mono ?_); rintro e w53 ⟨rfl, hb⟩; have n0_ := Aside0.mk (below_step (by repeat (first | (with_reducible first | exact HB.out | apply below_alloc | apply pw_below_drewN | apply below_drew1) | exact HB.out)) hb); clear HB; have HB := n0_; clear n0_; (try clear hb); (try clear hb2); (try clear hk); (try clear hi))); try go_wp2_with (first | (go_at_call 8; (with_reducible refine (imprimaturref13_Right.calls kj17 (((a0.extract 0 ((ji4) : Int).toNat) ++ (⟨#[42]⟩ : ByteArray)) ++ (a1.extract 0 ((ji7) : Int).toNat)) true false _ A43.out).mono ?_); rintro e w53 ⟨rfl, hb⟩; have n0_ := Aside0.mk (below_step (by repeat (first | (with_reducible first | exact HB.out | apply below_alloc | apply pw_below_drewN | apply below_drew1) | exact HB.out)) hb); clear HB; have HB := n0_; clear n0_; (try clear hb); (try clear hb2); (try clear hk); (try clear hi))))
                                go_meet
                                case rel => exact ⟨_, (true), (by first | rfl | (simp; done) | (simp [*]; done)), H', ⟨by have := HJ17.out; first | omega | exact Nat.le_refl _⟩, ⟨by repeat (first | (with_reducible first | exact HB.out | apply below_alloc | apply pw_below_drewN | apply below_drew1) | exact HB.out)⟩⟩
                            case rest =>
                              clear HC42
                              try clear c1
                              try clear c2
                              try clear p2
                              try clear c3
                              try clear c4
                              try clear c5
                              try clear c5b0
                              try clear c5b1
                              try clear c6
                              try clear c6b0
                              try clear c6b1
                              try clear c8
                              try clear c8b0
                              try clear c8b1
                              try clear c9
                              try clear c9b0
                              try clear c9b1
                              try clear c11
                              try clear c11b0
                              try clear c11b1
                              try clear c12
                              try clear c12b0
                              try clear c12b1
                              try clear c14
                              try clear c17
                              try clear c17b0
                              try clear c17b1
                              try clear c17b2
                              try clear c22
                              try clear c24
                              try clear c25
                              try clear c25b0
                              try clear c25b1
                              try clear c25b2
                              try clear c27
                              try clear c39
                              try clear c40
                              try clear c40b0
                              try clear c40b1
                              try clear c40b2
                              try clear c41
                              try clear c41b0
                              try clear c41b1
                              try clear c41b2
                              try clear c44
                              try clear c45
                              try clear c45b0
                              try clear c45b1
                              try clear c45b2
                              try clear c47
                              try clear p2
                              obtain ⟨kq, x75_41, rfl, HA, HJ41, HB⟩ := hcut
                              cases kq with
                              | zero => exact absurd HA.out (by simp [imprimaturlaw13_GlobStars.j1])
                              | succ kj41 =>
                                have H := HA.out
                                clear HA
                                simp only [imprimaturlaw13_GlobStars.j1] at H
                                by_cases c54 : x75_41 = true
                                · subst c54
                                  have H1 : (some true) = some r := by rw [if_pos rfl] at H; exact H
                                  clear H
                                  have H := H1
                                  clear H1
                                  obtain rfl := Option.some.inj H
                                  go_wp2
                                  repeat (go_quiet (fail); try go_wp2)
                                  go_ret
                                  exact ⟨by first | rfl | (simp [errW_none, errW_some] <;> rfl) | (simp only [← hji4, ← hji7, ← hji10]; first | rfl | (simp [errW_none, errW_some] <;> rfl)) | (simp [*, errW_none, errW_some] <;> rfl), by repeat (first | (with_reducible first | exact HB.out | apply below_alloc | apply pw_below_drewN | apply below_drew1) | exact HB.out)⟩
                                · replace c54 := Bool.eq_false_iff.mpr c54
                                  subst c54
                                  have H1 : (if ((a2.extract 0 ((ji10) : Int).toNat).size : Int) ≥ (wrap64 (((a0.extract 0 ((ji4) : Int).toNat).size : Int) + ((a1.extract 0 ((ji7) : Int).toNat).size : Int))) then ((strings_HasPrefix.f (a2.extract 0 ((ji10) : Int).toNat) (a0.extract 0 ((ji4) : Int).toNat)).bind fun t127 => (if t127 = true then ((strings_HasSuffix.f (a2.extract 0 ((ji10) : Int).toNat) (a1.extract 0 ((ji7) : Int).toNat)).bind fun t128 => ((glob_Match.f (((a0.extract 0 ((ji4) : Int).toNat) ++ (⟨#[42]⟩ : ByteArray)) ++ (a1.extract 0 ((ji7) : Int).toNat)) (a2.extract 0 ((ji10) : Int).toNat)).bind fun t129 => (some (t129 == t128)))) else ((glob_Match.f (((a0.extract 0 ((ji4) : Int).toNat) ++ (⟨#[42]⟩ : ByteArray)) ++ (a1.extract 0 ((ji7) : Int).toNat)) (a2.extract 0 ((ji10) : Int).toNat)).bind fun t130 => (some (t130 == false))))) else ((glob_Match.f (((a0.extract 0 ((ji4) : Int).toNat) ++ (⟨#[42]⟩ : ByteArray)) ++ (a1.extract 0 ((ji7) : Int).toNat)) (a2.extract 0 ((ji10) : Int).toNat)).bind fun t131 => (some (t131 == false)))) = some r := by rw [if_neg (show ¬ (false = true) by decide)] at H; exact H
                                  clear H
                                  have H := H1
                                  clear H1
                                  by_cases c55 : ((a2.extract 0 ((ji10) : Int).toNat).size : Int) ≥ (wrap64 (((a0.extract 0 ((ji4) : Int).toNat).size : Int) + ((a1.extract 0 ((ji7) : Int).toNat).size : Int)))
                                  · rw [if_pos c55] at H
                                    have c55b0 : decide ((wrap64 (((a0.extract 0 ((ji4) : Int).toNat).size : Int) + ((a1.extract 0 ((ji7) : Int).toNat).size : Int))) ≤ ((a2.extract 0 ((ji10) : Int).toNat).size : Int)) = true := decide_eq_true c55
                                    have c55d : ¬ (((min ji10.toNat a2.size : Nat) : Int) < ((min ji4.toNat a0.size : Nat) : Int) + ((min ji7.toNat a1.size : Nat) : Int)) := by
                                      have c55' := of_decide_eq_true c55b0
                                      simp only [ByteArray.size_extract, Nat.sub_zero] at c55'
                                      unfold wrap64 at c55'
                                      omega
                                    have c55x := eq_false c55d
                                    have c55y : decide (((min ji4.toNat a0.size : Nat) : Int) + ((min ji7.toNat a1.size : Nat) : Int) ≤ ((min ji10.toNat a2.size : Nat) : Int)) = true := decide_eq_true (by omega)
                                    clear c55d
                                    clear c55
                                    replace H := Option.bind_eq_some_iff.mp H
                                    obtain ⟨t127, A560, H⟩ := H
                                    replace H : (if t127 = true then ((strings_HasSuffix.f (a2.extract 0 ((ji10) : Int).toNat) (a1.extract 0 ((ji7) : Int).toNat)).bind fun t128 => ((glob_Match.f (((a0.extract 0 ((ji4) : Int).toNat) ++ (⟨#[42]⟩ : ByteArray)) ++ (a1.extract 0 ((ji7) : Int).toNat)) (a2.extract 0 ((ji10) : Int).toNat)).bind fun t129 => (some (t129 == t128)))) else ((glob_Match.f (((a0.extract 0 ((ji4) : Int).toNat) ++ (⟨#[42]⟩ : ByteArray)) ++ (a1.extract 0 ((ji7) : Int).toNat)) (a2.extract 0 ((ji10) : Int).toNat)).bind fun t130 => (some (t130 == false)))) = some r := H
                                    have A56 := Aside0.mk A560
                                    clear A560
                                    by_cases c57 : t127 = true
                                    · subst c57
                                      have H1 : ((strings_HasSuffix.f (a2.extract 0 ((ji10) : Int).toNat) (a1.extract 0 ((ji7) : Int).toNat)).bind fun t128 => ((glob_Match.f (((a0.extract 0 ((ji4) : Int).toNat) ++ (⟨#[42]⟩ : ByteArray)) ++ (a1.extract 0 ((ji7) : Int).toNat)) (a2.extract 0 ((ji10) : Int).toNat)).bind fun t129 => (some (t129 == t128)))) = some r := by rw [if_pos rfl] at H; exact H
                                      clear H
                                      have H := H1
                                      clear H1
                                      replace H := Option.bind_eq_some_iff.mp H
                                      obtain ⟨t128, A580, H⟩ := H
                                      replace H : ((glob_Match.f (((a0.extract 0 ((ji4) : Int).toNat) ++ (⟨#[42]⟩ : ByteArray)) ++ (a1.extract 0 ((ji7) : Int).toNat)) (a2.extract 0 ((ji10) : Int).toNat)).bind fun t129 => (some (t129 == t128))) = some r := H
                                      have A58 := Aside0.mk A580
                                      clear A580
                                      replace H := Option.bind_eq_some_iff.mp H
                                      obtain ⟨t129, A590, H⟩ := H
                                      replace H : (some (t129 == t128)) = some r := H
                                      have A59 := Aside0.mk A590
                                      clear A590
                                      obtain rfl := Option.some.inj H
                                      go_wp2_with (first | (go_at_call 19; (with_reducible refine (strings_HasPrefix.calls (a2.extract 0 ((ji10) : Int).toNat) (a0.extract 0 ((ji4) : Int).toNat) true _ A56.out).mono ?_); rintro e w' ⟨rfl, ⟨nd, rfl⟩⟩; (try first | exact ⟨rfl, _, World.drewN_drewN _ _ _⟩ | exact ⟨rfl, _, Eq.trans (World.drewN_drewN _ _ _) (congrArg (World.drewN _) (Nat.add_assoc _ _ _))⟩)) | (go_at_call 20; (with_reducible refine (strings_HasSuffix.calls (a2.extract 0 ((ji10) : Int).toNat) (a1.extract 0 ((ji7) : Int).toNat) t128 _ A58.out).mono ?_); rintro e w' ⟨rfl, ⟨nd, rfl⟩⟩; (try first | exact ⟨rfl, _, World.drewN_drewN _ _ _⟩ | exact ⟨rfl, _, Eq.trans (World.drewN_drewN _ _ _) (congrArg (World.drewN _) (Nat.add_assoc _ _ _))⟩)) | (go_at_call 13; (with_reducible refine (glob_Match.calls (((a0.extract 0 ((ji4) : Int).toNat) ++ (⟨#[42]⟩ : ByteArray)) ++ (a1.extract 0 ((ji7) : Int).toNat)) (a2.extract 0 ((ji10) : Int).toNat) t129 _ A59.out).mono ?_); rintro e w60 ⟨rfl, hb⟩; have n0_ := Aside0.mk (below_step (by repeat (first | (with_reducible first | exact HB.out | apply below_alloc | apply pw_below_drewN | apply below_drew1) | exact HB.out)) hb); clear HB; have HB := n0_; clear n0_; (try clear hb); (try clear hb2); (try clear hk); (try clear hi)))
                                      repeat (go_quiet (first | (go_at_call 19; (with_reducible refine (strings_HasPrefix.calls (a2.extract 0 ((ji10) : Int).toNat) (a0.extract 0 ((ji4) : Int).toNat) true _ A56.out).mono ?_); rintro e w' ⟨rfl, ⟨nd, rfl⟩⟩; (try first | exact ⟨rfl, _, World.drewN_drewN _ _ _⟩ | exact ⟨rfl, _, Eq.trans (World.drewN_drewN _ _ _) (congrArg (World.drewN _) (Nat.add_assoc _ _ _))⟩)) | (go_at_call 20; (with_reducible refine (strings_HasSuffix.calls (a2.extract 0 ((ji10) : Int).toNat) (a1.extract 0 ((ji7) : Int).toNat) t128 _ A58.out).mono ?_); rintro e w' ⟨rfl, ⟨nd, rfl⟩⟩; (try first | exact ⟨rfl, _, World.drewN_drewN _ _ _⟩ | exact ⟨rfl, _, Eq.trans (World.drewN_drewN _ _ _) (congrArg (World.drewN _) (Nat.add_assoc _ _ _))⟩)) | (go_at_call 13; (with_reducible refine (glob_Match.calls (((a0.extract 0 ((ji4) : Int).toNat) ++ (⟨#[42]⟩ : ByteArray)) ++ (a1.extract 0 ((ji7) : Int).toNat)) (a2.extract 0 ((ji10) : Int).toNat) t129 _ A59.out).mono ?_); rintro e w60 ⟨rfl, hb⟩; have n0_ := Aside0.mk (below_step (by repeat (first | (with_reducible first | exact HB.out | apply below_alloc | apply pw_below_drewN | apply below_drew1) | exact HB.out)) hb); clear HB; have HB := n0_; clear n0_; (try clear hb); (try clear hb2); (try clear hk); (try clear hi))); try go_wp2_with (first | (go_at_call 19; (with_reducible refine (strings_HasPrefix.calls (a2.extract 0 ((ji10) : Int).toNat) (a0.extract 0 ((ji4) : Int).toNat) true _ A56.out).mono ?_); rintro e w' ⟨rfl, ⟨nd, rfl⟩⟩; (try first | exact ⟨rfl, _, World.drewN_drewN _ _ _⟩ | exact ⟨rfl, _, Eq.trans (World.drewN_drewN _ _ _) (congrArg (World.drewN _) (Nat.add_assoc _ _ _))⟩)) | (go_at_call 20; (with_reducible refine (strings_HasSuffix.calls (a2.extract 0 ((ji10) : Int).toNat) (a1.extract 0 ((ji7) : Int).toNat) t128 _ A58.out).mono ?_); rintro e w' ⟨rfl, ⟨nd, rfl⟩⟩; (try first | exact ⟨rfl, _, World.drewN_drewN _ _ _⟩ | exact ⟨rfl, _, Eq.trans (World.drewN_drewN _ _ _) (congrArg (World.drewN _) (Nat.add_assoc _ _ _))⟩)) | (go_at_call 13; (with_reducible refine (glob_Match.calls (((a0.extract 0 ((ji4) : Int).toNat) ++ (⟨#[42]⟩ : ByteArray)) ++ (a1.extract 0 ((ji7) : Int).toNat)) (a2.extract 0 ((ji10) : Int).toNat) t129 _ A59.out).mono ?_); rintro e w60 ⟨rfl, hb⟩; have n0_ := Aside0.mk (below_step (by repeat (first | (with_reducible first | exact HB.out | apply below_alloc | apply pw_below_drewN | apply below_drew1) | exact HB.out)) hb); clear HB; have HB := n0_; clear n0_; (try clear hb); (try clear hb2); (try clear hk); (try clear hi))))
                                      go_ret
                                      exact ⟨by first | rfl | (simp [errW_none, errW_some] <;> rfl) | (simp only [← hji4, ← hji7, ← hji10]; first | rfl | (simp [errW_none, errW_some] <;> rfl)) | (simp [*, errW_none, errW_some] <;> rfl), by repeat (first | (with_reducible first | exact HB.out | apply below_alloc | apply pw_below_drewN | apply below_drew1) | exact HB.out)⟩
                                    · replace c57 := Bool.eq_false_iff.mpr c57
                                      subst c57
                                      have H1 : ((glob_Match.f (((a0.extract 0 ((ji4) : Int).toNat) ++ (⟨#[42]⟩ : ByteArray)) ++ (a1.extract 0 ((ji7) : Int).toNat)) (a2.extract 0 ((ji10) : Int).toNat)).bind fun t130 => (some (t130 == false))) = some r := by rw [if_neg (show ¬ (false = true) by decide)] at H; exact H
                                      clear H
                                      have H := H1
                                      clear H1
                                      replace H := Option.bind_eq_some_iff.mp H
                                      obtain ⟨t130, A610, H⟩ := H
                                      replace H : (some (t130 == false)) = some r := H
                                      have A61 := Aside0.mk A610
                                      clear A610
                                      obtain rfl := Option.some.inj H
                                      go_wp2_with (first | (go_at_call 19; (with_reducible refine (strings_HasPrefix.calls (a2.extract 0 ((ji10) : Int).toNat) (a0.extract 0 ((ji4) : Int).toNat) false _ A56.out).mono ?_); rintro e w' ⟨rfl, ⟨nd, rfl⟩⟩; (try first | exact ⟨rfl, _, World.drewN_drewN _ _ _⟩ | exact ⟨rfl, _, Eq.trans (World.drewN_drewN _ _ _) (congrArg (World.drewN _) (Nat.add_assoc _ _ _))⟩)) | (go_at_call 13; (with_reducible refine (glob_Match.calls (((a0.extract 0 ((ji4) : Int).toNat) ++ (⟨#[42]⟩ : ByteArray)) ++ (a1.extract 0 ((ji7) : Int).toNat)) (a2.extract 0 ((ji10) : Int).toNat) t130 _ A61.out).mono ?_); rintro e w62 ⟨rfl, hb⟩; have n0_ := Aside0.mk (below_step (by repeat (first | (with_reducible first | exact HB.out | apply below_alloc | apply pw_below_drewN | apply below_drew1) | exact HB.out)) hb); clear HB; have HB := n0_; clear n0_; (try clear hb); (try clear hb2); (try clear hk); (try clear hi)))
                                      repeat (go_quiet (first | (go_at_call 19; (with_reducible refine (strings_HasPrefix.calls (a2.extract 0 ((ji10) : Int).toNat) (a0.extract 0 ((ji4) : Int).toNat) false _ A56.out).mono ?_); rintro e w' ⟨rfl, ⟨nd, rfl⟩⟩; (try first | exact ⟨rfl, _, World.drewN_drewN _ _ _⟩ | exact ⟨rfl, _, Eq.trans (World.drewN_drewN _ _ _) (congrArg (World.drewN _) (Nat.add_assoc _ _ _))⟩)) | (go_at_call 13; (with_reducible refine (glob_Match.calls (((a0.extract 0 ((ji4) : Int).toNat) ++ (⟨#[42]⟩ : ByteArray)) ++ (a1.extract 0 ((ji7) : Int).toNat)) (a2.extract 0 ((ji10) : Int).toNat) t130 _ A61.out).mono ?_); rintro e w62 ⟨rfl, hb⟩; have n0_ := Aside0.mk (below_step (by repeat (first | (with_reducible first | exact HB.out | apply below_alloc | apply pw_below_drewN | apply below_drew1) | exact HB.out)) hb); clear HB; have HB := n0_; clear n0_; (try clear hb); (try clear hb2); (try clear hk); (try clear hi))); try go_wp2_with (first | (go_at_call 19; (with_reducible refine (strings_HasPrefix.calls (a2.extract 0 ((ji10) : Int).toNat) (a0.extract 0 ((ji4) : Int).toNat) false _ A56.out).mono ?_); rintro e w' ⟨rfl, ⟨nd, rfl⟩⟩; (try first | exact ⟨rfl, _, World.drewN_drewN _ _ _⟩ | exact ⟨rfl, _, Eq.trans (World.drewN_drewN _ _ _) (congrArg (World.drewN _) (Nat.add_assoc _ _ _))⟩)) | (go_at_call 13; (with_reducible refine (glob_Match.calls (((a0.extract 0 ((ji4) : Int).toNat) ++ (⟨#[42]⟩ : ByteArray)) ++ (a1.extract 0 ((ji7) : Int).toNat)) (a2.extract 0 ((ji10) : Int).toNat) t130 _ A61.out).mono ?_); rintro e w62 ⟨rfl, hb⟩; have n0_ := Aside0.mk (below_step (by repeat (first | (with_reducible first | exact HB.out | apply below_alloc | apply pw_below_drewN | apply below_drew1) | exact HB.out)) hb); clear HB; have HB := n0_; clear n0_; (try clear hb); (try clear hb2); (try clear hk); (try clear hi))))
                                      go_ret
                                      exact ⟨by first | rfl | (simp [errW_none, errW_some] <;> rfl) | (simp only [← hji4, ← hji7, ← hji10]; first | rfl | (simp [errW_none, errW_some] <;> rfl)) | (simp [*, errW_none, errW_some] <;> rfl), by repeat (first | (with_reducible first | exact HB.out | apply below_alloc | apply pw_below_drewN | apply below_drew1) | exact HB.out)⟩
                                  · rw [if_neg c55] at H
                                    have c55b0 : decide ((wrap64 (((a0.extract 0 ((ji4) : Int).toNat).size : Int) + ((a1.extract 0 ((ji7) : Int).toNat).size : Int))) ≤ ((a2.extract 0 ((ji10) : Int).toNat).size : Int)) = false := decide_eq_false c55
                                    have c55d : (((min ji10.toNat a2.size : Nat) : Int) < ((min ji4.toNat a0.size : Nat) : Int) + ((min ji7.toNat a1.size : Nat) : Int)) := by
                                      have c55' := of_decide_eq_false c55b0
                                      simp only [ByteArray.size_extract, Nat.sub_zero] at c55'
                                      unfold wrap64 at c55'
                                      omega
                                    have c55x := eq_true c55d
                                    have c55y : decide (((min ji4.toNat a0.size : Nat) : Int) + ((min ji7.toNat a1.size : Nat) : Int) ≤ ((min ji10.toNat a2.size : Nat) : Int)) = false := decide_eq_false (by omega)
                                    clear c55d
                                    clear c55
                                    replace H := Option.bind_eq_some_iff.mp H
                                    obtain ⟨t131, A630, H⟩ := H
                                    replace H : (some (t131 == false)) = some r := H
                                    have A63 := Aside0.mk A630
                                    clear A630
                                    obtain rfl := Option.some.inj H
                                    go_wp2_with (first | (go_at_call 13; (with_reducible refine (glob_Match.calls (((a0.extract 0 ((ji4) : Int).toNat) ++ (⟨#[42]⟩ : ByteArray)) ++ (a1.extract 0 ((ji7) : Int).toNat)) (a2.extract 0 ((ji10) : Int).toNat) t131 _ A63.out).mono ?_); rintro e w64 ⟨rfl, hb⟩; have n0_ := Aside0.mk (below_step (by repeat (first | (with_reducible first | exact HB.out | apply below_alloc | apply pw_below_drewN | apply below_drew1) | exact HB.out)) hb); clear HB; have HB := n0_; clear n0_; (try clear hb); (try clear hb2); (try clear hk); (try clear hi)))
                                    repeat (go_quiet (first | (go_at_call 13; (with_reducible refine (glob_Match.calls (((a0.extract 0 ((ji4) : Int).toNat) ++ (⟨#[42]⟩ : ByteArray)) ++ (a1.extract 0 ((ji7) : Int).toNat)) (a2.extract 0 ((ji10) : Int).toNat) t131 _ A63.out).mono ?_); rintro e w64 ⟨rfl, hb⟩; have n0_ := Aside0.mk (below_step (by repeat (first | (with_reducible first | exact HB.out | apply below_alloc | apply pw_below_drewN | apply below_drew1) | exact HB.out)) hb); clear HB; have HB := n0_; clear n0_; (try clear hb); (try clear hb2); (try clear hk); (try clear hi))); try go_wp2_with (first | (go_at_call 13; (with_reducible refine (glob_Match.calls (((a0.extract 0 ((ji4) : Int).toNat) ++ (⟨#[42]⟩ : ByteArray)) ++ (a1.extract 0 ((ji7) : Int).toNat)) (a2.extract 0 ((ji10) : Int).toNat) t131 _ A63.out).mono ?_); rintro e w64 ⟨rfl, hb⟩; have n0_ := Aside0.mk (below_step (by repeat (first | (with_reducible first | exact HB.out | apply below_alloc | apply pw_below_drewN | apply below_drew1) | exact HB.out)) hb); clear HB; have HB := n0_; clear n0_; (try clear hb); (try clear hb2); (try clear hk); (try clear hi))))
                                    go_ret
                                    exact ⟨by first | rfl | (simp [errW_none, errW_some] <;> rfl) | (simp only [← hji4, ← hji7, ← hji10]; first | rfl | (simp [errW_none, errW_some] <;> rfl)) | (simp [*, errW_none, errW_some] <;> rfl), by repeat (first | (with_reducible first | exact HB.out | apply below_alloc | apply pw_below_drewN | apply below_drew1) | exact HB.out)⟩
                          · rw [if_neg c41] at H
                            exact absurd H (by simp)
                        · rw [if_neg c40] at H
                          exact absurd H (by simp)
                · rw [if_neg c17] at H
                  exact absurd H (by simp)
              · replace c14 := Bool.eq_false_iff.mpr c14
                subst c14
                have H1 : ((imprimaturlaw13_alive.f).bind fun t116 => (if t116 = true then ((glob_Match.f (a2.extract 0 ((ji10) : Int).toNat) (a2.extract 0 ((ji10) : Int).toNat)).bind fun t117 => (some (!t117))) else (some false))) = some r := by rw [if_neg (show ¬ (false = true) by decide)] at H; exact H
                clear H
                have H := H1
                clear H1
                replace H := Option.bind_eq_some_iff.mp H
                obtain ⟨t116, A650, H⟩ := H
                replace H : (if t116 = true then ((glob_Match.f (a2.extract 0 ((ji10) : Int).toNat) (a2.extract 0 ((ji10) : Int).toNat)).bind fun t117 => (some (!t117))) else (some false)) = some r := H
                have A65 := Aside0.mk A650
                clear A650
                by_cases c66 : t116 = true
                · subst c66
                  have H1 : ((glob_Match.f (a2.extract 0 ((ji10) : Int).toNat) (a2.extract 0 ((ji10) : Int).toNat)).bind fun t117 => (some (!t117))) = some r := by rw [if_pos rfl] at H; exact H
                  clear H
                  have H := H1
                  clear H1
                  replace H := Option.bind_eq_some_iff.mp H
                  obtain ⟨t117, A670, H⟩ := H
                  replace H : (some (!t117)) = some r := H
                  have A67 := Aside0.mk A670
                  clear A670
                  obtain rfl := Option.some.inj H
                  go_enter Tryd.func6, Tryd.ntmps6
                  go_wp2_with (first | (go_at_call 8; (with_reducible refine (imprimaturref13_Right.calls k (a2.extract 0 ((ji10) : Int).toNat) false false _ A13.out).mono ?_); rintro e w68 ⟨rfl, hb⟩; have n0_ := Aside0.mk (below_step (by repeat (first | (with_reducible first | exact HB.out | apply below_alloc | apply pw_below_drewN | apply below_drew1) | exact HB.out)) hb); clear HB; have HB := n0_; clear n0_; (try clear hb); (try clear hb2); (try clear hk); (try clear hi)) | (go_at_call 14; (with_reducible refine (imprimaturlaw13_alive.calls  true _ A65.out).mono ?_); rintro e w69 ⟨rfl, hb⟩; have n0_ := Aside0.mk (below_step (by repeat (first | (with_reducible first | exact HB.out | apply below_alloc | apply pw_below_drewN | apply below_drew1) | exact HB.out)) hb); clear HB; have HB := n0_; clear n0_; (try clear hb); (try clear hb2); (try clear hk); (try clear hi)) | (go_at_call 13; (with_reducible refine (glob_Match.calls (a2.extract 0 ((ji10) : Int).toNat) (a2.extract 0 ((ji10) : Int).toNat) t117 _ A67.out).mono ?_); rintro e w70 ⟨rfl, hb⟩; have n0_ := Aside0.mk (below_step (by repeat (first | (with_reducible first | exact HB.out | apply below_alloc | apply pw_below_drewN | apply below_drew1) | exact HB.out)) hb); clear HB; have HB := n0_; clear n0_; (try clear hb); (try clear hb2); (try clear hk); (try clear hi)))
                  repeat (go_quiet (first | (go_at_call 8; (with_reducible refine (imprimaturref13_Right.calls k (a2.extract 0 ((ji10) : Int).toNat) false false _ A13.out).mono ?_); rintro e w68 ⟨rfl, hb⟩; have n0_ := Aside0.mk (below_step (by repeat (first | (with_reducible first | exact HB.out | apply below_alloc | apply pw_below_drewN | apply below_drew1) | exact HB.out)) hb); clear HB; have HB := n0_; clear n0_; (try clear hb); (try clear hb2); (try clear hk); (try clear hi)) | (go_at_call 14; (with_reducible refine (imprimaturlaw13_alive.calls  true _ A65.out).mono ?_); rintro e w69 ⟨rfl, hb⟩; have n0_ := Aside0.mk (below_step (by repeat (first | (with_reducible first | exact HB.out | apply below_alloc | apply pw_below_drewN | apply below_drew1) | exact HB.out)) hb); clear HB; have HB := n0_; clear n0_; (try clear hb); (try clear hb2); (try clear hk); (try clear hi)) | (go_at_call 13; (with_reducible refine (glob_Match.calls (a2.extract 0 ((ji10) : Int).toNat) (a2.extract 0 ((ji10) : Int).toNat) t117 _ A67.out).mono ?_); rintro e w70 ⟨rfl, hb⟩; have n0_ := Aside0.mk (below_step (by repeat (first | (with_reducible first | exact HB.out | apply below_alloc | apply pw_below_drewN | apply below_drew1) | exact HB.out)) hb); clear HB; have HB := n0_; clear n0_; (try clear hb); (try clear hb2); (try clear hk); (try clear hi))); try go_wp2_with (first | (go_at_call 8; (with_reducible refine (imprimaturref13_Right.calls k (a2.extract 0 ((ji10) : Int).toNat) false false _ A13.out).mono ?_); rintro e w68 ⟨rfl, hb⟩; have n0_ := Aside0.mk (below_step (by repeat (first | (with_reducible first | exact HB.out | apply below_alloc | apply pw_below_drewN | apply below_drew1) | exact HB.out)) hb); clear HB; have HB := n0_; clear n0_; (try clear hb); (try clear hb2); (try clear hk); (try clear hi)) | (go_at_call 14; (with_reducible refine (imprimaturlaw13_alive.calls  true _ A65.out).mono ?_); rintro e w69 ⟨rfl, hb⟩; have n0_ := Aside0.mk (below_step (by repeat (first | (with_reducible first | exact HB.out | apply below_alloc | apply pw_below_drewN | apply below_drew1) | exact HB.out)) hb); clear HB; have HB := n0_; clear n0_; (try clear hb); (try clear hb2); (try clear hk); (try clear hi)) | (go_at_call 13; (with_reducible refine (glob_Match.calls (a2.extract 0 ((ji10) : Int).toNat) (a2.extract 0 ((ji10) : Int).toNat) t117 _ A67.out).mono ?_); rintro e w70 ⟨rfl, hb⟩; have n0_ := Aside0.mk (below_step (by repeat (first | (with_reducible first | exact HB.out | apply below_alloc | apply pw_below_drewN | apply below_drew1) | exact HB.out)) hb); clear HB; have HB := n0_; clear n0_; (try clear hb); (try clear hb2); (try clear hk); (try clear hi))))
                  go_ret
                  exact ⟨by first | rfl | (simp [errW_none, errW_some] <;> rfl) | (simp only [← hji4, ← hji7, ← hji10]; first | rfl | (simp [errW_none, errW_some] <;> rfl)) | (simp [*, errW_none, errW_some] <;> rfl), by repeat (first | (with_reducible first | exact HB.out | apply below_alloc | apply pw_below_drewN | apply below_drew1) | exact HB.out)⟩
                · replace c66 := Bool.eq_false_iff.mpr c66
                  subst c66
                  have H1 : (some false) = some r := by rw [if_neg (show ¬ (false = true) by decide)] at H; exact H
                  clear H
                  have H := H1
                  clear H1
                  obtain rfl := Option.some.inj H
                  go_enter Tryd.func6, Tryd.ntmps6
                  go_wp2_with (first | (go_at_call 8; (with_reducible refine (imprimaturref13_Right.calls k (a2.extract 0 ((ji10) : Int).toNat) false false _ A13.out).mono ?_); rintro e w71 ⟨rfl, hb⟩; have n0_ := Aside0.mk (below_step (by repeat (first | (with_reducible first | exact HB.out | apply below_alloc | apply pw_below_drewN | apply below_drew1) | exact HB.out)) hb); clear HB; have HB := n0_; clear n0_; (try clear hb); (try clear hb2); (try clear hk); (try clear hi)) | (go_at_call 14; (with_reducible refine (imprimaturlaw13_alive.calls  false _ A65.out).mono ?_); rintro e w72 ⟨rfl, hb⟩; have n0_ := Aside0.mk (below_step (by repeat (first | (with_reducible first | exact HB.out | apply below_alloc | apply pw_below_drewN | apply below_drew1) | exact HB.out)) hb); clear HB; have HB := n0_; clear n0_; (try clear hb); (try clear hb2); (try clear hk); (try clear hi)))
                  repeat (go_quiet (first | (go_at_call 8; (with_reducible refine (imprimaturref13_Right.calls k (a2.extract 0 ((ji10) : Int).toNat) false false _ A13.out).mono ?_); rintro e w71 ⟨rfl, hb⟩; have n0_ := Aside0.mk (below_step (by repeat (first | (with_reducible first | exact HB.out | apply below_alloc | apply pw_below_drewN | apply below_drew1) | exact HB.out)) hb); clear HB; have HB := n0_; clear n0_; (try clear hb); (try clear hb2); (try clear hk); (try clear hi)) | (go_at_call 14; (with_reducible refine (imprimaturlaw13_alive.calls  false _ A65.out).mono ?_); rintro e w72 ⟨rfl, hb⟩; have n0_ := Aside0.mk (below_step (by repeat (first | (with_reducible first | exact HB.out | apply below_alloc | apply pw_below_drewN | apply below_drew1) | exact HB.out)) hb); clear HB; have HB := n0_; clear n0_; (try clear hb); (try clear hb2); (try clear hk); (try clear hi))); try go_wp2_with (first | (go_at_call 8; (with_reducible refine (imprimaturref13_Right.calls k (a2.extract 0 ((ji10) : Int).toNat) false false _ A13.out).mono ?_); rintro e w71 ⟨rfl, hb⟩; have n0_ := Aside0.mk (below_step (by repeat (first | (with_reducible first | exact HB.out | apply below_alloc | apply pw_below_drewN | apply below_drew1) | exact HB.out)) hb); clear HB; have HB := n0_; clear n0_; (try clear hb); (try clear hb2); (try clear hk); (try clear hi)) | (go_at_call 14; (with_reducible refine (imprimaturlaw13_alive.calls  false _ A65.out).mono ?_); rintro e w72 ⟨rfl, hb⟩; have n0_ := Aside0.mk (below_step (by repeat (first | (with_reducible first | exact HB.out | apply below_alloc | apply pw_below_drewN | apply below_drew1) | exact HB.out)) hb); clear HB; have HB := n0_; clear n0_; (try clear hb); (try clear hb2); (try clear hk); (try clear hi))))
                  go_ret
                  exact ⟨by first | rfl | (simp [errW_none, errW_some] <;> rfl) | (simp only [← hji4, ← hji7, ← hji10]; first | rfl | (simp [errW_none, errW_some] <;> rfl)) | (simp [*, errW_none, errW_some] <;> rfl), by repeat (first | (with_reducible first | exact HB.out | apply below_alloc | apply pw_below_drewN | apply below_drew1) | exact HB.out)⟩
            · rw [if_neg c12] at H
              exact absurd H (by simp)
          · rw [if_neg c11] at H
            exact absurd H (by simp)
        · rw [if_neg c9] at H
          exact absurd H (by simp)
      · rw [if_neg c8] at H
        exact absurd H (by simp)
    · rw [if_neg c6] at H
      exact absurd H (by simp)
  · rw [if_neg c5] at H
    exact absurd H (by simp)

/-- THE ONE PURE STATEMENT of imprimaturlaw13_GlobStars: yours. -/
def imprimaturlaw13_GlobStars.Pure : Prop := ∀ (a0 : ByteArray) (a1 : ByteArray) (a2 : ByteArray), a0.size ≤ 140737488351232 → a1.size ≤ 140737488351232 → a2.size ≤ 140737488351232 → ∃ k, imprimaturlaw13_GlobStars.f k a0 a1 a2 = some true
theorem imprimaturlaw13_GlobStars.walk (P : imprimaturlaw13_GlobStars.Pure) (a0 : ByteArray) (a1 : ByteArray) (a2 : ByteArray) (w : World) (w0 : a0.size ≤ 140737488351232) (w1 : a1.size ≤ 140737488351232) (w2 : a2.size ≤ 140737488351232) :
    Calls Tryd.prog 6 #[.string a0, .string a1, .string a2] w fun e w' => e = .returned (.bool true) ∧ Below w.heap.size w w' := by
  obtain ⟨k, h⟩ := P a0 a1 a2 w0 w1 w2
  refine (imprimaturlaw13_GlobStars.calls k a0 a1 a2 true w h).mono ?_
  rintro e w' ⟨rfl, hd⟩
  exact ⟨rfl, hd⟩

end Go.Proofs.YteignlfpjmfleaaDoor.X
