-- Written by a program of this session (wip/tools/xprint.py).
import Derived.Test.YteignlfpjmfleaaDoorX0
import Derived.Test.YteignlfpjmfleaaDoorX3
import Derived.Test.YteignlfpjmfleaaDoorE
namespace Go.Proofs.YteignlfpjmfleaaDoor.X
open Go.RowKit Go.Proofs.YteignlfpjmfleaaDoorW.PrintWords Go.Proofs.YteignlfpjmfleaaDoorW.PrintLast Go.Proofs.YteignlfpjmfleaaDoorW.PrintMore
open Go.Proofs.YteignlfpjmfleaaDoor.E
attribute [local go_sem] max2_int min2_int max_two min_two max_three min_three max_four min_four   -- for this text's walks alone
set_option linter.unusedVariables false
set_option linter.unusedSimpArgs false

/-! ### imprimaturlaw13_GlobMarks: function 5 -/
def imprimaturlaw13_GlobMarks.j0 : Nat → ByteArray → Int → Bool → Option (Bool)
  | 0, _, _, _ => none
  | k + 1, x0, x1, x22 => if x22 = true then ((imprimaturlaw13_alive.f).bind fun t191 => (some t191)) else (if (wrap64 ((x0.size : Int) + 1)) = 0 then (none) else ((strings_Repeat.f (⟨#[63]⟩ : ByteArray) (x0.size : Int)).bind fun t192 => ((glob_Match.f t192 x0).bind fun t193 => (if t193 = true then (if t192.size + 1 ≤ 9223372036854775807 then ((glob_Match.f (t192 ++ (⟨#[63]⟩ : ByteArray)) x0).bind fun t194 => (if t194 = true then (some false) else (if (x0.size : Int) = 1 then (if 0 ≤ (Int.tmod (wrap64 ((wrap64 ((Int.tmod x1 (wrap64 ((x0.size : Int) + 1))) + (x0.size : Int))) + 1)) (wrap64 ((x0.size : Int) + 1))) then (if (Int.tmod (wrap64 ((wrap64 ((Int.tmod x1 (wrap64 ((x0.size : Int) + 1))) + (x0.size : Int))) + 1)) (wrap64 ((x0.size : Int) + 1))) ≤ (x0.size : Int) then (if (x0.extract 0 ((Int.tmod (wrap64 ((wrap64 ((Int.tmod x1 (wrap64 ((x0.size : Int) + 1))) + (x0.size : Int))) + 1)) (wrap64 ((x0.size : Int) + 1))) : Int).toNat).size + 3 ≤ 9223372036854775807 then ((glob_Match.f ((x0.extract 0 ((Int.tmod (wrap64 ((wrap64 ((Int.tmod x1 (wrap64 ((x0.size : Int) + 1))) + (x0.size : Int))) + 1)) (wrap64 ((x0.size : Int) + 1))) : Int).toNat) ++ (⟨#[42, 42, 42]⟩ : ByteArray)) x0).bind fun t195 => (if t195 = true then (if 2 + (x0.extract ((Int.tmod (wrap64 ((wrap64 ((Int.tmod x1 (wrap64 ((x0.size : Int) + 1))) + (x0.size : Int))) + 1)) (wrap64 ((x0.size : Int) + 1))) : Int).toNat x0.size).size ≤ 9223372036854775807 then ((glob_Match.f ((⟨#[42, 42]⟩ : ByteArray) ++ (x0.extract ((Int.tmod (wrap64 ((wrap64 ((Int.tmod x1 (wrap64 ((x0.size : Int) + 1))) + (x0.size : Int))) + 1)) (wrap64 ((x0.size : Int) + 1))) : Int).toNat x0.size)) x0).bind fun t196 => (if t196 = true then (if (x0.extract 0 ((Int.tmod (wrap64 ((wrap64 ((Int.tmod x1 (wrap64 ((x0.size : Int) + 1))) + (x0.size : Int))) + 1)) (wrap64 ((x0.size : Int) + 1))) : Int).toNat).size + 1 ≤ 9223372036854775807 then (if ((x0.extract 0 ((Int.tmod (wrap64 ((wrap64 ((Int.tmod x1 (wrap64 ((x0.size : Int) + 1))) + (x0.size : Int))) + 1)) (wrap64 ((x0.size : Int) + 1))) : Int).toNat) ++ (⟨#[42]⟩ : ByteArray)).size + (x0.extract ((Int.tmod (wrap64 ((wrap64 ((Int.tmod x1 (wrap64 ((x0.size : Int) + 1))) + (x0.size : Int))) + 1)) (wrap64 ((x0.size : Int) + 1))) : Int).toNat x0.size).size ≤ 9223372036854775807 then ((glob_Match.f (((x0.extract 0 ((Int.tmod (wrap64 ((wrap64 ((Int.tmod x1 (wrap64 ((x0.size : Int) + 1))) + (x0.size : Int))) + 1)) (wrap64 ((x0.size : Int) + 1))) : Int).toNat) ++ (⟨#[42]⟩ : ByteArray)) ++ (x0.extract ((Int.tmod (wrap64 ((wrap64 ((Int.tmod x1 (wrap64 ((x0.size : Int) + 1))) + (x0.size : Int))) + 1)) (wrap64 ((x0.size : Int) + 1))) : Int).toNat x0.size)) x0).bind fun t197 => (some t197)) else (none)) else (none)) else (some false))) else (none)) else (some false))) else (none)) else (none)) else (none)) else (if 1 ≤ (t192.size : Int) then ((glob_Match.f (t192.extract 1 t192.size) x0).bind fun t198 => (if t198 = true then (some false) else (if 0 ≤ (Int.tmod (wrap64 ((wrap64 ((Int.tmod x1 (wrap64 ((x0.size : Int) + 1))) + (x0.size : Int))) + 1)) (wrap64 ((x0.size : Int) + 1))) then (if (Int.tmod (wrap64 ((wrap64 ((Int.tmod x1 (wrap64 ((x0.size : Int) + 1))) + (x0.size : Int))) + 1)) (wrap64 ((x0.size : Int) + 1))) ≤ (x0.size : Int) then (if (x0.extract 0 ((Int.tmod (wrap64 ((wrap64 ((Int.tmod x1 (wrap64 ((x0.size : Int) + 1))) + (x0.size : Int))) + 1)) (wrap64 ((x0.size : Int) + 1))) : Int).toNat).size + 3 ≤ 9223372036854775807 then ((glob_Match.f ((x0.extract 0 ((Int.tmod (wrap64 ((wrap64 ((Int.tmod x1 (wrap64 ((x0.size : Int) + 1))) + (x0.size : Int))) + 1)) (wrap64 ((x0.size : Int) + 1))) : Int).toNat) ++ (⟨#[42, 42, 42]⟩ : ByteArray)) x0).bind fun t199 => (if t199 = true then (if 2 + (x0.extract ((Int.tmod (wrap64 ((wrap64 ((Int.tmod x1 (wrap64 ((x0.size : Int) + 1))) + (x0.size : Int))) + 1)) (wrap64 ((x0.size : Int) + 1))) : Int).toNat x0.size).size ≤ 9223372036854775807 then ((glob_Match.f ((⟨#[42, 42]⟩ : ByteArray) ++ (x0.extract ((Int.tmod (wrap64 ((wrap64 ((Int.tmod x1 (wrap64 ((x0.size : Int) + 1))) + (x0.size : Int))) + 1)) (wrap64 ((x0.size : Int) + 1))) : Int).toNat x0.size)) x0).bind fun t200 => (if t200 = true then (if (x0.extract 0 ((Int.tmod (wrap64 ((wrap64 ((Int.tmod x1 (wrap64 ((x0.size : Int) + 1))) + (x0.size : Int))) + 1)) (wrap64 ((x0.size : Int) + 1))) : Int).toNat).size + 1 ≤ 9223372036854775807 then (if ((x0.extract 0 ((Int.tmod (wrap64 ((wrap64 ((Int.tmod x1 (wrap64 ((x0.size : Int) + 1))) + (x0.size : Int))) + 1)) (wrap64 ((x0.size : Int) + 1))) : Int).toNat) ++ (⟨#[42]⟩ : ByteArray)).size + (x0.extract ((Int.tmod (wrap64 ((wrap64 ((Int.tmod x1 (wrap64 ((x0.size : Int) + 1))) + (x0.size : Int))) + 1)) (wrap64 ((x0.size : Int) + 1))) : Int).toNat x0.size).size ≤ 9223372036854775807 then ((glob_Match.f (((x0.extract 0 ((Int.tmod (wrap64 ((wrap64 ((Int.tmod x1 (wrap64 ((x0.size : Int) + 1))) + (x0.size : Int))) + 1)) (wrap64 ((x0.size : Int) + 1))) : Int).toNat) ++ (⟨#[42]⟩ : ByteArray)) ++ (x0.extract ((Int.tmod (wrap64 ((wrap64 ((Int.tmod x1 (wrap64 ((x0.size : Int) + 1))) + (x0.size : Int))) + 1)) (wrap64 ((x0.size : Int) + 1))) : Int).toNat x0.size)) x0).bind fun t201 => (some t201)) else (none)) else (none)) else (some false))) else (none)) else (some false))) else (none)) else (none)) else (none)))) else (none))))) else (none)) else (some false)))))
def imprimaturlaw13_GlobMarks.f (k : Nat) (a0 : ByteArray) (a1 : Int) : Option (Bool) := if 0 ≤ (mn (a0.size : Int) 90) then (if (mn (a0.size : Int) 90) ≤ (a0.size : Int) then ((imprimaturref13_Right.f k (a0.extract 0 ((mn (a0.size : Int) 90) : Int).toNat) false).bind fun t188 => (if t188 = true then ((strings_Contains.f (a0.extract 0 ((mn (a0.size : Int) 90) : Int).toNat) (⟨#[47]⟩ : ByteArray)).bind fun t189 => (if t189 = true then (imprimaturlaw13_GlobMarks.j0 k (a0.extract 0 ((mn (a0.size : Int) 90) : Int).toNat) a1 true) else ((imprimaturlaw13_alive.f).bind fun t190 => (imprimaturlaw13_GlobMarks.j0 k (a0.extract 0 ((mn (a0.size : Int) 90) : Int).toNat) a1 (!t190))))) else (imprimaturlaw13_GlobMarks.j0 k (a0.extract 0 ((mn (a0.size : Int) 90) : Int).toNat) a1 true))) else (none)) else (none)
theorem imprimaturlaw13_GlobMarks.mono_l : ∀ k, (∀ y0 y1 y2, LeO (imprimaturlaw13_GlobMarks.j0 k y0 y1 y2) (imprimaturlaw13_GlobMarks.j0 (k + 1) y0 y1 y2))
  | 0 => fun _ _ _ r h => by simp [imprimaturlaw13_GlobMarks.j0] at h
  | k + 1 => by
    have ih0 := imprimaturlaw13_GlobMarks.mono_l k
    · intro y0 y1 y2
      unfold imprimaturlaw13_GlobMarks.j0
      repeat' first
      | (with_reducible exact ih0 _ _ _)
      | (with_reducible exact imprimaturref13_Right.mono _ _ _)
      | (with_reducible exact LeO.refl _)
      | (with_reducible exact LeO.none _)
      | (with_reducible refine LeO.ite ?_ ?_)
      | (with_reducible refine LeO.bind ?_ (fun _ => ?_))
      | exact ih0 _ _ _
      | exact imprimaturref13_Right.mono _ _ _
      | exact LeO.none _
      | refine LeO.ite ?_ ?_
      | refine LeO.bind ?_ (fun _ => ?_)
theorem imprimaturlaw13_GlobMarks.mono : ∀ a0 a1 k, LeO (imprimaturlaw13_GlobMarks.f k a0 a1) (imprimaturlaw13_GlobMarks.f (k + 1) a0 a1) := by
  intro a0 a1 k
  have ih0 := imprimaturlaw13_GlobMarks.mono_l k
  unfold imprimaturlaw13_GlobMarks.f
  repeat' first
      | (with_reducible exact ih0 _ _ _)
      | (with_reducible exact imprimaturref13_Right.mono _ _ _)
      | (with_reducible exact LeO.refl _)
      | (with_reducible exact LeO.none _)
      | (with_reducible refine LeO.ite ?_ ?_)
      | (with_reducible refine LeO.bind ?_ (fun _ => ?_))
      | exact ih0 _ _ _
      | exact imprimaturref13_Right.mono _ _ _
      | exact LeO.none _
      | refine LeO.ite ?_ ?_
      | refine LeO.bind ?_ (fun _ => ?_)
def imprimaturlaw13_GlobMarks.T7 : Bool × List (List Nat × List Nat) := (true, [([], []), ([], []), ([0, 1], [0, 1]), ([2, 2], [2]), ([3], [3]), ([4, 3], [3, 4]), ([3], [3]), ([5, 6, 3, 3], [3, 5, 6]), ([7, 3], [3, 7]), ([3, 8], [3, 8]), ([9, 7], [9]), ([10], [10]), ([11, 10], [10, 11]), ([12, 10, 10], [10, 12]), ([13], [13]), ([14, 13], [13, 14]), ([13], [13]), ([15, 16, 13, 13], [13, 15, 16]), ([17, 13], [13, 17]), ([13, 18, 10], [10, 13, 18]), ([10, 19], [10, 19]), ([20, 17], [20]), ([21], [21]), ([21], [21]), ([22, 23, 21], [21, 22, 23]), ([24, 21], [21, 24]), ([21], [21]), ([25, 26, 21, 21], [21, 25, 26]), ([21, 27], [21, 27]), ([28, 27], [28]), ([29], [29]), ([29], [29]), ([30, 31, 29], [29, 30, 31]), ([32, 29], [29, 32]), ([29], [29]), ([33, 34, 29, 29], [29, 33, 34]), ([29, 35], [29, 35]), ([36, 35], [36]), ([37], [37]), ([37], [37]), ([38, 39, 37], [37, 38, 39]), ([40, 37], [37, 40]), ([37], [37]), ([37], [37]), ([42, 43, 37], [37, 42, 43]), ([41, 44, 37], [37, 41, 44]), ([37], [37]), ([45, 46, 37, 37], [37, 45, 46]), ([37, 47], [37, 47]), ([48, 47, 0, 1, 2, 3, 4, 5, 6, 7, 8, 9, 10, 11, 12, 13, 14, 15, 16, 17, 18, 19, 20, 21, 22, 23, 24, 25, 26, 27, 28, 29, 30, 31, 32, 33, 34, 35, 36, 37, 38, 39, 40, 41, 42, 43, 44, 45, 46, 47, 48], [48])])
def imprimaturlaw13_GlobMarks.B7 : List Nat := [0, 0, 3, 7, 15, 31, 15, 127, 255, 511, 1023, 2047, 4095, 8191, 16383, 32767, 16383, 131071, 262143, 524287, 1048575, 2097151, 4194303, 4194303, 16777215, 33554431, 4194303, 134217727, 268435455, 536870911, 1073741823, 1073741823, 4294967295, 8589934591, 1073741823, 34359738367, 68719476735, 137438953471, 274877906943, 274877906943, 1099511627775, 2199023255551, 274877906943, 274877906943, 13469017440255, 35184372088831, 274877906943, 140737488355327, 281474976710655, 562949953421311]
theorem imprimaturlaw13_GlobMarks.tab7 : rtab .any (opsOf Tryd.f5 7) = imprimaturlaw13_GlobMarks.T7 := by kernel_rfl
theorem imprimaturlaw13_GlobMarks.bits7 : waitsOk imprimaturlaw13_GlobMarks.T7.2 imprimaturlaw13_GlobMarks.B7 = true := by kernel_rfl
set_option maxHeartbeats 8000000 in
set_option maxRecDepth 100000 in
theorem imprimaturlaw13_GlobMarks.calls (k : Nat) (a0 : ByteArray) (a1 : Int) (w : World) (h : imprimaturlaw13_GlobMarks.f k a0 a1 = some true) :
    Calls Tryd.prog 5 #[.string a0, .int .i64 a1] w fun e w' => e = .returned (.bool true) ∧ Below w.heap.size w w' := by
  have HB := Aside0.mk (Below.refl w.heap.size w)
  have H : (if 0 ≤ (mn (a0.size : Int) 90) then (if (mn (a0.size : Int) 90) ≤ (a0.size : Int) then ((imprimaturref13_Right.f k (a0.extract 0 ((mn (a0.size : Int) 90) : Int).toNat) false).bind fun t188 => (if t188 = true then ((strings_Contains.f (a0.extract 0 ((mn (a0.size : Int) 90) : Int).toNat) (⟨#[47]⟩ : ByteArray)).bind fun t189 => (if t189 = true then (imprimaturlaw13_GlobMarks.j0 k (a0.extract 0 ((mn (a0.size : Int) 90) : Int).toNat) a1 true) else ((imprimaturlaw13_alive.f).bind fun t190 => (imprimaturlaw13_GlobMarks.j0 k (a0.extract 0 ((mn (a0.size : Int) 90) : Int).toNat) a1 (!t190))))) else (imprimaturlaw13_GlobMarks.j0 k (a0.extract 0 ((mn (a0.size : Int) 90) : Int).toNat) a1 true))) else (none)) else (none)) = some true := h
  clear h
  obtain ⟨ji3, hji3⟩ : ∃ j_ : Int, (mn (a0.size : Int) 90) = j_ := ⟨_, rfl⟩
  replace H : (if 0 ≤ (ji3) then (if (ji3) ≤ (a0.size : Int) then ((imprimaturref13_Right.f k (a0.extract 0 ((ji3) : Int).toNat) false).bind fun t188 => (if t188 = true then ((strings_Contains.f (a0.extract 0 ((ji3) : Int).toNat) (⟨#[47]⟩ : ByteArray)).bind fun t189 => (if t189 = true then (imprimaturlaw13_GlobMarks.j0 k (a0.extract 0 ((ji3) : Int).toNat) a1 true) else ((imprimaturlaw13_alive.f).bind fun t190 => (imprimaturlaw13_GlobMarks.j0 k (a0.extract 0 ((ji3) : Int).toNat) a1 (!t190))))) else (imprimaturlaw13_GlobMarks.j0 k (a0.extract 0 ((ji3) : Int).toNat) a1 true))) else (none)) else (none)) = some true := by first | (rw [hji3] at H; exact H) | (simp only [hji3] at H ⊢; exact H)
  (try (have hji3h : ji3 ≤ 90 := by (rw [← hji3]; unfold mn; (repeat' split) <;> omega)))
  (try (have hji3g : ji3 ≤ 64 := by omega))
  (try (have hji3l : 0 ≤ ji3 := by (rw [← hji3]; unfold mn; (repeat' split) <;> omega)))
  (try (have hji3m : 0 ≤ ji3 := by omega))
  have hji3_ : (if 90 < (a0.size : Int) then 90 else (a0.size : Int)) = ji3 := hji3
  by_cases c4 : 0 ≤ (ji3)
  · rw [if_pos c4] at H
    have c4b0 := eq_true c4
    have c4b1 : decide (0 ≤ (ji3)) = true := decide_eq_true c4
    clear c4
    by_cases c5 : (ji3) ≤ (a0.size : Int)
    · rw [if_pos c5] at H
      have c5b0 := eq_true c5
      have c5b1 : decide ((ji3) ≤ (a0.size : Int)) = true := decide_eq_true c5
      clear c5
      have HC6 := Aside0.mk H
      clear H
      go_enter Tryd.func5, Tryd.ntmps5
      go_upto_region 2 with (fail)
      go_cut [22] (fun v22 wc => ∃ (kq : Nat) (x22_5 : Bool), v22 = .bool x22_5 ∧ Aside0 (imprimaturlaw13_GlobMarks.j0 kq (a0.extract 0 ((ji3) : Int).toNat) a1 x22_5 = some true) ∧ Aside0 (kq ≤ k) ∧ Aside0 (Below w.heap.size w wc))
      case first =>
        have H := HC6.out
        clear HC6
        replace H := Option.bind_eq_some_iff.mp H
        obtain ⟨t188, A70, H⟩ := H
        replace H : (if t188 = true then ((strings_Contains.f (a0.extract 0 ((ji3) : Int).toNat) (⟨#[47]⟩ : ByteArray)).bind fun t189 => (if t189 = true then (imprimaturlaw13_GlobMarks.j0 k (a0.extract 0 ((ji3) : Int).toNat) a1 true) else ((imprimaturlaw13_alive.f).bind fun t190 => (imprimaturlaw13_GlobMarks.j0 k (a0.extract 0 ((ji3) : Int).toNat) a1 (!t190))))) else (imprimaturlaw13_GlobMarks.j0 k (a0.extract 0 ((ji3) : Int).toNat) a1 true)) = some true := H
        have A7 := Aside0.mk A70
        clear A70
        by_cases c8 : t188 = true
        · subst c8
          have H1 : ((strings_Contains.f (a0.extract 0 ((ji3) : Int).toNat) (⟨#[47]⟩ : ByteArray)).bind fun t189 => (if t189 = true then (imprimaturlaw13_GlobMarks.j0 k (a0.extract 0 ((ji3) : Int).toNat) a1 true) else ((imprimaturlaw13_alive.f).bind fun t190 => (imprimaturlaw13_GlobMarks.j0 k (a0.extract 0 ((ji3) : Int).toNat) a1 (!t190))))) = some true := by rw [if_pos rfl] at H; exact H
          clear H
          have H := H1
          clear H1
          replace H := Option.bind_eq_some_iff.mp H
          obtain ⟨t189, A90, H⟩ := H
          replace H : (if t189 = true then (imprimaturlaw13_GlobMarks.j0 k (a0.extract 0 ((ji3) : Int).toNat) a1 true) else ((imprimaturlaw13_alive.f).bind fun t190 => (imprimaturlaw13_GlobMarks.j0 k (a0.extract 0 ((ji3) : Int).toNat) a1 (!t190)))) = some true := H
          have A9 := Aside0.mk A90
          clear A90
          by_cases c10 : t189 = true
          · subst c10
            have H1 : (imprimaturlaw13_GlobMarks.j0 k (a0.extract 0 ((ji3) : Int).toNat) a1 true) = some true := by rw [if_pos rfl] at H; exact H
            clear H
            have H := H1
            clear H1
            have H' := Aside0.mk H
            clear H
            go_wp2_with (first | ((with_reducible refine gate_callee (f := 8) rfl ?_); refine goesL_ (some 13) rfl rfl Tryd.func8 (by kernel_rfl) rfl #[.string (a0.extract 0 ((ji3) : Int).toNat), .bool false] rfl (by (try simp only [List.map_toArray, List.map_cons, List.map_nil]); first | done | (simp only [hji3]; rfl) | rfl | (simp only [List.length_drop, List.length_take]; rfl)) ?_; (with_reducible refine (imprimaturref13_Right.calls k (a0.extract 0 ((ji3) : Int).toNat) false true _ A7.out).mono ?_); rintro e w11 ⟨rfl, hb⟩; refine ⟨_, rfl, ?_⟩; have n0_ := Aside0.mk (below_step (by repeat (first | (with_reducible first | exact HB.out | apply below_alloc | apply pw_below_drewN | apply below_drew1) | exact HB.out)) hb); clear HB; have HB := n0_; clear n0_; (try clear hb); (try clear hb2); (try clear hk); (try clear hi)) | (go_at_call 15; (with_reducible refine (strings_Contains.calls (a0.extract 0 ((ji3) : Int).toNat) (⟨#[47]⟩ : ByteArray) true _ A9.out).mono ?_); rintro e w' ⟨rfl, ⟨nd, rfl⟩⟩))
            go_meet
            case rel => exact ⟨_, (true), (by first | rfl | (simp; done) | (simp [*]; done)), H', ⟨by first | omega | exact Nat.le_refl _⟩, ⟨by repeat (first | (with_reducible first | exact HB.out | apply below_alloc | apply pw_below_drewN | apply below_drew1) | exact HB.out)⟩⟩
          · replace c10 := Bool.eq_false_iff.mpr c10
            subst c10
            have H1 : ((imprimaturlaw13_alive.f).bind fun t190 => (imprimaturlaw13_GlobMarks.j0 k (a0.extract 0 ((ji3) : Int).toNat) a1 (!t190))) = some true := by rw [if_neg (show ¬ (false = true) by decide)] at H; exact H
            clear H
            have H := H1
            clear H1
            replace H := Option.bind_eq_some_iff.mp H
            obtain ⟨t190, A120, H⟩ := H
            replace H : (imprimaturlaw13_GlobMarks.j0 k (a0.extract 0 ((ji3) : Int).toNat) a1 (!t190)) = some true := H
            have A12 := Aside0.mk A120
            clear A120
            have H' := Aside0.mk H
            clear H
            go_wp2_with (first | ((with_reducible refine gate_callee (f := 8) rfl ?_); refine goesL_ (some 13) rfl rfl Tryd.func8 (by kernel_rfl) rfl #[.string (a0.extract 0 ((ji3) : Int).toNat), .bool false] rfl (by (try simp only [List.map_toArray, List.map_cons, List.map_nil]); first | done | (simp only [hji3]; rfl) | rfl | (simp only [List.length_drop, List.length_take]; rfl)) ?_; (with_reducible refine (imprimaturref13_Right.calls k (a0.extract 0 ((ji3) : Int).toNat) false true _ A7.out).mono ?_); rintro e w13 ⟨rfl, hb⟩; refine ⟨_, rfl, ?_⟩; have n0_ := Aside0.mk (below_step (by repeat (first | (with_reducible first | exact HB.out | apply below_alloc | apply pw_below_drewN | apply below_drew1) | exact HB.out)) hb); clear HB; have HB := n0_; clear n0_; (try clear hb); (try clear hb2); (try clear hk); (try clear hi)) | (go_at_call 15; (with_reducible refine (strings_Contains.calls (a0.extract 0 ((ji3) : Int).toNat) (⟨#[47]⟩ : ByteArray) false _ A9.out).mono ?_); rintro e w' ⟨rfl, ⟨nd, rfl⟩⟩) | (go_at_call 14; (with_reducible refine (imprimaturlaw13_alive.calls  t190 _ A12.out).mono ?_); rintro e w14 ⟨rfl, hb⟩; have n0_ := Aside0.mk (below_step (by repeat (first | (with_reducible first | exact HB.out | apply below_alloc | apply pw_below_drewN | apply below_drew1) | exact HB.out)) hb); clear HB; have HB := n0_; clear n0_; (try clear hb); (try clear hb2); (try clear hk); (try clear hi)))
            go_meet
            case rel => exact ⟨_, (!t190), (by first | rfl | (simp; done) | (simp [*]; done)), H', ⟨by first | omega | exact Nat.le_refl _⟩, ⟨by repeat (first | (with_reducible first | exact HB.out | apply below_alloc | apply pw_below_drewN | apply below_drew1) | exact HB.out)⟩⟩
        · replace c8 := Bool.eq_false_iff.mpr c8
          subst c8
          have H1 : (imprimaturlaw13_GlobMarks.j0 k (a0.extract 0 ((ji3) : Int).toNat) a1 true) = some true := by rw [if_neg (show ¬ (false = true) by decide)] at H; exact H
          clear H
          have H := H1
          clear H1
          have H' := Aside0.mk H
          clear H
          go_wp2_with (first | ((with_reducible refine gate_callee (f := 8) rfl ?_); refine goesL_ (some 13) rfl rfl Tryd.func8 (by kernel_rfl) rfl #[.string (a0.extract 0 ((ji3) : Int).toNat), .bool false] rfl (by (try simp only [List.map_toArray, List.map_cons, List.map_nil]); first | done | (simp only [hji3]; rfl) | rfl | (simp only [List.length_drop, List.length_take]; rfl)) ?_; (with_reducible refine (imprimaturref13_Right.calls k (a0.extract 0 ((ji3) : Int).toNat) false false _ A7.out).mono ?_); rintro e w15 ⟨rfl, hb⟩; refine ⟨_, rfl, ?_⟩; have n0_ := Aside0.mk (below_step (by repeat (first | (with_reducible first | exact HB.out | apply below_alloc | apply pw_below_drewN | apply below_drew1) | exact HB.out)) hb); clear HB; have HB := n0_; clear n0_; (try clear hb); (try clear hb2); (try clear hk); (try clear hi)))
          go_meet
          case rel => exact ⟨_, (true), (by first | rfl | (simp; done) | (simp [*]; done)), H', ⟨by first | omega | exact Nat.le_refl _⟩, ⟨by repeat (first | (with_reducible first | exact HB.out | apply below_alloc | apply pw_below_drewN | apply below_drew1) | exact HB.out)⟩⟩
      case rest =>
        clear HC6
        try clear c1
        try clear p2
        try clear c4
        try clear c4b0
        try clear c4b1
        try clear c5
        try clear c5b0
        try clear c5b1
        try clear c8
        try clear c10
        obtain ⟨kq, x22_5, rfl, HA, HJ5, HB⟩ := hcut
        generalize hx0_ : a0.extract 0 ji3.toNat = x0_ at HA ⊢
        clear hx0_
        cases kq with
        | zero => exact absurd HA.out (by simp [imprimaturlaw13_GlobMarks.j0])
        | succ kj5 =>
          have H := HA.out
          clear HA
          simp only [imprimaturlaw13_GlobMarks.j0] at H
          by_cases c16 : x22_5 = true
          · subst c16
            have H1 : ((imprimaturlaw13_alive.f).bind fun t191 => (some t191)) = some true := by rw [if_pos rfl] at H; exact H
            clear H
            have H := H1
            clear H1
            replace H := Option.bind_eq_some_iff.mp H
            obtain ⟨t191, A170, H⟩ := H
            replace H : (some t191) = some true := H
            have A17 := Aside0.mk A170
            clear A170
            obtain rfl : t191 = true := Option.some.inj H
            go_wp2_with (first | ((with_reducible refine gate_callee (f := 14) rfl ?_); refine goesL_ (some 23) rfl rfl Tryd.func14 (by kernel_rfl) rfl #[] rfl (by (try simp only [List.map_toArray, List.map_cons, List.map_nil]); first | done | rfl | (simp only [List.length_drop, List.length_take]; rfl)) ?_; (with_reducible refine (imprimaturlaw13_alive.calls  true _ A17.out).mono ?_); rintro e w18 ⟨rfl, hb⟩; refine ⟨_, rfl, ?_⟩; have n0_ := Aside0.mk (below_step (by repeat (first | (with_reducible first | exact HB.out | apply below_alloc | apply pw_below_drewN | apply below_drew1) | exact HB.out)) hb); clear HB; have HB := n0_; clear n0_; (try clear hb); (try clear hb2); (try clear hk); (try clear hi)))
            go_ret
            exact ⟨by first | rfl | (simp [errW_none, errW_some] <;> rfl) | (simp only [← hji3]; first | rfl | (simp [errW_none, errW_some] <;> rfl)) | (simp [*, errW_none, errW_some] <;> rfl), by repeat (first | (with_reducible first | exact HB.out | apply below_alloc | apply pw_below_drewN | apply below_drew1) | exact HB.out)⟩
          · replace c16 := Bool.eq_false_iff.mpr c16
            subst c16
            have H1 : (if (wrap64 ((x0_.size : Int) + 1)) = 0 then (none) else ((strings_Repeat.f (⟨#[63]⟩ : ByteArray) (x0_.size : Int)).bind fun t192 => ((glob_Match.f t192 x0_).bind fun t193 => (if t193 = true then (if t192.size + 1 ≤ 9223372036854775807 then ((glob_Match.f (t192 ++ (⟨#[63]⟩ : ByteArray)) x0_).bind fun t194 => (if t194 = true then (some false) else (if (x0_.size : Int) = 1 then (if 0 ≤ (Int.tmod (wrap64 ((wrap64 ((Int.tmod a1 (wrap64 ((x0_.size : Int) + 1))) + (x0_.size : Int))) + 1)) (wrap64 ((x0_.size : Int) + 1))) then (if (Int.tmod (wrap64 ((wrap64 ((Int.tmod a1 (wrap64 ((x0_.size : Int) + 1))) + (x0_.size : Int))) + 1)) (wrap64 ((x0_.size : Int) + 1))) ≤ (x0_.size : Int) then (if (x0_.extract 0 ((Int.tmod (wrap64 ((wrap64 ((Int.tmod a1 (wrap64 ((x0_.size : Int) + 1))) + (x0_.size : Int))) + 1)) (wrap64 ((x0_.size : Int) + 1))) : Int).toNat).size + 3 ≤ 9223372036854775807 then ((glob_Match.f ((x0_.extract 0 ((Int.tmod (wrap64 ((wrap64 ((Int.tmod a1 (wrap64 ((x0_.size : Int) + 1))) + (x0_.size : Int))) + 1)) (wrap64 ((x0_.size : Int) + 1))) : Int).toNat) ++ (⟨#[42, 42, 42]⟩ : ByteArray)) x0_).bind fun t195 => (if t195 = true then (if 2 + (x0_.extract ((Int.tmod (wrap64 ((wrap64 ((Int.tmod a1 (wrap64 ((x0_.size : Int) + 1))) + (x0_.size : Int))) + 1)) (wrap64 ((x0_.size : Int) + 1))) : Int).toNat x0_.size).size ≤ 9223372036854775807 then ((glob_Match.f ((⟨#[42, 42]⟩ : ByteArray) ++ (x0_.extract ((Int.tmod (wrap64 ((wrap64 ((Int.tmod a1 (wrap64 ((x0_.size : Int) + 1))) + (x0_.size : Int))) + 1)) (wrap64 ((x0_.size : Int) + 1))) : Int).toNat x0_.size)) x0_).bind fun t196 => (if t196 = true then (if (x0_.extract 0 ((Int.tmod (wrap64 ((wrap64 ((Int.tmod a1 (wrap64 ((x0_.size : Int) + 1))) + (x0_.size : Int))) + 1)) (wrap64 ((x0_.size : Int) + 1))) : Int).toNat).size + 1 ≤ 9223372036854775807 then (if ((x0_.extract 0 ((Int.tmod (wrap64 ((wrap64 ((Int.tmod a1 (wrap64 ((x0_.size : Int) + 1))) + (x0_.size : Int))) + 1)) (wrap64 ((x0_.size : Int) + 1))) : Int).toNat) ++ (⟨#[42]⟩ : ByteArray)).size + (x0_.extract ((Int.tmod (wrap64 ((wrap64 ((Int.tmod a1 (wrap64 ((x0_.size : Int) + 1))) + (x0_.size : Int))) + 1)) (wrap64 ((x0_.size : Int) + 1))) : Int).toNat x0_.size).size ≤ 9223372036854775807 then ((glob_Match.f (((x0_.extract 0 ((Int.tmod (wrap64 ((wrap64 ((Int.tmod a1 (wrap64 ((x0_.size : Int) + 1))) + (x0_.size : Int))) + 1)) (wrap64 ((x0_.size : Int) + 1))) : Int).toNat) ++ (⟨#[42]⟩ : ByteArray)) ++ (x0_.extract ((Int.tmod (wrap64 ((wrap64 ((Int.tmod a1 (wrap64 ((x0_.size : Int) + 1))) + (x0_.size : Int))) + 1)) (wrap64 ((x0_.size : Int) + 1))) : Int).toNat x0_.size)) x0_).bind fun t197 => (some t197)) else (none)) else (none)) else (some false))) else (none)) else (some false))) else (none)) else (none)) else (none)) else (if 1 ≤ (t192.size : Int) then ((glob_Match.f (t192.extract 1 t192.size) x0_).bind fun t198 => (if t198 = true then (some false) else (if 0 ≤ (Int.tmod (wrap64 ((wrap64 ((Int.tmod a1 (wrap64 ((x0_.size : Int) + 1))) + (x0_.size : Int))) + 1)) (wrap64 ((x0_.size : Int) + 1))) then (if (Int.tmod (wrap64 ((wrap64 ((Int.tmod a1 (wrap64 ((x0_.size : Int) + 1))) + (x0_.size : Int))) + 1)) (wrap64 ((x0_.size : Int) + 1))) ≤ (x0_.size : Int) then (if (x0_.extract 0 ((Int.tmod (wrap64 ((wrap64 ((Int.tmod a1 (wrap64 ((x0_.size : Int) + 1))) + (x0_.size : Int))) + 1)) (wrap64 ((x0_.size : Int) + 1))) : Int).toNat).size + 3 ≤ 9223372036854775807 then ((glob_Match.f ((x0_.extract 0 ((Int.tmod (wrap64 ((wrap64 ((Int.tmod a1 (wrap64 ((x0_.size : Int) + 1))) + (x0_.size : Int))) + 1)) (wrap64 ((x0_.size : Int) + 1))) : Int).toNat) ++ (⟨#[42, 42, 42]⟩ : ByteArray)) x0_).bind fun t199 => (if t199 = true then (if 2 + (x0_.extract ((Int.tmod (wrap64 ((wrap64 ((Int.tmod a1 (wrap64 ((x0_.size : Int) + 1))) + (x0_.size : Int))) + 1)) (wrap64 ((x0_.size : Int) + 1))) : Int).toNat x0_.size).size ≤ 9223372036854775807 then ((glob_Match.f ((⟨#[42, 42]⟩ : ByteArray) ++ (x0_.extract ((Int.tmod (wrap64 ((wrap64 ((Int.tmod a1 (wrap64 ((x0_.size : Int) + 1))) + (x0_.size : Int))) + 1)) (wrap64 ((x0_.size : Int) + 1))) : Int).toNat x0_.size)) x0_).bind fun t200 => (if t200 = true then (if (x0_.extract 0 ((Int.tmod (wrap64 ((wrap64 ((Int.tmod a1 (wrap64 ((x0_.size : Int) + 1))) + (x0_.size : Int))) + 1)) (wrap64 ((x0_.size : Int) + 1))) : Int).toNat).size + 1 ≤ 9223372036854775807 then (if ((x0_.extract 0 ((Int.tmod (wrap64 ((wrap64 ((Int.tmod a1 (wrap64 ((x0_.size : Int) + 1))) + (x0_.size : Int))) + 1)) (wrap64 ((x0_.size : Int) + 1))) : Int).toNat) ++ (⟨#[42]⟩ : ByteArray)).size + (x0_.extract ((Int.tmod (wrap64 ((wrap64 ((Int.tmod a1 (wrap64 ((x0_.size : Int) + 1))) + (x0_.size : Int))) + 1)) (wrap64 ((x0_.size : Int) + 1))) : Int).toNat x0_.size).size ≤ 9223372036854775807 then ((glob_Match.f (((x0_.extract 0 ((Int.tmod (wrap64 ((wrap64 ((Int.tmod a1 (wrap64 ((x0_.size : Int) + 1))) + (x0_.size : Int))) + 1)) (wrap64 ((x0_.size : Int) + 1))) : Int).toNat) ++ (⟨#[42]⟩ : ByteArray)) ++ (x0_.extract ((Int.tmod (wrap64 ((wrap64 ((Int.tmod a1 (wrap64 ((x0_.size : Int) + 1))) + (x0_.size : Int))) + 1)) (wrap64 ((x0_.size : Int) + 1))) : Int).toNat x0_.size)) x0_).bind fun t201 => (some t201)) else (none)) else (none)) else (some false))) else (none)) else (some false))) else (none)) else (none)) else (none)))) else (none))))) else (none)) else (some false))))) = some true := by rw [if_neg (show ¬ (false = true) by decide)] at H; exact H
            clear H
            have H := H1
            clear H1
            by_cases c19 : (wrap64 ((x0_.size : Int) + 1)) = 0
            · rw [if_pos c19] at H
              exact absurd H (by simp)
            · rw [if_neg c19] at H
              have c19b0 : ((wrap64 ((x0_.size : Int) + 1)) == 0) = false := beq_eq_false_iff_ne.mpr c19
              have c19b1 : ((wrap64 ((x0_.size : Int) + 1)) != 0) = true := bne_iff_ne.mpr c19
              replace H := Option.bind_eq_some_iff.mp H
              obtain ⟨t192, A200, H⟩ := H
              replace H : ((glob_Match.f t192 x0_).bind fun t193 => (if t193 = true then (if t192.size + 1 ≤ 9223372036854775807 then ((glob_Match.f (t192 ++ (⟨#[63]⟩ : ByteArray)) x0_).bind fun t194 => (if t194 = true then (some false) else (if (x0_.size : Int) = 1 then (if 0 ≤ (Int.tmod (wrap64 ((wrap64 ((Int.tmod a1 (wrap64 ((x0_.size : Int) + 1))) + (x0_.size : Int))) + 1)) (wrap64 ((x0_.size : Int) + 1))) then (if (Int.tmod (wrap64 ((wrap64 ((Int.tmod a1 (wrap64 ((x0_.size : Int) + 1))) + (x0_.size : Int))) + 1)) (wrap64 ((x0_.size : Int) + 1))) ≤ (x0_.size : Int) then (if (x0_.extract 0 ((Int.tmod (wrap64 ((wrap64 ((Int.tmod a1 (wrap64 ((x0_.size : Int) + 1))) + (x0_.size : Int))) + 1)) (wrap64 ((x0_.size : Int) + 1))) : Int).toNat).size + 3 ≤ 9223372036854775807 then ((glob_Match.f ((x0_.extract 0 ((Int.tmod (wrap64 ((wrap64 ((Int.tmod a1 (wrap64 ((x0_.size : Int) + 1))) + (x0_.size : Int))) + 1)) (wrap64 ((x0_.size : Int) + 1))) : Int).toNat) ++ (⟨#[42, 42, 42]⟩ : ByteArray)) x0_).bind fun t195 => (if t195 = true then (if 2 + (x0_.extract ((Int.tmod (wrap64 ((wrap64 ((Int.tmod a1 (wrap64 ((x0_.size : Int) + 1))) + (x0_.size : Int))) + 1)) (wrap64 ((x0_.size : Int) + 1))) : Int).toNat x0_.size).size ≤ 9223372036854775807 then ((glob_Match.f ((⟨#[42, 42]⟩ : ByteArray) ++ (x0_.extract ((Int.tmod (wrap64 ((wrap64 ((Int.tmod a1 (wrap64 ((x0_.size : Int) + 1))) + (x0_.size : Int))) + 1)) (wrap64 ((x0_.size : Int) + 1))) : Int).toNat x0_.size)) x0_).bind fun t196 => (if t196 = true then (if (x0_.extract 0 ((Int.tmod (wrap64 ((wrap64 ((Int.tmod a1 (wrap64 ((x0_.size : Int) + 1))) + (x0_.size : Int))) + 1)) (wrap64 ((x0_.size : Int) + 1))) : Int).toNat).size + 1 ≤ 9223372036854775807 then (if ((x0_.extract 0 ((Int.tmod (wrap64 ((wrap64 ((Int.tmod a1 (wrap64 ((x0_.size : Int) + 1))) + (x0_.size : Int))) + 1)) (wrap64 ((x0_.size : Int) + 1))) : Int).toNat) ++ (⟨#[42]⟩ : ByteArray)).size + (x0_.extract ((Int.tmod (wrap64 ((wrap64 ((Int.tmod a1 (wrap64 ((x0_.size : Int) + 1))) + (x0_.size : Int))) + 1)) (wrap64 ((x0_.size : Int) + 1))) : Int).toNat x0_.size).size ≤ 9223372036854775807 then ((glob_Match.f (((x0_.extract 0 ((Int.tmod (wrap64 ((wrap64 ((Int.tmod a1 (wrap64 ((x0_.size : Int) + 1))) + (x0_.size : Int))) + 1)) (wrap64 ((x0_.size : Int) + 1))) : Int).toNat) ++ (⟨#[42]⟩ : ByteArray)) ++ (x0_.extract ((Int.tmod (wrap64 ((wrap64 ((Int.tmod a1 (wrap64 ((x0_.size : Int) + 1))) + (x0_.size : Int))) + 1)) (wrap64 ((x0_.size : Int) + 1))) : Int).toNat x0_.size)) x0_).bind fun t197 => (some t197)) else (none)) else (none)) else (some false))) else (none)) else (some false))) else (none)) else (none)) else (none)) else (if 1 ≤ (t192.size : Int) then ((glob_Match.f (t192.extract 1 t192.size) x0_).bind fun t198 => (if t198 = true then (some false) else (if 0 ≤ (Int.tmod (wrap64 ((wrap64 ((Int.tmod a1 (wrap64 ((x0_.size : Int) + 1))) + (x0_.size : Int))) + 1)) (wrap64 ((x0_.size : Int) + 1))) then (if (Int.tmod (wrap64 ((wrap64 ((Int.tmod a1 (wrap64 ((x0_.size : Int) + 1))) + (x0_.size : Int))) + 1)) (wrap64 ((x0_.size : Int) + 1))) ≤ (x0_.size : Int) then (if (x0_.extract 0 ((Int.tmod (wrap64 ((wrap64 ((Int.tmod a1 (wrap64 ((x0_.size : Int) + 1))) + (x0_.size : Int))) + 1)) (wrap64 ((x0_.size : Int) + 1))) : Int).toNat).size + 3 ≤ 9223372036854775807 then ((glob_Match.f ((x0_.extract 0 ((Int.tmod (wrap64 ((wrap64 ((Int.tmod a1 (wrap64 ((x0_.size : Int) + 1))) + (x0_.size : Int))) + 1)) (wrap64 ((x0_.size : Int) + 1))) : Int).toNat) ++ (⟨#[42, 42, 42]⟩ : ByteArray)) x0_).bind fun t199 => (if t199 = true then (if 2 + (x0_.extract ((Int.tmod (wrap64 ((wrap64 ((Int.tmod a1 (wrap64 ((x0_.size : Int) + 1))) + (x0_.size : Int))) + 1)) (wrap64 ((x0_.size : Int) + 1))) : Int).toNat x0_.size).size ≤ 9223372036854775807 then ((glob_Match.f ((⟨#[42, 42]⟩ : ByteArray) ++ (x0_.extract ((Int.tmod (wrap64 ((wrap64 ((Int.tmod a1 (wrap64 ((x0_.size : Int) + 1))) + (x0_.size : Int))) + 1)) (wrap64 ((x0_.size : Int) + 1))) : Int).toNat x0_.size)) x0_).bind fun t200 => (if t200 = true then (if (x0_.extract 0 ((Int.tmod (wrap64 ((wrap64 ((Int.tmod a1 (wrap64 ((x0_.size : Int) + 1))) + (x0_.size : Int))) + 1)) (wrap64 ((x0_.size : Int) + 1))) : Int).toNat).size + 1 ≤ 9223372036854775807 then (if ((x0_.extract 0 ((Int.tmod (wrap64 ((wrap64 ((Int.tmod a1 (wrap64 ((x0_.size : Int) + 1))) + (x0_.size : Int))) + 1)) (wrap64 ((x0_.size : Int) + 1))) : Int).toNat) ++ (⟨#[42]⟩ : ByteArray)).size + (x0_.extract ((Int.tmod (wrap64 ((wrap64 ((Int.tmod a1 (wrap64 ((x0_.size : Int) + 1))) + (x0_.size : Int))) + 1)) (wrap64 ((x0_.size : Int) + 1))) : Int).toNat x0_.size).size ≤ 9223372036854775807 then ((glob_Match.f (((x0_.extract 0 ((Int.tmod (wrap64 ((wrap64 ((Int.tmod a1 (wrap64 ((x0_.size : Int) + 1))) + (x0_.size : Int))) + 1)) (wrap64 ((x0_.size : Int) + 1))) : Int).toNat) ++ (⟨#[42]⟩ : ByteArray)) ++ (x0_.extract ((Int.tmod (wrap64 ((wrap64 ((Int.tmod a1 (wrap64 ((x0_.size : Int) + 1))) + (x0_.size : Int))) + 1)) (wrap64 ((x0_.size : Int) + 1))) : Int).toNat x0_.size)) x0_).bind fun t201 => (some t201)) else (none)) else (none)) else (some false))) else (none)) else (some false))) else (none)) else (none)) else (none)))) else (none))))) else (none)) else (some false))) = some true := H
              have A20 := Aside0.mk A200
              clear A200
              replace H := Option.bind_eq_some_iff.mp H
              obtain ⟨t193, A210, H⟩ := H
              replace H : (if t193 = true then (if t192.size + 1 ≤ 9223372036854775807 then ((glob_Match.f (t192 ++ (⟨#[63]⟩ : ByteArray)) x0_).bind fun t194 => (if t194 = true then (some false) else (if (x0_.size : Int) = 1 then (if 0 ≤ (Int.tmod (wrap64 ((wrap64 ((Int.tmod a1 (wrap64 ((x0_.size : Int) + 1))) + (x0_.size : Int))) + 1)) (wrap64 ((x0_.size : Int) + 1))) then (if (Int.tmod (wrap64 ((wrap64 ((Int.tmod a1 (wrap64 ((x0_.size : Int) + 1))) + (x0_.size : Int))) + 1)) (wrap64 ((x0_.size : Int) + 1))) ≤ (x0_.size : Int) then (if (x0_.extract 0 ((Int.tmod (wrap64 ((wrap64 ((Int.tmod a1 (wrap64 ((x0_.size : Int) + 1))) + (x0_.size : Int))) + 1)) (wrap64 ((x0_.size : Int) + 1))) : Int).toNat).size + 3 ≤ 9223372036854775807 then ((glob_Match.f ((x0_.extract 0 ((Int.tmod (wrap64 ((wrap64 ((Int.tmod a1 (wrap64 ((x0_.size : Int) + 1))) + (x0_.size : Int))) + 1)) (wrap64 ((x0_.size : Int) + 1))) : Int).toNat) ++ (⟨#[42, 42, 42]⟩ : ByteArray)) x0_).bind fun t195 => (if t195 = true then (if 2 + (x0_.extract ((Int.tmod (wrap64 ((wrap64 ((Int.tmod a1 (wrap64 ((x0_.size : Int) + 1))) + (x0_.size : Int))) + 1)) (wrap64 ((x0_.size : Int) + 1))) : Int).toNat x0_.size).size ≤ 9223372036854775807 then ((glob_Match.f ((⟨#[42, 42]⟩ : ByteArray) ++ (x0_.extract ((Int.tmod (wrap64 ((wrap64 ((Int.tmod a1 (wrap64 ((x0_.size : Int) + 1))) + (x0_.size : Int))) + 1)) (wrap64 ((x0_.size : Int) + 1))) : Int).toNat x0_.size)) x0_).bind fun t196 => (if t196 = true then (if (x0_.extract 0 ((Int.tmod (wrap64 ((wrap64 ((Int.tmod a1 (wrap64 ((x0_.size : Int) + 1))) + (x0_.size : Int))) + 1)) (wrap64 ((x0_.size : Int) + 1))) : Int).toNat).size + 1 ≤ 9223372036854775807 then (if ((x0_.extract 0 ((Int.tmod (wrap64 ((wrap64 ((Int.tmod a1 (wrap64 ((x0_.size : Int) + 1))) + (x0_.size : Int))) + 1)) (wrap64 ((x0_.size : Int) + 1))) : Int).toNat) ++ (⟨#[42]⟩ : ByteArray)).size + (x0_.extract ((Int.tmod (wrap64 ((wrap64 ((Int.tmod a1 (wrap64 ((x0_.size : Int) + 1))) + (x0_.size : Int))) + 1)) (wrap64 ((x0_.size : Int) + 1))) : Int).toNat x0_.size).size ≤ 9223372036854775807 then ((glob_Match.f (((x0_.extract 0 ((Int.tmod (wrap64 ((wrap64 ((Int.tmod a1 (wrap64 ((x0_.size : Int) + 1))) + (x0_.size : Int))) + 1)) (wrap64 ((x0_.size : Int) + 1))) : Int).toNat) ++ (⟨#[42]⟩ : ByteArray)) ++ (x0_.extract ((Int.tmod (wrap64 ((wrap64 ((Int.tmod a1 (wrap64 ((x0_.size : Int) + 1))) + (x0_.size : Int))) + 1)) (wrap64 ((x0_.size : Int) + 1))) : Int).toNat x0_.size)) x0_).bind fun t197 => (some t197)) else (none)) else (none)) else (some false))) else (none)) else (some false))) else (none)) else (none)) else (none)) else (if 1 ≤ (t192.size : Int) then ((glob_Match.f (t192.extract 1 t192.size) x0_).bind fun t198 => (if t198 = true then (some false) else (if 0 ≤ (Int.tmod (wrap64 ((wrap64 ((Int.tmod a1 (wrap64 ((x0_.size : Int) + 1))) + (x0_.size : Int))) + 1)) (wrap64 ((x0_.size : Int) + 1))) then (if (Int.tmod (wrap64 ((wrap64 ((Int.tmod a1 (wrap64 ((x0_.size : Int) + 1))) + (x0_.size : Int))) + 1)) (wrap64 ((x0_.size : Int) + 1))) ≤ (x0_.size : Int) then (if (x0_.extract 0 ((Int.tmod (wrap64 ((wrap64 ((Int.tmod a1 (wrap64 ((x0_.size : Int) + 1))) + (x0_.size : Int))) + 1)) (wrap64 ((x0_.size : Int) + 1))) : Int).toNat).size + 3 ≤ 9223372036854775807 then ((glob_Match.f ((x0_.extract 0 ((Int.tmod (wrap64 ((wrap64 ((Int.tmod a1 (wrap64 ((x0_.size : Int) + 1))) + (x0_.size : Int))) + 1)) (wrap64 ((x0_.size : Int) + 1))) : Int).toNat) ++ (⟨#[42, 42, 42]⟩ : ByteArray)) x0_).bind fun t199 => (if t199 = true then (if 2 + (x0_.extract ((Int.tmod (wrap64 ((wrap64 ((Int.tmod a1 (wrap64 ((x0_.size : Int) + 1))) + (x0_.size : Int))) + 1)) (wrap64 ((x0_.size : Int) + 1))) : Int).toNat x0_.size).size ≤ 9223372036854775807 then ((glob_Match.f ((⟨#[42, 42]⟩ : ByteArray) ++ (x0_.extract ((Int.tmod (wrap64 ((wrap64 ((Int.tmod a1 (wrap64 ((x0_.size : Int) + 1))) + (x0_.size : Int))) + 1)) (wrap64 ((x0_.size : Int) + 1))) : Int).toNat x0_.size)) x0_).bind fun t200 => (if t200 = true then (if (x0_.extract 0 ((Int.tmod (wrap64 ((wrap64 ((Int.tmod a1 (wrap64 ((x0_.size : Int) + 1))) + (x0_.size : Int))) + 1)) (wrap64 ((x0_.size : Int) + 1))) : Int).toNat).size + 1 ≤ 9223372036854775807 then (if ((x0_.extract 0 ((Int.tmod (wrap64 ((wrap64 ((Int.tmod a1 (wrap64 ((x0_.size : Int) + 1))) + (x0_.size : Int))) + 1)) (wrap64 ((x0_.size : Int) + 1))) : Int).toNat) ++ (⟨#[42]⟩ : ByteArray)).size + (x0_.extract ((Int.tmod (wrap64 ((wrap64 ((Int.tmod a1 (wrap64 ((x0_.size : Int) + 1))) + (x0_.size : Int))) + 1)) (wrap64 ((x0_.size : Int) + 1))) : Int).toNat x0_.size).size ≤ 9223372036854775807 then ((glob_Match.f (((x0_.extract 0 ((Int.tmod (wrap64 ((wrap64 ((Int.tmod a1 (wrap64 ((x0_.size : Int) + 1))) + (x0_.size : Int))) + 1)) (wrap64 ((x0_.size : Int) + 1))) : Int).toNat) ++ (⟨#[42]⟩ : ByteArray)) ++ (x0_.extract ((Int.tmod (wrap64 ((wrap64 ((Int.tmod a1 (wrap64 ((x0_.size : Int) + 1))) + (x0_.size : Int))) + 1)) (wrap64 ((x0_.size : Int) + 1))) : Int).toNat x0_.size)) x0_).bind fun t201 => (some t201)) else (none)) else (none)) else (some false))) else (none)) else (some false))) else (none)) else (none)) else (none)))) else (none))))) else (none)) else (some false)) = some true := H
              have A21 := Aside0.mk A210
              clear A210
              by_cases c22 : t193 = true
              · subst c22
                have H1 : (if t192.size + 1 ≤ 9223372036854775807 then ((glob_Match.f (t192 ++ (⟨#[63]⟩ : ByteArray)) x0_).bind fun t194 => (if t194 = true then (some false) else (if (x0_.size : Int) = 1 then (if 0 ≤ (Int.tmod (wrap64 ((wrap64 ((Int.tmod a1 (wrap64 ((x0_.size : Int) + 1))) + (x0_.size : Int))) + 1)) (wrap64 ((x0_.size : Int) + 1))) then (if (Int.tmod (wrap64 ((wrap64 ((Int.tmod a1 (wrap64 ((x0_.size : Int) + 1))) + (x0_.size : Int))) + 1)) (wrap64 ((x0_.size : Int) + 1))) ≤ (x0_.size : Int) then (if (x0_.extract 0 ((Int.tmod (wrap64 ((wrap64 ((Int.tmod a1 (wrap64 ((x0_.size : Int) + 1))) + (x0_.size : Int))) + 1)) (wrap64 ((x0_.size : Int) + 1))) : Int).toNat).size + 3 ≤ 9223372036854775807 then ((glob_Match.f ((x0_.extract 0 ((Int.tmod (wrap64 ((wrap64 ((Int.tmod a1 (wrap64 ((x0_.size : Int) + 1))) + (x0_.size : Int))) + 1)) (wrap64 ((x0_.size : Int) + 1))) : Int).toNat) ++ (⟨#[42, 42, 42]⟩ : ByteArray)) x0_).bind fun t195 => (if t195 = true then (if 2 + (x0_.extract ((Int.tmod (wrap64 ((wrap64 ((Int.tmod a1 (wrap64 ((x0_.size : Int) + 1))) + (x0_.size : Int))) + 1)) (wrap64 ((x0_.size : Int) + 1))) : Int).toNat x0_.size).size ≤ 9223372036854775807 then ((glob_Match.f ((⟨#[42, 42]⟩ : ByteArray) ++ (x0_.extract ((Int.tmod (wrap64 ((wrap64 ((Int.tmod a1 (wrap64 ((x0_.size : Int) + 1))) + (x0_.size : Int))) + 1)) (wrap64 ((x0_.size : Int) + 1))) : Int).toNat x0_.size)) x0_).bind fun t196 => (if t196 = true then (if (x0_.extract 0 ((Int.tmod (wrap64 ((wrap64 ((Int.tmod a1 (wrap64 ((x0_.size : Int) + 1))) + (x0_.size : Int))) + 1)) (wrap64 ((x0_.size : Int) + 1))) : Int).toNat).size + 1 ≤ 9223372036854775807 then (if ((x0_.extract 0 ((Int.tmod (wrap64 ((wrap64 ((Int.tmod a1 (wrap64 ((x0_.size : Int) + 1))) + (x0_.size : Int))) + 1)) (wrap64 ((x0_.size : Int) + 1))) : Int).toNat) ++ (⟨#[42]⟩ : ByteArray)).size + (x0_.extract ((Int.tmod (wrap64 ((wrap64 ((Int.tmod a1 (wrap64 ((x0_.size : Int) + 1))) + (x0_.size : Int))) + 1)) (wrap64 ((x0_.size : Int) + 1))) : Int).toNat x0_.size).size ≤ 9223372036854775807 then ((glob_Match.f (((x0_.extract 0 ((Int.tmod (wrap64 ((wrap64 ((Int.tmod a1 (wrap64 ((x0_.size : Int) + 1))) + (x0_.size : Int))) + 1)) (wrap64 ((x0_.size : Int) + 1))) : Int).toNat) ++ (⟨#[42]⟩ : ByteArray)) ++ (x0_.extract ((Int.tmod (wrap64 ((wrap64 ((Int.tmod a1 (wrap64 ((x0_.size : Int) + 1))) + (x0_.size : Int))) + 1)) (wrap64 ((x0_.size : Int) + 1))) : Int).toNat x0_.size)) x0_).bind fun t197 => (some t197)) else (none)) else (none)) else (some false))) else (none)) else (some false))) else (none)) else (none)) else (none)) else (if 1 ≤ (t192.size : Int) then ((glob_Match.f (t192.extract 1 t192.size) x0_).bind fun t198 => (if t198 = true then (some false) else (if 0 ≤ (Int.tmod (wrap64 ((wrap64 ((Int.tmod a1 (wrap64 ((x0_.size : Int) + 1))) + (x0_.size : Int))) + 1)) (wrap64 ((x0_.size : Int) + 1))) then (if (Int.tmod (wrap64 ((wrap64 ((Int.tmod a1 (wrap64 ((x0_.size : Int) + 1))) + (x0_.size : Int))) + 1)) (wrap64 ((x0_.size : Int) + 1))) ≤ (x0_.size : Int) then (if (x0_.extract 0 ((Int.tmod (wrap64 ((wrap64 ((Int.tmod a1 (wrap64 ((x0_.size : Int) + 1))) + (x0_.size : Int))) + 1)) (wrap64 ((x0_.size : Int) + 1))) : Int).toNat).size + 3 ≤ 9223372036854775807 then ((glob_Match.f ((x0_.extract 0 ((Int.tmod (wrap64 ((wrap64 ((Int.tmod a1 (wrap64 ((x0_.size : Int) + 1))) + (x0_.size : Int))) + 1)) (wrap64 ((x0_.size : Int) + 1))) : Int).toNat) ++ (⟨#[42, 42, 42]⟩ : ByteArray)) x0_).bind fun t199 => (if t199 = true then (if 2 + (x0_.extract ((Int.tmod (wrap64 ((wrap64 ((Int.tmod a1 (wrap64 ((x0_.size : Int) + 1))) + (x0_.size : Int))) + 1)) (wrap64 ((x0_.size : Int) + 1))) : Int).toNat x0_.size).size ≤ 9223372036854775807 then ((glob_Match.f ((⟨#[42, 42]⟩ : ByteArray) ++ (x0_.extract ((Int.tmod (wrap64 ((wrap64 ((Int.tmod a1 (wrap64 ((x0_.size : Int) + 1))) + (x0_.size : Int))) + 1)) (wrap64 ((x0_.size : Int) + 1))) : Int).toNat x0_.size)) x0_).bind fun t200 => (if t200 = true then (if (x0_.extract 0 ((Int.tmod (wrap64 ((wrap64 ((Int.tmod a1 (wrap64 ((x0_.size : Int) + 1))) + (x0_.size : Int))) + 1)) (wrap64 ((x0_.size : Int) + 1))) : Int).toNat).size + 1 ≤ 9223372036854775807 then (if ((x0_.extract 0 ((Int.tmod (wrap64 ((wrap64 ((Int.tmod a1 (wrap64 ((x0_.size : Int) + 1))) + (x0_.size : Int))) + 1)) (wrap64 ((x0_.size : Int) + 1))) : Int).toNat) ++ (⟨#[42]⟩ : ByteArray)).size + (x0_.extract ((Int.tmod (wrap64 ((wrap64 ((Int.tmod a1 (wrap64 ((x0_.size : Int) + 1))) + (x0_.size : Int))) + 1)) (wrap64 ((x0_.size : Int) + 1))) : Int).toNat x0_.size).size ≤ 9223372036854775807 then ((glob_Match.f (((x0_.extract 0 ((Int.tmod (wrap64 ((wrap64 ((Int.tmod a1 (wrap64 ((x0_.size : Int) + 1))) + (x0_.size : Int))) + 1)) (wrap64 ((x0_.size : Int) + 1))) : Int).toNat) ++ (⟨#[42]⟩ : ByteArray)) ++ (x0_.extract ((Int.tmod (wrap64 ((wrap64 ((Int.tmod a1 (wrap64 ((x0_.size : Int) + 1))) + (x0_.size : Int))) + 1)) (wrap64 ((x0_.size : Int) + 1))) : Int).toNat x0_.size)) x0_).bind fun t201 => (some t201)) else (none)) else (none)) else (some false))) else (none)) else (some false))) else (none)) else (none)) else (none)))) else (none))))) else (none)) = some true := by rw [if_pos rfl] at H; exact H
                clear H
                have H := H1
                clear H1
                by_cases c23 : t192.size + 1 ≤ 9223372036854775807
                · rw [if_pos c23] at H
                  have c23b0 := eq_true c23
                  have c23b1 : decide (t192.size + 1 ≤ 9223372036854775807) = true := decide_eq_true c23
                  try have c23b2 : (9223372036854775807 < t192.size + 1) = False := eq_false (Nat.not_lt.2 c23)
                  replace H := Option.bind_eq_some_iff.mp H
                  obtain ⟨t194, A240, H⟩ := H
                  replace H : (if t194 = true then (some false) else (if (x0_.size : Int) = 1 then (if 0 ≤ (Int.tmod (wrap64 ((wrap64 ((Int.tmod a1 (wrap64 ((x0_.size : Int) + 1))) + (x0_.size : Int))) + 1)) (wrap64 ((x0_.size : Int) + 1))) then (if (Int.tmod (wrap64 ((wrap64 ((Int.tmod a1 (wrap64 ((x0_.size : Int) + 1))) + (x0_.size : Int))) + 1)) (wrap64 ((x0_.size : Int) + 1))) ≤ (x0_.size : Int) then (if (x0_.extract 0 ((Int.tmod (wrap64 ((wrap64 ((Int.tmod a1 (wrap64 ((x0_.size : Int) + 1))) + (x0_.size : Int))) + 1)) (wrap64 ((x0_.size : Int) + 1))) : Int).toNat).size + 3 ≤ 9223372036854775807 then ((glob_Match.f ((x0_.extract 0 ((Int.tmod (wrap64 ((wrap64 ((Int.tmod a1 (wrap64 ((x0_.size : Int) + 1))) + (x0_.size : Int))) + 1)) (wrap64 ((x0_.size : Int) + 1))) : Int).toNat) ++ (⟨#[42, 42, 42]⟩ : ByteArray)) x0_).bind fun t195 => (if t195 = true then (if 2 + (x0_.extract ((Int.tmod (wrap64 ((wrap64 ((Int.tmod a1 (wrap64 ((x0_.size : Int) + 1))) + (x0_.size : Int))) + 1)) (wrap64 ((x0_.size : Int) + 1))) : Int).toNat x0_.size).size ≤ 9223372036854775807 then ((glob_Match.f ((⟨#[42, 42]⟩ : ByteArray) ++ (x0_.extract ((Int.tmod (wrap64 ((wrap64 ((Int.tmod a1 (wrap64 ((x0_.size : Int) + 1))) + (x0_.size : Int))) + 1)) (wrap64 ((x0_.size : Int) + 1))) : Int).toNat x0_.size)) x0_).bind fun t196 => (if t196 = true then (if (x0_.extract 0 ((Int.tmod (wrap64 ((wrap64 ((Int.tmod a1 (wrap64 ((x0_.size : Int) + 1))) + (x0_.size : Int))) + 1)) (wrap64 ((x0_.size : Int) + 1))) : Int).toNat).size + 1 ≤ 9223372036854775807 then (if ((x0_.extract 0 ((Int.tmod (wrap64 ((wrap64 ((Int.tmod a1 (wrap64 ((x0_.size : Int) + 1))) + (x0_.size : Int))) + 1)) (wrap64 ((x0_.size : Int) + 1))) : Int).toNat) ++ (⟨#[42]⟩ : ByteArray)).size + (x0_.extract ((Int.tmod (wrap64 ((wrap64 ((Int.tmod a1 (wrap64 ((x0_.size : Int) + 1))) + (x0_.size : Int))) + 1)) (wrap64 ((x0_.size : Int) + 1))) : Int).toNat x0_.size).size ≤ 9223372036854775807 then ((glob_Match.f (((x0_.extract 0 ((Int.tmod (wrap64 ((wrap64 ((Int.tmod a1 (wrap64 ((x0_.size : Int) + 1))) + (x0_.size : Int))) + 1)) (wrap64 ((x0_.size : Int) + 1))) : Int).toNat) ++ (⟨#[42]⟩ : ByteArray)) ++ (x0_.extract ((Int.tmod (wrap64 ((wrap64 ((Int.tmod a1 (wrap64 ((x0_.size : Int) + 1))) + (x0_.size : Int))) + 1)) (wrap64 ((x0_.size : Int) + 1))) : Int).toNat x0_.size)) x0_).bind fun t197 => (some t197)) else (none)) else (none)) else (some false))) else (none)) else (some false))) else (none)) else (none)) else (none)) else (if 1 ≤ (t192.size : Int) then ((glob_Match.f (t192.extract 1 t192.size) x0_).bind fun t198 => (if t198 = true then (some false) else (if 0 ≤ (Int.tmod (wrap64 ((wrap64 ((Int.tmod a1 (wrap64 ((x0_.size : Int) + 1))) + (x0_.size : Int))) + 1)) (wrap64 ((x0_.size : Int) + 1))) then (if (Int.tmod (wrap64 ((wrap64 ((Int.tmod a1 (wrap64 ((x0_.size : Int) + 1))) + (x0_.size : Int))) + 1)) (wrap64 ((x0_.size : Int) + 1))) ≤ (x0_.size : Int) then (if (x0_.extract 0 ((Int.tmod (wrap64 ((wrap64 ((Int.tmod a1 (wrap64 ((x0_.size : Int) + 1))) + (x0_.size : Int))) + 1)) (wrap64 ((x0_.size : Int) + 1))) : Int).toNat).size + 3 ≤ 9223372036854775807 then ((glob_Match.f ((x0_.extract 0 ((Int.tmod (wrap64 ((wrap64 ((Int.tmod a1 (wrap64 ((x0_.size : Int) + 1))) + (x0_.size : Int))) + 1)) (wrap64 ((x0_.size : Int) + 1))) : Int).toNat) ++ (⟨#[42, 42, 42]⟩ : ByteArray)) x0_).bind fun t199 => (if t199 = true then (if 2 + (x0_.extract ((Int.tmod (wrap64 ((wrap64 ((Int.tmod a1 (wrap64 ((x0_.size : Int) + 1))) + (x0_.size : Int))) + 1)) (wrap64 ((x0_.size : Int) + 1))) : Int).toNat x0_.size).size ≤ 9223372036854775807 then ((glob_Match.f ((⟨#[42, 42]⟩ : ByteArray) ++ (x0_.extract ((Int.tmod (wrap64 ((wrap64 ((Int.tmod a1 (wrap64 ((x0_.size : Int) + 1))) + (x0_.size : Int))) + 1)) (wrap64 ((x0_.size : Int) + 1))) : Int).toNat x0_.size)) x0_).bind fun t200 => (if t200 = true then (if (x0_.extract 0 ((Int.tmod (wrap64 ((wrap64 ((Int.tmod a1 (wrap64 ((x0_.size : Int) + 1))) + (x0_.size : Int))) + 1)) (wrap64 ((x0_.size : Int) + 1))) : Int).toNat).size + 1 ≤ 9223372036854775807 then (if ((x0_.extract 0 ((Int.tmod (wrap64 ((wrap64 ((Int.tmod a1 (wrap64 ((x0_.size : Int) + 1))) + (x0_.size : Int))) + 1)) (wrap64 ((x0_.size : Int) + 1))) : Int).toNat) ++ (⟨#[42]⟩ : ByteArray)).size + (x0_.extract ((Int.tmod (wrap64 ((wrap64 ((Int.tmod a1 (wrap64 ((x0_.size : Int) + 1))) + (x0_.size : Int))) + 1)) (wrap64 ((x0_.size : Int) + 1))) : Int).toNat x0_.size).size ≤ 9223372036854775807 then ((glob_Match.f (((x0_.extract 0 ((Int.tmod (wrap64 ((wrap64 ((Int.tmod a1 (wrap64 ((x0_.size : Int) + 1))) + (x0_.size : Int))) + 1)) (wrap64 ((x0_.size : Int) + 1))) : Int).toNat) ++ (⟨#[42]⟩ : ByteArray)) ++ (x0_.extract ((Int.tmod (wrap64 ((wrap64 ((Int.tmod a1 (wrap64 ((x0_.size : Int) + 1))) + (x0_.size : Int))) + 1)) (wrap64 ((x0_.size : Int) + 1))) : Int).toNat x0_.size)) x0_).bind fun t201 => (some t201)) else (none)) else (none)) else (some false))) else (none)) else (some false))) else (none)) else (none)) else (none)))) else (none)))) = some true := H
                  have A24 := Aside0.mk A240
                  clear A240
                  by_cases c25 : t194 = true
                  · subst c25
                    have H1 : (some false) = some true := by rw [if_pos rfl] at H; exact H
                    cases H1
                  · replace c25 := Bool.eq_false_iff.mpr c25
                    subst c25
                    have H1 : (if (x0_.size : Int) = 1 then (if 0 ≤ (Int.tmod (wrap64 ((wrap64 ((Int.tmod a1 (wrap64 ((x0_.size : Int) + 1))) + (x0_.size : Int))) + 1)) (wrap64 ((x0_.size : Int) + 1))) then (if (Int.tmod (wrap64 ((wrap64 ((Int.tmod a1 (wrap64 ((x0_.size : Int) + 1))) + (x0_.size : Int))) + 1)) (wrap64 ((x0_.size : Int) + 1))) ≤ (x0_.size : Int) then (if (x0_.extract 0 ((Int.tmod (wrap64 ((wrap64 ((Int.tmod a1 (wrap64 ((x0_.size : Int) + 1))) + (x0_.size : Int))) + 1)) (wrap64 ((x0_.size : Int) + 1))) : Int).toNat).size + 3 ≤ 9223372036854775807 then ((glob_Match.f ((x0_.extract 0 ((Int.tmod (wrap64 ((wrap64 ((Int.tmod a1 (wrap64 ((x0_.size : Int) + 1))) + (x0_.size : Int))) + 1)) (wrap64 ((x0_.size : Int) + 1))) : Int).toNat) ++ (⟨#[42, 42, 42]⟩ : ByteArray)) x0_).bind fun t195 => (if t195 = true then (if 2 + (x0_.extract ((Int.tmod (wrap64 ((wrap64 ((Int.tmod a1 (wrap64 ((x0_.size : Int) + 1))) + (x0_.size : Int))) + 1)) (wrap64 ((x0_.size : Int) + 1))) : Int).toNat x0_.size).size ≤ 9223372036854775807 then ((glob_Match.f ((⟨#[42, 42]⟩ : ByteArray) ++ (x0_.extract ((Int.tmod (wrap64 ((wrap64 ((Int.tmod a1 (wrap64 ((x0_.size : Int) + 1))) + (x0_.size : Int))) + 1)) (wrap64 ((x0_.size : Int) + 1))) : Int).toNat x0_.size)) x0_).bind fun t196 => (if t196 = true then (if (x0_.extract 0 ((Int.tmod (wrap64 ((wrap64 ((Int.tmod a1 (wrap64 ((x0_.size : Int) + 1))) + (x0_.size : Int))) + 1)) (wrap64 ((x0_.size : Int) + 1))) : Int).toNat).size + 1 ≤ 9223372036854775807 then (if ((x0_.extract 0 ((Int.tmod (wrap64 ((wrap64 ((Int.tmod a1 (wrap64 ((x0_.size : Int) + 1))) + (x0_.size : Int))) + 1)) (wrap64 ((x0_.size : Int) + 1))) : Int).toNat) ++ (⟨#[42]⟩ : ByteArray)).size + (x0_.extract ((Int.tmod (wrap64 ((wrap64 ((Int.tmod a1 (wrap64 ((x0_.size : Int) + 1))) + (x0_.size : Int))) + 1)) (wrap64 ((x0_.size : Int) + 1))) : Int).toNat x0_.size).size ≤ 9223372036854775807 then ((glob_Match.f (((x0_.extract 0 ((Int.tmod (wrap64 ((wrap64 ((Int.tmod a1 (wrap64 ((x0_.size : Int) + 1))) + (x0_.size : Int))) + 1)) (wrap64 ((x0_.size : Int) + 1))) : Int).toNat) ++ (⟨#[42]⟩ : ByteArray)) ++ (x0_.extract ((Int.tmod (wrap64 ((wrap64 ((Int.tmod a1 (wrap64 ((x0_.size : Int) + 1))) + (x0_.size : Int))) + 1)) (wrap64 ((x0_.size : Int) + 1))) : Int).toNat x0_.size)) x0_).bind fun t197 => (some t197)) else (none)) else (none)) else (some false))) else (none)) else (some false))) else (none)) else (none)) else (none)) else (if 1 ≤ (t192.size : Int) then ((glob_Match.f (t192.extract 1 t192.size) x0_).bind fun t198 => (if t198 = true then (some false) else (if 0 ≤ (Int.tmod (wrap64 ((wrap64 ((Int.tmod a1 (wrap64 ((x0_.size : Int) + 1))) + (x0_.size : Int))) + 1)) (wrap64 ((x0_.size : Int) + 1))) then (if (Int.tmod (wrap64 ((wrap64 ((Int.tmod a1 (wrap64 ((x0_.size : Int) + 1))) + (x0_.size : Int))) + 1)) (wrap64 ((x0_.size : Int) + 1))) ≤ (x0_.size : Int) then (if (x0_.extract 0 ((Int.tmod (wrap64 ((wrap64 ((Int.tmod a1 (wrap64 ((x0_.size : Int) + 1))) + (x0_.size : Int))) + 1)) (wrap64 ((x0_.size : Int) + 1))) : Int).toNat).size + 3 ≤ 9223372036854775807 then ((glob_Match.f ((x0_.extract 0 ((Int.tmod (wrap64 ((wrap64 ((Int.tmod a1 (wrap64 ((x0_.size : Int) + 1))) + (x0_.size : Int))) + 1)) (wrap64 ((x0_.size : Int) + 1))) : Int).toNat) ++ (⟨#[42, 42, 42]⟩ : ByteArray)) x0_).bind fun t199 => (if t199 = true then (if 2 + (x0_.extract ((Int.tmod (wrap64 ((wrap64 ((Int.tmod a1 (wrap64 ((x0_.size : Int) + 1))) + (x0_.size : Int))) + 1)) (wrap64 ((x0_.size : Int) + 1))) : Int).toNat x0_.size).size ≤ 9223372036854775807 then ((glob_Match.f ((⟨#[42, 42]⟩ : ByteArray) ++ (x0_.extract ((Int.tmod (wrap64 ((wrap64 ((Int.tmod a1 (wrap64 ((x0_.size : Int) + 1))) + (x0_.size : Int))) + 1)) (wrap64 ((x0_.size : Int) + 1))) : Int).toNat x0_.size)) x0_).bind fun t200 => (if t200 = true then (if (x0_.extract 0 ((Int.tmod (wrap64 ((wrap64 ((Int.tmod a1 (wrap64 ((x0_.size : Int) + 1))) + (x0_.size : Int))) + 1)) (wrap64 ((x0_.size : Int) + 1))) : Int).toNat).size + 1 ≤ 9223372036854775807 then (if ((x0_.extract 0 ((Int.tmod (wrap64 ((wrap64 ((Int.tmod a1 (wrap64 ((x0_.size : Int) + 1))) + (x0_.size : Int))) + 1)) (wrap64 ((x0_.size : Int) + 1))) : Int).toNat) ++ (⟨#[42]⟩ : ByteArray)).size + (x0_.extract ((Int.tmod (wrap64 ((wrap64 ((Int.tmod a1 (wrap64 ((x0_.size : Int) + 1))) + (x0_.size : Int))) + 1)) (wrap64 ((x0_.size : Int) + 1))) : Int).toNat x0_.size).size ≤ 9223372036854775807 then ((glob_Match.f (((x0_.extract 0 ((Int.tmod (wrap64 ((wrap64 ((Int.tmod a1 (wrap64 ((x0_.size : Int) + 1))) + (x0_.size : Int))) + 1)) (wrap64 ((x0_.size : Int) + 1))) : Int).toNat) ++ (⟨#[42]⟩ : ByteArray)) ++ (x0_.extract ((Int.tmod (wrap64 ((wrap64 ((Int.tmod a1 (wrap64 ((x0_.size : Int) + 1))) + (x0_.size : Int))) + 1)) (wrap64 ((x0_.size : Int) + 1))) : Int).toNat x0_.size)) x0_).bind fun t201 => (some t201)) else (none)) else (none)) else (some false))) else (none)) else (some false))) else (none)) else (none)) else (none)))) else (none))) = some true := by rw [if_neg (show ¬ (false = true) by decide)] at H; exact H
                    clear H
                    have H := H1
                    clear H1
                    by_cases c30 : (x0_.size : Int) = 1
                    · rw [if_pos c30] at H
                      have c30b0 : ((x0_.size : Int) == 1) = true := beq_iff_eq.mpr c30
                      have c30b1 : ((x0_.size : Int) != 1) = false := bne_eq_false_iff_eq.mpr c30
                      clear c30
                      obtain ⟨ji31, hji31⟩ : ∃ j_ : Int, (Int.tmod (wrap64 ((wrap64 ((Int.tmod a1 (wrap64 ((x0_.size : Int) + 1))) + (x0_.size : Int))) + 1)) (wrap64 ((x0_.size : Int) + 1))) = j_ := ⟨_, rfl⟩
                      replace H : (if 0 ≤ (ji31) then (if (ji31) ≤ (x0_.size : Int) then (if (x0_.extract 0 ((ji31) : Int).toNat).size + 3 ≤ 9223372036854775807 then ((glob_Match.f ((x0_.extract 0 ((ji31) : Int).toNat) ++ (⟨#[42, 42, 42]⟩ : ByteArray)) x0_).bind fun t195 => (if t195 = true then (if 2 + (x0_.extract ((ji31) : Int).toNat x0_.size).size ≤ 9223372036854775807 then ((glob_Match.f ((⟨#[42, 42]⟩ : ByteArray) ++ (x0_.extract ((ji31) : Int).toNat x0_.size)) x0_).bind fun t196 => (if t196 = true then (if (x0_.extract 0 ((ji31) : Int).toNat).size + 1 ≤ 9223372036854775807 then (if ((x0_.extract 0 ((ji31) : Int).toNat) ++ (⟨#[42]⟩ : ByteArray)).size + (x0_.extract ((ji31) : Int).toNat x0_.size).size ≤ 9223372036854775807 then ((glob_Match.f (((x0_.extract 0 ((ji31) : Int).toNat) ++ (⟨#[42]⟩ : ByteArray)) ++ (x0_.extract ((ji31) : Int).toNat x0_.size)) x0_).bind fun t197 => (some t197)) else (none)) else (none)) else (some false))) else (none)) else (some false))) else (none)) else (none)) else (none)) = some true := by first | (rw [hji31] at H; exact H) | (simp only [hji31] at H ⊢; exact H)
                      (try rw [hji31] at A20)
                      (try rw [hji31] at A21)
                      (try rw [hji31] at A24)
                      by_cases c32 : 0 ≤ (ji31)
                      · rw [if_pos c32] at H
                        have c32b0 := eq_true c32
                        have c32b1 : decide (0 ≤ (ji31)) = true := decide_eq_true c32
                        clear c32
                        by_cases c33 : (ji31) ≤ (x0_.size : Int)
                        · rw [if_pos c33] at H
                          have c33b0 := eq_true c33
                          have c33b1 : decide ((ji31) ≤ (x0_.size : Int)) = true := decide_eq_true c33
                          clear c33
                          by_cases c34 : (x0_.extract 0 ((ji31) : Int).toNat).size + 3 ≤ 9223372036854775807
                          · rw [if_pos c34] at H
                            have c34b0 := eq_true c34
                            have c34b1 : decide ((x0_.extract 0 ((ji31) : Int).toNat).size + 3 ≤ 9223372036854775807) = true := decide_eq_true c34
                            try have c34b2 : (9223372036854775807 < (x0_.extract 0 ((ji31) : Int).toNat).size + 3) = False := eq_false (Nat.not_lt.2 c34)
                            have c34x : (9223372036854775807 < ji31.toNat + 3) = False := eq_false (by have h_ := c34; simp only [ByteArray.size_extract, ByteArray.size_append] at h_; have hJ_ := of_eq_true c33b0; have e1_ : (⟨#[42]⟩ : ByteArray).size = 1 := rfl; omega)
                            replace H := Option.bind_eq_some_iff.mp H
                            obtain ⟨t195, A350, H⟩ := H
                            replace H : (if t195 = true then (if 2 + (x0_.extract ((ji31) : Int).toNat x0_.size).size ≤ 9223372036854775807 then ((glob_Match.f ((⟨#[42, 42]⟩ : ByteArray) ++ (x0_.extract ((ji31) : Int).toNat x0_.size)) x0_).bind fun t196 => (if t196 = true then (if (x0_.extract 0 ((ji31) : Int).toNat).size + 1 ≤ 9223372036854775807 then (if ((x0_.extract 0 ((ji31) : Int).toNat) ++ (⟨#[42]⟩ : ByteArray)).size + (x0_.extract ((ji31) : Int).toNat x0_.size).size ≤ 9223372036854775807 then ((glob_Match.f (((x0_.extract 0 ((ji31) : Int).toNat) ++ (⟨#[42]⟩ : ByteArray)) ++ (x0_.extract ((ji31) : Int).toNat x0_.size)) x0_).bind fun t197 => (some t197)) else (none)) else (none)) else (some false))) else (none)) else (some false)) = some true := H
                            have A35 := Aside0.mk A350
                            clear A350
                            by_cases c36 : t195 = true
                            · subst c36
                              have H1 : (if 2 + (x0_.extract ((ji31) : Int).toNat x0_.size).size ≤ 9223372036854775807 then ((glob_Match.f ((⟨#[42, 42]⟩ : ByteArray) ++ (x0_.extract ((ji31) : Int).toNat x0_.size)) x0_).bind fun t196 => (if t196 = true then (if (x0_.extract 0 ((ji31) : Int).toNat).size + 1 ≤ 9223372036854775807 then (if ((x0_.extract 0 ((ji31) : Int).toNat) ++ (⟨#[42]⟩ : ByteArray)).size + (x0_.extract ((ji31) : Int).toNat x0_.size).size ≤ 9223372036854775807 then ((glob_Match.f (((x0_.extract 0 ((ji31) : Int).toNat) ++ (⟨#[42]⟩ : ByteArray)) ++ (x0_.extract ((ji31) : Int).toNat x0_.size)) x0_).bind fun t197 => (some t197)) else (none)) else (none)) else (some false))) else (none)) = some true := by rw [if_pos rfl] at H; exact H
                              clear H
                              have H := H1
                              clear H1
                              have c37b0 := eq_true (of_decide_eq_true (by first | (with_reducible assumption) | assumption) : 0 ≤ (ji31))
                              have c38b0 := eq_true (of_decide_eq_true (by first | (with_reducible assumption) | assumption) : (ji31) ≤ (x0_.size : Int))
                              by_cases c39 : 2 + (x0_.extract ((ji31) : Int).toNat x0_.size).size ≤ 9223372036854775807
                              · rw [if_pos c39] at H
                                have c39b0 := eq_true c39
                                have c39b1 : decide (2 + (x0_.extract ((ji31) : Int).toNat x0_.size).size ≤ 9223372036854775807) = true := decide_eq_true c39
                                try have c39b2 : (9223372036854775807 < 2 + (x0_.extract ((ji31) : Int).toNat x0_.size).size) = False := eq_false (Nat.not_lt.2 c39)
                                have c39x : (9223372036854775807 < 2 + (x0_.size - ji31.toNat)) = False := eq_false (by have h_ := c39; simp only [ByteArray.size_extract, ByteArray.size_append] at h_; have hJ_ := of_eq_true c33b0; have e1_ : (⟨#[42]⟩ : ByteArray).size = 1 := rfl; omega)
                                replace H := Option.bind_eq_some_iff.mp H
                                obtain ⟨t196, A400, H⟩ := H
                                replace H : (if t196 = true then (if (x0_.extract 0 ((ji31) : Int).toNat).size + 1 ≤ 9223372036854775807 then (if ((x0_.extract 0 ((ji31) : Int).toNat) ++ (⟨#[42]⟩ : ByteArray)).size + (x0_.extract ((ji31) : Int).toNat x0_.size).size ≤ 9223372036854775807 then ((glob_Match.f (((x0_.extract 0 ((ji31) : Int).toNat) ++ (⟨#[42]⟩ : ByteArray)) ++ (x0_.extract ((ji31) : Int).toNat x0_.size)) x0_).bind fun t197 => (some t197)) else (none)) else (none)) else (some false)) = some true := H
                                have A40 := Aside0.mk A400
                                clear A400
                                by_cases c41 : t196 = true
                                · subst c41
                                  have H1 : (if (x0_.extract 0 ((ji31) : Int).toNat).size + 1 ≤ 9223372036854775807 then (if ((x0_.extract 0 ((ji31) : Int).toNat) ++ (⟨#[42]⟩ : ByteArray)).size + (x0_.extract ((ji31) : Int).toNat x0_.size).size ≤ 9223372036854775807 then ((glob_Match.f (((x0_.extract 0 ((ji31) : Int).toNat) ++ (⟨#[42]⟩ : ByteArray)) ++ (x0_.extract ((ji31) : Int).toNat x0_.size)) x0_).bind fun t197 => (some t197)) else (none)) else (none)) = some true := by rw [if_pos rfl] at H; exact H
                                  clear H
                                  have H := H1
                                  clear H1
                                  have c42b0 := eq_true (of_decide_eq_true (by first | (with_reducible assumption) | assumption) : 0 ≤ (ji31))
                                  have c43b0 := eq_true (of_decide_eq_true (by first | (with_reducible assumption) | assumption) : (ji31) ≤ (x0_.size : Int))
                                  by_cases c44 : (x0_.extract 0 ((ji31) : Int).toNat).size + 1 ≤ 9223372036854775807
                                  · rw [if_pos c44] at H
                                    have c44b0 := eq_true c44
                                    have c44b1 : decide ((x0_.extract 0 ((ji31) : Int).toNat).size + 1 ≤ 9223372036854775807) = true := decide_eq_true c44
                                    try have c44b2 : (9223372036854775807 < (x0_.extract 0 ((ji31) : Int).toNat).size + 1) = False := eq_false (Nat.not_lt.2 c44)
                                    have c44x : (9223372036854775807 < ji31.toNat + 1) = False := eq_false (by have h_ := c44; simp only [ByteArray.size_extract, ByteArray.size_append] at h_; have hJ_ := of_eq_true c33b0; have e1_ : (⟨#[42]⟩ : ByteArray).size = 1 := rfl; omega)
                                    have c45b0 := eq_true (of_decide_eq_true (by first | (with_reducible assumption) | assumption) : 0 ≤ (ji31))
                                    have c46b0 := eq_true (of_decide_eq_true (by first | (with_reducible assumption) | assumption) : (ji31) ≤ (x0_.size : Int))
                                    by_cases c47 : ((x0_.extract 0 ((ji31) : Int).toNat) ++ (⟨#[42]⟩ : ByteArray)).size + (x0_.extract ((ji31) : Int).toNat x0_.size).size ≤ 9223372036854775807
                                    · rw [if_pos c47] at H
                                      have c47b0 := eq_true c47
                                      have c47b1 : decide (((x0_.extract 0 ((ji31) : Int).toNat) ++ (⟨#[42]⟩ : ByteArray)).size + (x0_.extract ((ji31) : Int).toNat x0_.size).size ≤ 9223372036854775807) = true := decide_eq_true c47
                                      try have c47b2 : (9223372036854775807 < ((x0_.extract 0 ((ji31) : Int).toNat) ++ (⟨#[42]⟩ : ByteArray)).size + (x0_.extract ((ji31) : Int).toNat x0_.size).size) = False := eq_false (Nat.not_lt.2 c47)
                                      have c47x : (9223372036854775807 < ji31.toNat + 1 + (x0_.size - ji31.toNat)) = False := eq_false (by have h_ := c47; simp only [ByteArray.size_extract, ByteArray.size_append] at h_; have hJ_ := of_eq_true c33b0; have e1_ : (⟨#[42]⟩ : ByteArray).size = 1 := rfl; omega)
                                      replace H := Option.bind_eq_some_iff.mp H
                                      obtain ⟨t197, A480, H⟩ := H
                                      replace H : (some t197) = some true := H
                                      have A48 := Aside0.mk A480
                                      clear A480
                                      obtain rfl : t197 = true := Option.some.inj H
                                      try go_wp2_with (first | ((with_reducible refine gate_callee (f := 16) rfl ?_); refine goesL_ (some 37) rfl rfl Tryd.func16 (by kernel_rfl) rfl #[.string (⟨#[63]⟩ : ByteArray), .int .i64 (x0_.size : Int)] rfl (by (try simp only [List.map_toArray, List.map_cons, List.map_nil]); first | done | (simp only [hji3]; rfl) | rfl | (simp only [List.length_drop, List.length_take]; rfl)) ?_; (with_reducible refine (strings_Repeat.calls (⟨#[63]⟩ : ByteArray) (x0_.size : Int) t192 _ A20.out).mono ?_); rintro e w49 ⟨rfl, hb⟩; refine ⟨_, rfl, ?_⟩; have n0_ := Aside0.mk (below_step (by repeat (first | (with_reducible first | exact HB.out | apply below_alloc | apply pw_below_drewN | apply below_drew1) | exact HB.out)) hb); clear HB; have HB := n0_; clear n0_; (try clear hb); (try clear hb2); (try clear hk); (try clear hi)))
                                      have n0_ := Aside0.mk (below_drew1 HB.out)
                                      clear HB
                                      have HB := n0_
                                      clear n0_
                                      refine start_ (n := 50) (S := fun w' => True) (ds := []) #[false, false, false, false, false, false, false, false, false, false, false, false, false, false, false, false, false, false, false, false, false, false, false, false, false, false, false, false, false, false, false, false, false, false, false, false, false, false, false, false, false, false, false, false, false, false, false, false, false, false] (by kernel_rfl) rfl rfl trivial (fun hHeld => ?_); refine with_tabW imprimaturlaw13_GlobMarks.tab7 imprimaturlaw13_GlobMarks.bits7 (fun HT_ HW_ => ?_)
                                      generalize w49.drew = w50 at HB hHeld ⊢
                                      refine pure_ (i := 0) (N := some 38) (v := ?_) (a' := ?_) #[true, false, false, false, false, false, false, false, false, false, false, false, false, false, false, false, false, false, false, false, false, false, false, false, false, false, false, false, false, false, false, false, false, false, false, false, false, false, false, false, false, false, false, false, false, false, false, false, false, false] rfl rfl (any_of HT_.out (by kernel_rfl)) (fun _ _ _ h => h) (Or.inl ⟨by rfl, ?_⟩) ?_ ?_
                                      rotate_left
                                      · intro w'
                                        go_simp
                                        with_reducible rfl
                                      rotate_left
                                      · simp only [Act.put, List.setIfInBounds_toArray, List.set_cons_zero, List.set_cons_succ, i64_w, i32_w]
                                        rfl
                                      refine pure_ (i := 1) (N := some 39) (v := ?_) (a' := ?_) #[true, true, false, false, false, false, false, false, false, false, false, false, false, false, false, false, false, false, false, false, false, false, false, false, false, false, false, false, false, false, false, false, false, false, false, false, false, false, false, false, false, false, false, false, false, false, false, false, false, false] rfl rfl (any_of HT_.out (by kernel_rfl)) (fun _ _ _ h => h) (Or.inl ⟨by rfl, ?_⟩) ?_ ?_
                                      rotate_left
                                      · intro w'
                                        go_simp
                                        with_reducible rfl
                                      rotate_left
                                      · simp only [Act.put, List.setIfInBounds_toArray, List.set_cons_zero, List.set_cons_succ, i64_w, i32_w]
                                        rfl
                                      refine one_ (i := 2) (N := some 40) #[true, true, true, false, false, false, false, false, false, false, false, false, false, false, false, false, false, false, false, false, false, false, false, false, false, false, false, false, false, false, false, false, false, false, false, false, false, false, false, false, false, false, false, false, false, false, false, false, false, false] rfl rfl (one_of HT_.out (by kernel_rfl)) (by decide) (fun K hK => ?_)
                                      refine goes_ Tryd.func13 (by kernel_rfl) rfl #[.string t192, .string x0_] (by rfl) rfl rfl (by (try simp only [List.map_toArray, List.map_cons, List.map_nil]); first | done | (simp only [hji3]; rfl) | rfl | (simp only [List.length_drop, List.length_take]; rfl)) ?_
                                      with_reducible refine (glob_Match.calls t192 x0_ true _ A21.out).mono ?_
                                      rintro e w51 ⟨rfl, hb⟩
                                      refine ⟨_, rfl, ?_⟩
                                      have n0_ := Aside0.mk (below_step (by repeat (first | (with_reducible first | exact HB.out | apply below_alloc | apply pw_below_drewN | apply below_drew1) | exact HB.out)) hb)
                                      clear HB
                                      have HB := n0_
                                      clear n0_
                                      (try clear hb)
                                      (try clear hb2)
                                      (try clear hk)
                                      (try clear hi)
                                      refine hK.out _ _ trivial (fun hHeld => ?_)
                                      clear hK K
                                      refine norm_ (a' := ?_) ?_ ?_
                                      rotate_left
                                      · show Act.put _ (some 40) _ = _
                                        simp only [Act.put, List.setIfInBounds_toArray, List.set_cons_zero, List.set_cons_succ, i64_w, i32_w]
                                        rfl
                                      refine pure_ (i := 3) (N := some 41) (v := ?_) (a' := ?_) #[true, true, true, true, false, false, false, false, false, false, false, false, false, false, false, false, false, false, false, false, false, false, false, false, false, false, false, false, false, false, false, false, false, false, false, false, false, false, false, false, false, false, false, false, false, false, false, false, false, false] rfl rfl (any_of HT_.out (by kernel_rfl)) (fun _ _ _ h => h) (Or.inl ⟨by rfl, ?_⟩) ?_ ?_
                                      rotate_left
                                      · intro w'
                                        go_simp
                                        with_reducible rfl
                                      rotate_left
                                      · simp only [Act.put, List.setIfInBounds_toArray, List.set_cons_zero, List.set_cons_succ, i64_w, i32_w]
                                        rfl
                                      refine pure_ (i := 4) (N := some 42) (v := ?_) (a' := ?_) #[true, true, true, true, true, false, false, false, false, false, false, false, false, false, false, false, false, false, false, false, false, false, false, false, false, false, false, false, false, false, false, false, false, false, false, false, false, false, false, false, false, false, false, false, false, false, false, false, false, false] rfl rfl (any_of HT_.out (by kernel_rfl)) (fun _ _ _ h => h) (Or.inl ⟨by rfl, ?_⟩) ?_ ?_
                                      rotate_left
                                      · intro w'
                                        go_simp
                                        with_reducible rfl
                                      rotate_left
                                      · simp only [Act.put, List.setIfInBounds_toArray, List.set_cons_zero, List.set_cons_succ, i64_w, i32_w]
                                        rfl
                                      refine pure_ (i := 5) (N := some 43) (v := ?_) (a' := ?_) #[true, true, true, true, true, true, false, false, false, false, false, false, false, false, false, false, false, false, false, false, false, false, false, false, false, false, false, false, false, false, false, false, false, false, false, false, false, false, false, false, false, false, false, false, false, false, false, false, false, false] rfl rfl (any_of HT_.out (by kernel_rfl)) (fun _ _ _ h => h) (Or.inl ⟨by rfl, ?_⟩) ?_ ?_
                                      rotate_left
                                      · intro w'
                                        go_simp
                                        with_reducible rfl
                                      rotate_left
                                      · simp only [Act.put, List.setIfInBounds_toArray, List.set_cons_zero, List.set_cons_succ, i64_w, i32_w]
                                        rfl
                                      refine pure_ (i := 6) (N := some 44) (v := ?_) (a' := ?_) #[true, true, true, true, true, true, true, false, false, false, false, false, false, false, false, false, false, false, false, false, false, false, false, false, false, false, false, false, false, false, false, false, false, false, false, false, false, false, false, false, false, false, false, false, false, false, false, false, false, false] rfl rfl (any_of HT_.out (by kernel_rfl)) (fun _ _ _ h => h) (Or.inl ⟨by rfl, ?_⟩) ?_ ?_
                                      rotate_left
                                      · intro w'
                                        go_simp
                                        with_reducible rfl
                                      rotate_left
                                      · simp only [Act.put, List.setIfInBounds_toArray, List.set_cons_zero, List.set_cons_succ, i64_w, i32_w]
                                        rfl
                                      refine one_ (i := 7) (N := some 45) #[true, true, true, true, true, true, true, true, false, false, false, false, false, false, false, false, false, false, false, false, false, false, false, false, false, false, false, false, false, false, false, false, false, false, false, false, false, false, false, false, false, false, false, false, false, false, false, false, false, false] rfl rfl (one_of HT_.out (by kernel_rfl)) (by decide) (fun K hK => ?_)
                                      refine goes_ Tryd.func13 (by kernel_rfl) rfl #[.string (t192 ++ (⟨#[63]⟩ : ByteArray)), .string x0_] (by rfl) rfl rfl (by (try simp only [List.map_toArray, List.map_cons, List.map_nil]); first | done | (simp only [hji3]; rfl) | rfl | (simp only [List.length_drop, List.length_take]; rfl)) ?_
                                      with_reducible refine (glob_Match.calls (t192 ++ (⟨#[63]⟩ : ByteArray)) x0_ false _ A24.out).mono ?_
                                      rintro e w52 ⟨rfl, hb⟩
                                      refine ⟨_, rfl, ?_⟩
                                      have n0_ := Aside0.mk (below_step (by repeat (first | (with_reducible first | exact HB.out | apply below_alloc | apply pw_below_drewN | apply below_drew1) | exact HB.out)) hb)
                                      clear HB
                                      have HB := n0_
                                      clear n0_
                                      (try clear hb)
                                      (try clear hb2)
                                      (try clear hk)
                                      (try clear hi)
                                      refine hK.out _ _ trivial (fun hHeld => ?_)
                                      clear hK K
                                      refine norm_ (a' := ?_) ?_ ?_
                                      rotate_left
                                      · show Act.put _ (some 45) _ = _
                                        simp only [Act.put, List.setIfInBounds_toArray, List.set_cons_zero, List.set_cons_succ, i64_w, i32_w]
                                        rfl
                                      refine pure_ (i := 8) (N := some 46) (v := ?_) (a' := ?_) #[true, true, true, true, true, true, true, true, true, false, false, false, false, false, false, false, false, false, false, false, false, false, false, false, false, false, false, false, false, false, false, false, false, false, false, false, false, false, false, false, false, false, false, false, false, false, false, false, false, false] rfl rfl (any_of HT_.out (by kernel_rfl)) (fun _ _ _ h => h) (Or.inl ⟨by rfl, ?_⟩) ?_ ?_
                                      rotate_left
                                      · intro w'
                                        go_simp
                                        with_reducible rfl
                                      rotate_left
                                      · simp only [Act.put, List.setIfInBounds_toArray, List.set_cons_zero, List.set_cons_succ, i64_w, i32_w]
                                        rfl
                                      refine pure_ (i := 9) (N := some 47) (v := ?_) (a' := ?_) #[true, true, true, true, true, true, true, true, true, true, false, false, false, false, false, false, false, false, false, false, false, false, false, false, false, false, false, false, false, false, false, false, false, false, false, false, false, false, false, false, false, false, false, false, false, false, false, false, false, false] rfl rfl (any_of HT_.out (by kernel_rfl)) (fun _ _ _ h => h) (Or.inl ⟨by rfl, ?_⟩) ?_ ?_
                                      rotate_left
                                      · intro w'
                                        go_simp
                                        with_reducible rfl
                                      rotate_left
                                      · simp only [Act.put, List.setIfInBounds_toArray, List.set_cons_zero, List.set_cons_succ, i64_w, i32_w]
                                        rfl
                                      refine pure_ (i := 10) (N := some 48) (v := ?_) (a' := ?_) #[true, true, true, true, true, true, true, true, true, true, true, false, false, false, false, false, false, false, false, false, false, false, false, false, false, false, false, false, false, false, false, false, false, false, false, false, false, false, false, false, false, false, false, false, false, false, false, false, false, false] rfl rfl (any_of HT_.out (by kernel_rfl)) (fun _ _ _ h => h) (Or.inl ⟨by rfl, ?_⟩) ?_ ?_
                                      rotate_left
                                      · intro w'
                                        go_simp
                                        with_reducible rfl
                                      rotate_left
                                      · simp only [Act.put, List.setIfInBounds_toArray, List.set_cons_zero, List.set_cons_succ, i64_w, i32_w]
                                        rfl
                                      refine pure_ (i := 11) (N := some 49) (v := ?_) (a' := ?_) #[true, true, true, true, true, true, true, true, true, true, true, true, false, false, false, false, false, false, false, false, false, false, false, false, false, false, false, false, false, false, false, false, false, false, false, false, false, false, false, false, false, false, false, false, false, false, false, false, false, false] rfl rfl (any_of HT_.out (by kernel_rfl)) (fun _ _ _ h => h) (Or.inl ⟨by rfl, ?_⟩) ?_ ?_
                                      rotate_left
                                      · intro w'
                                        go_simp
                                        with_reducible rfl
                                      rotate_left
                                      · simp only [Act.put, List.setIfInBounds_toArray, List.set_cons_zero, List.set_cons_succ, i64_w, i32_w]
                                        rfl
                                      refine pure_ (i := 12) (N := some 50) (v := ?_) (a' := ?_) #[true, true, true, true, true, true, true, true, true, true, true, true, true, false, false, false, false, false, false, false, false, false, false, false, false, false, false, false, false, false, false, false, false, false, false, false, false, false, false, false, false, false, false, false, false, false, false, false, false, false] rfl rfl (any_of HT_.out (by kernel_rfl)) (fun _ _ _ h => h) (Or.inl ⟨by rfl, ?_⟩) ?_ ?_
                                      rotate_left
                                      · intro w'
                                        go_simp
                                        with_reducible rfl
                                      rotate_left
                                      · simp only [Act.put, List.setIfInBounds_toArray, List.set_cons_zero, List.set_cons_succ, i64_w, i32_w]
                                        rfl
                                      refine pure_ (i := 13) (N := some 51) (v := ?_) (a' := ?_) #[true, true, true, true, true, true, true, true, true, true, true, true, true, true, false, false, false, false, false, false, false, false, false, false, false, false, false, false, false, false, false, false, false, false, false, false, false, false, false, false, false, false, false, false, false, false, false, false, false, false] rfl rfl (any_of HT_.out (by kernel_rfl)) (fun _ _ _ h => h) (Or.inl ⟨by rfl, ?_⟩) ?_ ?_
                                      rotate_left
                                      · intro w'
                                        go_simp
                                        with_reducible rfl
                                      rotate_left
                                      · simp only [Act.put, List.setIfInBounds_toArray, List.set_cons_zero, List.set_cons_succ, i64_w, i32_w]
                                        rfl
                                      refine pure_ (i := 14) (N := some 52) (v := undef) (a' := ?_) #[true, true, true, true, true, true, true, true, true, true, true, true, true, true, true, false, false, false, false, false, false, false, false, false, false, false, false, false, false, false, false, false, false, false, false, false, false, false, false, false, false, false, false, false, false, false, false, false, false, false] rfl rfl (any_of HT_.out (by kernel_rfl)) (fun _ _ _ h => h) (Or.inr ⟨by rfl, rfl⟩) ?_ ?_
                                      rotate_left
                                      · simp only [Act.put, List.setIfInBounds_toArray, List.set_cons_zero, List.set_cons_succ, i64_w, i32_w]
                                        rfl
                                      refine pure_ (i := 15) (N := some 53) (v := undef) (a' := ?_) #[true, true, true, true, true, true, true, true, true, true, true, true, true, true, true, true, false, false, false, false, false, false, false, false, false, false, false, false, false, false, false, false, false, false, false, false, false, false, false, false, false, false, false, false, false, false, false, false, false, false] rfl rfl (any_of HT_.out (by kernel_rfl)) (fun _ _ _ h => h) (Or.inr ⟨by rfl, rfl⟩) ?_ ?_
                                      rotate_left
                                      · simp only [Act.put, List.setIfInBounds_toArray, List.set_cons_zero, List.set_cons_succ, i64_w, i32_w]
                                        rfl
                                      refine pure_ (i := 16) (N := some 54) (v := undef) (a' := ?_) #[true, true, true, true, true, true, true, true, true, true, true, true, true, true, true, true, true, false, false, false, false, false, false, false, false, false, false, false, false, false, false, false, false, false, false, false, false, false, false, false, false, false, false, false, false, false, false, false, false, false] rfl rfl (any_of HT_.out (by kernel_rfl)) (fun _ _ _ h => h) (Or.inr ⟨by rfl, rfl⟩) ?_ ?_
                                      rotate_left
                                      · simp only [Act.put, List.setIfInBounds_toArray, List.set_cons_zero, List.set_cons_succ, i64_w, i32_w]
                                        rfl
                                      refine pure_ (i := 17) (N := some 55) (v := undef) (a' := ?_) #[true, true, true, true, true, true, true, true, true, true, true, true, true, true, true, true, true, true, false, false, false, false, false, false, false, false, false, false, false, false, false, false, false, false, false, false, false, false, false, false, false, false, false, false, false, false, false, false, false, false] rfl rfl (any_of HT_.out (by kernel_rfl)) (fun _ _ _ h => h) (Or.inr ⟨by rfl, rfl⟩) ?_ ?_
                                      rotate_left
                                      · simp only [Act.put, List.setIfInBounds_toArray, List.set_cons_zero, List.set_cons_succ, i64_w, i32_w]
                                        rfl
                                      refine pure_ (i := 18) (N := some 56) (v := undef) (a' := ?_) #[true, true, true, true, true, true, true, true, true, true, true, true, true, true, true, true, true, true, true, false, false, false, false, false, false, false, false, false, false, false, false, false, false, false, false, false, false, false, false, false, false, false, false, false, false, false, false, false, false, false] rfl rfl (any_of HT_.out (by kernel_rfl)) (fun _ _ _ h => h) (Or.inr ⟨by rfl, rfl⟩) ?_ ?_
                                      rotate_left
                                      · simp only [Act.put, List.setIfInBounds_toArray, List.set_cons_zero, List.set_cons_succ, i64_w, i32_w]
                                        rfl
                                      refine pure_ (i := 19) (N := some 57) (v := ?_) (a' := ?_) #[true, true, true, true, true, true, true, true, true, true, true, true, true, true, true, true, true, true, true, true, false, false, false, false, false, false, false, false, false, false, false, false, false, false, false, false, false, false, false, false, false, false, false, false, false, false, false, false, false, false] rfl rfl (any_of HT_.out (by kernel_rfl)) (fun _ _ _ h => h) (Or.inl ⟨by rfl, ?_⟩) ?_ ?_
                                      rotate_left
                                      · intro w'
                                        go_simp
                                        with_reducible rfl
                                      rotate_left
                                      · simp only [Act.put, List.setIfInBounds_toArray, List.set_cons_zero, List.set_cons_succ, i64_w, i32_w]
                                        rfl
                                      refine pure_ (i := 20) (N := some 58) (v := ?_) (a' := ?_) #[true, true, true, true, true, true, true, true, true, true, true, true, true, true, true, true, true, true, true, true, true, false, false, false, false, false, false, false, false, false, false, false, false, false, false, false, false, false, false, false, false, false, false, false, false, false, false, false, false, false] rfl rfl (any_of HT_.out (by kernel_rfl)) (fun _ _ _ h => h) (Or.inl ⟨by rfl, ?_⟩) ?_ ?_
                                      rotate_left
                                      · intro w'
                                        go_simp
                                        with_reducible rfl
                                      rotate_left
                                      · simp only [Act.put, List.setIfInBounds_toArray, List.set_cons_zero, List.set_cons_succ, i64_w, i32_w]
                                        rfl
                                      refine pure_ (i := 21) (N := some 59) (v := ?_) (a' := ?_) #[true, true, true, true, true, true, true, true, true, true, true, true, true, true, true, true, true, true, true, true, true, true, false, false, false, false, false, false, false, false, false, false, false, false, false, false, false, false, false, false, false, false, false, false, false, false, false, false, false, false] rfl rfl (any_of HT_.out (by kernel_rfl)) (fun _ _ _ h => h) (Or.inl ⟨by rfl, ?_⟩) ?_ ?_
                                      rotate_left
                                      · intro w'
                                        go_simp
                                        with_reducible rfl
                                      rotate_left
                                      · simp only [Act.put, List.setIfInBounds_toArray, List.set_cons_zero, List.set_cons_succ, i64_w, i32_w]
                                        rfl
                                      refine pure_ (i := 22) (N := some 60) (v := ?_) (a' := ?_) #[true, true, true, true, true, true, true, true, true, true, true, true, true, true, true, true, true, true, true, true, true, true, true, false, false, false, false, false, false, false, false, false, false, false, false, false, false, false, false, false, false, false, false, false, false, false, false, false, false, false] rfl rfl (any_of HT_.out (by kernel_rfl)) (fun _ _ _ h => h) (Or.inl ⟨by rfl, ?_⟩) ?_ ?_
                                      rotate_left
                                      · intro w'
                                        go_simp
                                        with_reducible rfl
                                      rotate_left
                                      · simp only [Act.put, List.setIfInBounds_toArray, List.set_cons_zero, List.set_cons_succ, i64_w, i32_w]
                                        rfl
                                      refine pure_ (i := 23) (N := some 61) (v := ?_) (a' := ?_) #[true, true, true, true, true, true, true, true, true, true, true, true, true, true, true, true, true, true, true, true, true, true, true, true, false, false, false, false, false, false, false, false, false, false, false, false, false, false, false, false, false, false, false, false, false, false, false, false, false, false] rfl rfl (any_of HT_.out (by kernel_rfl)) (fun _ _ _ h => h) (Or.inl ⟨by rfl, ?_⟩) ?_ ?_
                                      rotate_left
                                      · intro w'
                                        go_simp
                                        with_reducible rfl
                                      rotate_left
                                      · simp only [Act.put, List.setIfInBounds_toArray, List.set_cons_zero, List.set_cons_succ, i64_w, i32_w]
                                        rfl
                                      refine pure_ (i := 24) (N := some 62) (v := ?_) (a' := ?_) #[true, true, true, true, true, true, true, true, true, true, true, true, true, true, true, true, true, true, true, true, true, true, true, true, true, false, false, false, false, false, false, false, false, false, false, false, false, false, false, false, false, false, false, false, false, false, false, false, false, false] rfl rfl (any_of HT_.out (by kernel_rfl)) (fun _ _ _ h => h) (Or.inl ⟨by rfl, ?_⟩) ?_ ?_
                                      rotate_left
                                      · intro w'
                                        go_simp
                                        with_reducible rfl
                                      rotate_left
                                      · simp only [Act.put, List.setIfInBounds_toArray, List.set_cons_zero, List.set_cons_succ, i64_w, i32_w]
                                        rfl
                                      refine pure_ (i := 25) (N := some 63) (v := ?_) (a' := ?_) #[true, true, true, true, true, true, true, true, true, true, true, true, true, true, true, true, true, true, true, true, true, true, true, true, true, true, false, false, false, false, false, false, false, false, false, false, false, false, false, false, false, false, false, false, false, false, false, false, false, false] rfl rfl (any_of HT_.out (by kernel_rfl)) (fun _ _ _ h => h) (Or.inl ⟨by rfl, ?_⟩) ?_ ?_
                                      rotate_left
                                      · intro w'
                                        go_simp
                                        with_reducible rfl
                                      rotate_left
                                      · simp only [Act.put, List.setIfInBounds_toArray, List.set_cons_zero, List.set_cons_succ, i64_w, i32_w]
                                        rfl
                                      refine pure_ (i := 26) (N := some 64) (v := ?_) (a' := ?_) #[true, true, true, true, true, true, true, true, true, true, true, true, true, true, true, true, true, true, true, true, true, true, true, true, true, true, true, false, false, false, false, false, false, false, false, false, false, false, false, false, false, false, false, false, false, false, false, false, false, false] rfl rfl (any_of HT_.out (by kernel_rfl)) (fun _ _ _ h => h) (Or.inl ⟨by rfl, ?_⟩) ?_ ?_
                                      rotate_left
                                      · intro w'
                                        go_simp
                                        with_reducible rfl
                                      rotate_left
                                      · simp only [Act.put, List.setIfInBounds_toArray, List.set_cons_zero, List.set_cons_succ, i64_w, i32_w]
                                        rfl
                                      refine one_ (i := 27) (N := some 65) #[true, true, true, true, true, true, true, true, true, true, true, true, true, true, true, true, true, true, true, true, true, true, true, true, true, true, true, true, false, false, false, false, false, false, false, false, false, false, false, false, false, false, false, false, false, false, false, false, false, false] rfl rfl (one_of HT_.out (by kernel_rfl)) (by decide) (fun K hK => ?_)
                                      refine goes_ Tryd.func13 (by kernel_rfl) rfl #[.string ((x0_.extract 0 ((ji31) : Int).toNat) ++ (⟨#[42, 42, 42]⟩ : ByteArray)), .string x0_] (by rfl) rfl rfl (by (try simp only [List.map_toArray, List.map_cons, List.map_nil]); first | done | (simp only [hji3, hji31]; rfl) | rfl | (simp only [List.length_drop, List.length_take]; rfl)) ?_
                                      with_reducible refine (glob_Match.calls ((x0_.extract 0 ((ji31) : Int).toNat) ++ (⟨#[42, 42, 42]⟩ : ByteArray)) x0_ true _ A35.out).mono ?_
                                      rintro e w53 ⟨rfl, hb⟩
                                      refine ⟨_, rfl, ?_⟩
                                      have n0_ := Aside0.mk (below_step (by repeat (first | (with_reducible first | exact HB.out | apply below_alloc | apply pw_below_drewN | apply below_drew1) | exact HB.out)) hb)
                                      clear HB
                                      have HB := n0_
                                      clear n0_
                                      (try clear hb)
                                      (try clear hb2)
                                      (try clear hk)
                                      (try clear hi)
                                      refine hK.out _ _ trivial (fun hHeld => ?_)
                                      clear hK K
                                      refine norm_ (a' := ?_) ?_ ?_
                                      rotate_left
                                      · show Act.put _ (some 65) _ = _
                                        simp only [Act.put, List.setIfInBounds_toArray, List.set_cons_zero, List.set_cons_succ, i64_w, i32_w]
                                        rfl
                                      refine pure_ (i := 28) (N := some 66) (v := ?_) (a' := ?_) #[true, true, true, true, true, true, true, true, true, true, true, true, true, true, true, true, true, true, true, true, true, true, true, true, true, true, true, true, true, false, false, false, false, false, false, false, false, false, false, false, false, false, false, false, false, false, false, false, false, false] rfl rfl (any_of HT_.out (by kernel_rfl)) (fun _ _ _ h => h) (Or.inl ⟨by rfl, ?_⟩) ?_ ?_
                                      rotate_left
                                      · intro w'
                                        go_simp
                                        with_reducible rfl
                                      rotate_left
                                      · simp only [Act.put, List.setIfInBounds_toArray, List.set_cons_zero, List.set_cons_succ, i64_w, i32_w]
                                        rfl
                                      refine pure_ (i := 29) (N := some 67) (v := ?_) (a' := ?_) #[true, true, true, true, true, true, true, true, true, true, true, true, true, true, true, true, true, true, true, true, true, true, true, true, true, true, true, true, true, true, false, false, false, false, false, false, false, false, false, false, false, false, false, false, false, false, false, false, false, false] rfl rfl (any_of HT_.out (by kernel_rfl)) (fun _ _ _ h => h) (Or.inl ⟨by rfl, ?_⟩) ?_ ?_
                                      rotate_left
                                      · intro w'
                                        go_simp
                                        with_reducible rfl
                                      rotate_left
                                      · simp only [Act.put, List.setIfInBounds_toArray, List.set_cons_zero, List.set_cons_succ, i64_w, i32_w]
                                        rfl
                                      refine pure_ (i := 30) (N := some 68) (v := ?_) (a' := ?_) #[true, true, true, true, true, true, true, true, true, true, true, true, true, true, true, true, true, true, true, true, true, true, true, true, true, true, true, true, true, true, true, false, false, false, false, false, false, false, false, false, false, false, false, false, false, false, false, false, false, false] rfl rfl (any_of HT_.out (by kernel_rfl)) (fun _ _ _ h => h) (Or.inl ⟨by rfl, ?_⟩) ?_ ?_
                                      rotate_left
                                      · intro w'
                                        go_simp
                                        with_reducible rfl
                                      rotate_left
                                      · simp only [Act.put, List.setIfInBounds_toArray, List.set_cons_zero, List.set_cons_succ, i64_w, i32_w]
                                        rfl
                                      refine pure_ (i := 31) (N := some 69) (v := ?_) (a' := ?_) #[true, true, true, true, true, true, true, true, true, true, true, true, true, true, true, true, true, true, true, true, true, true, true, true, true, true, true, true, true, true, true, true, false, false, false, false, false, false, false, false, false, false, false, false, false, false, false, false, false, false] rfl rfl (any_of HT_.out (by kernel_rfl)) (fun _ _ _ h => h) (Or.inl ⟨by rfl, ?_⟩) ?_ ?_
                                      rotate_left
                                      · intro w'
                                        go_simp
                                        with_reducible rfl
                                      rotate_left
                                      · simp only [Act.put, List.setIfInBounds_toArray, List.set_cons_zero, List.set_cons_succ, i64_w, i32_w]
                                        rfl
                                      refine pure_ (i := 32) (N := some 70) (v := ?_) (a' := ?_) #[true, true, true, true, true, true, true, true, true, true, true, true, true, true, true, true, true, true, true, true, true, true, true, true, true, true, true, true, true, true, true, true, true, false, false, false, false, false, false, false, false, false, false, false, false, false, false, false, false, false] rfl rfl (any_of HT_.out (by kernel_rfl)) (fun _ _ _ h => h) (Or.inl ⟨by rfl, ?_⟩) ?_ ?_
                                      rotate_left
                                      · intro w'
                                        go_simp
                                        with_reducible rfl
                                      rotate_left
                                      · simp only [Act.put, List.setIfInBounds_toArray, List.set_cons_zero, List.set_cons_succ, i64_w, i32_w]
                                        rfl
                                      refine pure_ (i := 33) (N := some 71) (v := ?_) (a' := ?_) #[true, true, true, true, true, true, true, true, true, true, true, true, true, true, true, true, true, true, true, true, true, true, true, true, true, true, true, true, true, true, true, true, true, true, false, false, false, false, false, false, false, false, false, false, false, false, false, false, false, false] rfl rfl (any_of HT_.out (by kernel_rfl)) (fun _ _ _ h => h) (Or.inl ⟨by rfl, ?_⟩) ?_ ?_
                                      rotate_left
                                      · intro w'
                                        go_simp
                                        with_reducible rfl
                                      rotate_left
                                      · simp only [Act.put, List.setIfInBounds_toArray, List.set_cons_zero, List.set_cons_succ, i64_w, i32_w]
                                        rfl
                                      refine pure_ (i := 34) (N := some 72) (v := ?_) (a' := ?_) #[true, true, true, true, true, true, true, true, true, true, true, true, true, true, true, true, true, true, true, true, true, true, true, true, true, true, true, true, true, true, true, true, true, true, true, false, false, false, false, false, false, false, false, false, false, false, false, false, false, false] rfl rfl (any_of HT_.out (by kernel_rfl)) (fun _ _ _ h => h) (Or.inl ⟨by rfl, ?_⟩) ?_ ?_
                                      rotate_left
                                      · intro w'
                                        go_simp
                                        with_reducible rfl
                                      rotate_left
                                      · simp only [Act.put, List.setIfInBounds_toArray, List.set_cons_zero, List.set_cons_succ, i64_w, i32_w]
                                        rfl
                                      refine one_ (i := 35) (N := some 73) #[true, true, true, true, true, true, true, true, true, true, true, true, true, true, true, true, true, true, true, true, true, true, true, true, true, true, true, true, true, true, true, true, true, true, true, true, false, false, false, false, false, false, false, false, false, false, false, false, false, false] rfl rfl (one_of HT_.out (by kernel_rfl)) (by decide) (fun K hK => ?_)
                                      refine goes_ Tryd.func13 (by kernel_rfl) rfl #[.string ((⟨#[42, 42]⟩ : ByteArray) ++ (x0_.extract ((ji31) : Int).toNat x0_.size)), .string x0_] (by rfl) rfl rfl (by (try simp only [List.map_toArray, List.map_cons, List.map_nil]); first | done | (simp only [hji3, hji31]; rfl) | rfl | (simp only [List.length_drop, List.length_take]; rfl)) ?_
                                      with_reducible refine (glob_Match.calls ((⟨#[42, 42]⟩ : ByteArray) ++ (x0_.extract ((ji31) : Int).toNat x0_.size)) x0_ true _ A40.out).mono ?_
                                      rintro e w54 ⟨rfl, hb⟩
                                      refine ⟨_, rfl, ?_⟩
                                      have n0_ := Aside0.mk (below_step (by repeat (first | (with_reducible first | exact HB.out | apply below_alloc | apply pw_below_drewN | apply below_drew1) | exact HB.out)) hb)
                                      clear HB
                                      have HB := n0_
                                      clear n0_
                                      (try clear hb)
                                      (try clear hb2)
                                      (try clear hk)
                                      (try clear hi)
                                      refine hK.out _ _ trivial (fun hHeld => ?_)
                                      clear hK K
                                      refine norm_ (a' := ?_) ?_ ?_
                                      rotate_left
                                      · show Act.put _ (some 73) _ = _
                                        simp only [Act.put, List.setIfInBounds_toArray, List.set_cons_zero, List.set_cons_succ, i64_w, i32_w]
                                        rfl
                                      refine pure_ (i := 36) (N := some 74) (v := ?_) (a' := ?_) #[true, true, true, true, true, true, true, true, true, true, true, true, true, true, true, true, true, true, true, true, true, true, true, true, true, true, true, true, true, true, true, true, true, true, true, true, true, false, false, false, false, false, false, false, false, false, false, false, false, false] rfl rfl (any_of HT_.out (by kernel_rfl)) (fun _ _ _ h => h) (Or.inl ⟨by rfl, ?_⟩) ?_ ?_
                                      rotate_left
                                      · intro w'
                                        go_simp
                                        with_reducible rfl
                                      rotate_left
                                      · simp only [Act.put, List.setIfInBounds_toArray, List.set_cons_zero, List.set_cons_succ, i64_w, i32_w]
                                        rfl
                                      refine pure_ (i := 37) (N := some 75) (v := ?_) (a' := ?_) #[true, true, true, true, true, true, true, true, true, true, true, true, true, true, true, true, true, true, true, true, true, true, true, true, true, true, true, true, true, true, true, true, true, true, true, true, true, true, false, false, false, false, false, false, false, false, false, false, false, false] rfl rfl (any_of HT_.out (by kernel_rfl)) (fun _ _ _ h => h) (Or.inl ⟨by rfl, ?_⟩) ?_ ?_
                                      rotate_left
                                      · intro w'
                                        go_simp
                                        with_reducible rfl
                                      rotate_left
                                      · simp only [Act.put, List.setIfInBounds_toArray, List.set_cons_zero, List.set_cons_succ, i64_w, i32_w]
                                        rfl
                                      refine pure_ (i := 38) (N := some 76) (v := ?_) (a' := ?_) #[true, true, true, true, true, true, true, true, true, true, true, true, true, true, true, true, true, true, true, true, true, true, true, true, true, true, true, true, true, true, true, true, true, true, true, true, true, true, true, false, false, false, false, false, false, false, false, false, false, false] rfl rfl (any_of HT_.out (by kernel_rfl)) (fun _ _ _ h => h) (Or.inl ⟨by rfl, ?_⟩) ?_ ?_
                                      rotate_left
                                      · intro w'
                                        go_simp
                                        with_reducible rfl
                                      rotate_left
                                      · simp only [Act.put, List.setIfInBounds_toArray, List.set_cons_zero, List.set_cons_succ, i64_w, i32_w]
                                        rfl
                                      refine pure_ (i := 39) (N := some 77) (v := ?_) (a' := ?_) #[true, true, true, true, true, true, true, true, true, true, true, true, true, true, true, true, true, true, true, true, true, true, true, true, true, true, true, true, true, true, true, true, true, true, true, true, true, true, true, true, false, false, false, false, false, false, false, false, false, false] rfl rfl (any_of HT_.out (by kernel_rfl)) (fun _ _ _ h => h) (Or.inl ⟨by rfl, ?_⟩) ?_ ?_
                                      rotate_left
                                      · intro w'
                                        go_simp
                                        with_reducible rfl
                                      rotate_left
                                      · simp only [Act.put, List.setIfInBounds_toArray, List.set_cons_zero, List.set_cons_succ, i64_w, i32_w]
                                        rfl
                                      refine pure_ (i := 40) (N := some 78) (v := ?_) (a' := ?_) #[true, true, true, true, true, true, true, true, true, true, true, true, true, true, true, true, true, true, true, true, true, true, true, true, true, true, true, true, true, true, true, true, true, true, true, true, true, true, true, true, true, false, false, false, false, false, false, false, false, false] rfl rfl (any_of HT_.out (by kernel_rfl)) (fun _ _ _ h => h) (Or.inl ⟨by rfl, ?_⟩) ?_ ?_
                                      rotate_left
                                      · intro w'
                                        go_simp
                                        with_reducible rfl
                                      rotate_left
                                      · simp only [Act.put, List.setIfInBounds_toArray, List.set_cons_zero, List.set_cons_succ, i64_w, i32_w]
                                        rfl
                                      refine pure_ (i := 41) (N := some 79) (v := ?_) (a' := ?_) #[true, true, true, true, true, true, true, true, true, true, true, true, true, true, true, true, true, true, true, true, true, true, true, true, true, true, true, true, true, true, true, true, true, true, true, true, true, true, true, true, true, true, false, false, false, false, false, false, false, false] rfl rfl (any_of HT_.out (by kernel_rfl)) (fun _ _ _ h => h) (Or.inl ⟨by rfl, ?_⟩) ?_ ?_
                                      rotate_left
                                      · intro w'
                                        go_simp
                                        with_reducible rfl
                                      rotate_left
                                      · simp only [Act.put, List.setIfInBounds_toArray, List.set_cons_zero, List.set_cons_succ, i64_w, i32_w]
                                        rfl
                                      refine pure_ (i := 42) (N := some 80) (v := ?_) (a' := ?_) #[true, true, true, true, true, true, true, true, true, true, true, true, true, true, true, true, true, true, true, true, true, true, true, true, true, true, true, true, true, true, true, true, true, true, true, true, true, true, true, true, true, true, true, false, false, false, false, false, false, false] rfl rfl (any_of HT_.out (by kernel_rfl)) (fun _ _ _ h => h) (Or.inl ⟨by rfl, ?_⟩) ?_ ?_
                                      rotate_left
                                      · intro w'
                                        go_simp
                                        with_reducible rfl
                                      rotate_left
                                      · simp only [Act.put, List.setIfInBounds_toArray, List.set_cons_zero, List.set_cons_succ, i64_w, i32_w]
                                        rfl
                                      refine pure_ (i := 43) (N := some 81) (v := ?_) (a' := ?_) #[true, true, true, true, true, true, true, true, true, true, true, true, true, true, true, true, true, true, true, true, true, true, true, true, true, true, true, true, true, true, true, true, true, true, true, true, true, true, true, true, true, true, true, true, false, false, false, false, false, false] rfl rfl (any_of HT_.out (by kernel_rfl)) (fun _ _ _ h => h) (Or.inl ⟨by rfl, ?_⟩) ?_ ?_
                                      rotate_left
                                      · intro w'
                                        go_simp
                                        with_reducible rfl
                                      rotate_left
                                      · simp only [Act.put, List.setIfInBounds_toArray, List.set_cons_zero, List.set_cons_succ, i64_w, i32_w]
                                        rfl
                                      refine pure_ (i := 44) (N := some 82) (v := ?_) (a' := ?_) #[true, true, true, true, true, true, true, true, true, true, true, true, true, true, true, true, true, true, true, true, true, true, true, true, true, true, true, true, true, true, true, true, true, true, true, true, true, true, true, true, true, true, true, true, true, false, false, false, false, false] rfl rfl (any_of HT_.out (by kernel_rfl)) (fun _ _ _ h => h) (Or.inl ⟨by rfl, ?_⟩) ?_ ?_
                                      rotate_left
                                      · intro w'
                                        go_simp
                                        with_reducible rfl
                                      rotate_left
                                      · simp only [Act.put, List.setIfInBounds_toArray, List.set_cons_zero, List.set_cons_succ, i64_w, i32_w]
                                        rfl
                                      refine pure_ (i := 45) (N := some 83) (v := ?_) (a' := ?_) #[true, true, true, true, true, true, true, true, true, true, true, true, true, true, true, true, true, true, true, true, true, true, true, true, true, true, true, true, true, true, true, true, true, true, true, true, true, true, true, true, true, true, true, true, true, true, false, false, false, false] rfl rfl (any_of HT_.out (by kernel_rfl)) (fun _ _ _ h => h) (Or.inl ⟨by rfl, ?_⟩) ?_ ?_
                                      rotate_left
                                      · intro w'
                                        go_simp
                                        with_reducible rfl
                                      rotate_left
                                      · simp only [Act.put, List.setIfInBounds_toArray, List.set_cons_zero, List.set_cons_succ, i64_w, i32_w]
                                        rfl
                                      refine pure_ (i := 46) (N := some 84) (v := ?_) (a' := ?_) #[true, true, true, true, true, true, true, true, true, true, true, true, true, true, true, true, true, true, true, true, true, true, true, true, true, true, true, true, true, true, true, true, true, true, true, true, true, true, true, true, true, true, true, true, true, true, true, false, false, false] rfl rfl (any_of HT_.out (by kernel_rfl)) (fun _ _ _ h => h) (Or.inl ⟨by rfl, ?_⟩) ?_ ?_
                                      rotate_left
                                      · intro w'
                                        go_simp
                                        with_reducible rfl
                                      rotate_left
                                      · simp only [Act.put, List.setIfInBounds_toArray, List.set_cons_zero, List.set_cons_succ, i64_w, i32_w]
                                        rfl
                                      refine one_ (i := 47) (N := some 85) #[true, true, true, true, true, true, true, true, true, true, true, true, true, true, true, true, true, true, true, true, true, true, true, true, true, true, true, true, true, true, true, true, true, true, true, true, true, true, true, true, true, true, true, true, true, true, true, true, false, false] rfl rfl (one_of HT_.out (by kernel_rfl)) (by decide) (fun K hK => ?_)
                                      refine goes_ Tryd.func13 (by kernel_rfl) rfl #[.string (((x0_.extract 0 ((ji31) : Int).toNat) ++ (⟨#[42]⟩ : ByteArray)) ++ (x0_.extract ((ji31) : Int).toNat x0_.size)), .string x0_] (by rfl) rfl rfl (by (try simp only [List.map_toArray, List.map_cons, List.map_nil]); first | done | (simp only [hji3, hji31]; rfl) | rfl | (simp only [List.length_drop, List.length_take]; rfl)) ?_
                                      with_reducible refine (glob_Match.calls (((x0_.extract 0 ((ji31) : Int).toNat) ++ (⟨#[42]⟩ : ByteArray)) ++ (x0_.extract ((ji31) : Int).toNat x0_.size)) x0_ true _ A48.out).mono ?_
                                      rintro e w55 ⟨rfl, hb⟩
                                      refine ⟨_, rfl, ?_⟩
                                      have n0_ := Aside0.mk (below_step (by repeat (first | (with_reducible first | exact HB.out | apply below_alloc | apply pw_below_drewN | apply below_drew1) | exact HB.out)) hb)
                                      clear HB
                                      have HB := n0_
                                      clear n0_
                                      (try clear hb)
                                      (try clear hb2)
                                      (try clear hk)
                                      (try clear hi)
                                      refine hK.out _ _ trivial (fun hHeld => ?_)
                                      clear hK K
                                      refine norm_ (a' := ?_) ?_ ?_
                                      rotate_left
                                      · show Act.put _ (some 85) _ = _
                                        simp only [Act.put, List.setIfInBounds_toArray, List.set_cons_zero, List.set_cons_succ, i64_w, i32_w]
                                        rfl
                                      refine pure_ (i := 48) (N := some 86) (v := ?_) (a' := ?_) #[true, true, true, true, true, true, true, true, true, true, true, true, true, true, true, true, true, true, true, true, true, true, true, true, true, true, true, true, true, true, true, true, true, true, true, true, true, true, true, true, true, true, true, true, true, true, true, true, true, false] rfl rfl (any_of HT_.out (by kernel_rfl)) (fun _ _ _ h => h) (Or.inl ⟨by rfl, ?_⟩) ?_ ?_
                                      rotate_left
                                      · intro w'
                                        go_simp
                                        with_reducible rfl
                                      rotate_left
                                      · simp only [Act.put, List.setIfInBounds_toArray, List.set_cons_zero, List.set_cons_succ, i64_w, i32_w]
                                        rfl
                                      refine pure_ (i := 49) (N := some 4) (v := ?_) (a' := ?_) #[true, true, true, true, true, true, true, true, true, true, true, true, true, true, true, true, true, true, true, true, true, true, true, true, true, true, true, true, true, true, true, true, true, true, true, true, true, true, true, true, true, true, true, true, true, true, true, true, true, true] rfl rfl (any_of HT_.out (by kernel_rfl)) (fun _ _ _ h => h) (Or.inl ⟨by rfl, ?_⟩) ?_ ?_
                                      rotate_left
                                      · intro w'
                                        go_simp
                                        with_reducible rfl
                                      rotate_left
                                      · simp only [Act.put, List.setIfInBounds_toArray, List.set_cons_zero, List.set_cons_succ, i64_w, i32_w]
                                        rfl
                                      refine done_ (done_of HT_.out (by kernel_rfl)) ?_
                                      try go_wp2
                                      go_ret
                                      exact ⟨by first | rfl | (simp [errW_none, errW_some] <;> rfl) | (simp only [← hji3, ← hji31]; first | rfl | (simp [errW_none, errW_some] <;> rfl)) | (simp [*, errW_none, errW_some] <;> rfl), by repeat (first | (with_reducible first | exact HB.out | apply below_alloc | apply pw_below_drewN | apply below_drew1) | exact HB.out)⟩
                                    · rw [if_neg c47] at H
                                      exact absurd H (by simp)
                                  · rw [if_neg c44] at H
                                    exact absurd H (by simp)
                                · replace c41 := Bool.eq_false_iff.mpr c41
                                  subst c41
                                  have H1 : (some false) = some true := by rw [if_neg (show ¬ (false = true) by decide)] at H; exact H
                                  cases H1
                              · rw [if_neg c39] at H
                                exact absurd H (by simp)
                            · replace c36 := Bool.eq_false_iff.mpr c36
                              subst c36
                              have H1 : (some false) = some true := by rw [if_neg (show ¬ (false = true) by decide)] at H; exact H
                              cases H1
                          · rw [if_neg c34] at H
                            exact absurd H (by simp)
                        · rw [if_neg c33] at H
                          exact absurd H (by simp)
                      · rw [if_neg c32] at H
                        exact absurd H (by simp)
                    · rw [if_neg c30] at H
                      have c30b0 : ((x0_.size : Int) == 1) = false := beq_eq_false_iff_ne.mpr c30
                      have c30b1 : ((x0_.size : Int) != 1) = true := bne_iff_ne.mpr c30
                      by_cases c67 : 1 ≤ (t192.size : Int)
                      · rw [if_pos c67] at H
                        have c67b0 := eq_true c67
                        have c67b1 : decide (1 ≤ (t192.size : Int)) = true := decide_eq_true c67
                        clear c67
                        replace H := Option.bind_eq_some_iff.mp H
                        obtain ⟨t198, A680, H⟩ := H
                        replace H : (if t198 = true then (some false) else (if 0 ≤ (Int.tmod (wrap64 ((wrap64 ((Int.tmod a1 (wrap64 ((x0_.size : Int) + 1))) + (x0_.size : Int))) + 1)) (wrap64 ((x0_.size : Int) + 1))) then (if (Int.tmod (wrap64 ((wrap64 ((Int.tmod a1 (wrap64 ((x0_.size : Int) + 1))) + (x0_.size : Int))) + 1)) (wrap64 ((x0_.size : Int) + 1))) ≤ (x0_.size : Int) then (if (x0_.extract 0 ((Int.tmod (wrap64 ((wrap64 ((Int.tmod a1 (wrap64 ((x0_.size : Int) + 1))) + (x0_.size : Int))) + 1)) (wrap64 ((x0_.size : Int) + 1))) : Int).toNat).size + 3 ≤ 9223372036854775807 then ((glob_Match.f ((x0_.extract 0 ((Int.tmod (wrap64 ((wrap64 ((Int.tmod a1 (wrap64 ((x0_.size : Int) + 1))) + (x0_.size : Int))) + 1)) (wrap64 ((x0_.size : Int) + 1))) : Int).toNat) ++ (⟨#[42, 42, 42]⟩ : ByteArray)) x0_).bind fun t199 => (if t199 = true then (if 2 + (x0_.extract ((Int.tmod (wrap64 ((wrap64 ((Int.tmod a1 (wrap64 ((x0_.size : Int) + 1))) + (x0_.size : Int))) + 1)) (wrap64 ((x0_.size : Int) + 1))) : Int).toNat x0_.size).size ≤ 9223372036854775807 then ((glob_Match.f ((⟨#[42, 42]⟩ : ByteArray) ++ (x0_.extract ((Int.tmod (wrap64 ((wrap64 ((Int.tmod a1 (wrap64 ((x0_.size : Int) + 1))) + (x0_.size : Int))) + 1)) (wrap64 ((x0_.size : Int) + 1))) : Int).toNat x0_.size)) x0_).bind fun t200 => (if t200 = true then (if (x0_.extract 0 ((Int.tmod (wrap64 ((wrap64 ((Int.tmod a1 (wrap64 ((x0_.size : Int) + 1))) + (x0_.size : Int))) + 1)) (wrap64 ((x0_.size : Int) + 1))) : Int).toNat).size + 1 ≤ 9223372036854775807 then (if ((x0_.extract 0 ((Int.tmod (wrap64 ((wrap64 ((Int.tmod a1 (wrap64 ((x0_.size : Int) + 1))) + (x0_.size : Int))) + 1)) (wrap64 ((x0_.size : Int) + 1))) : Int).toNat) ++ (⟨#[42]⟩ : ByteArray)).size + (x0_.extract ((Int.tmod (wrap64 ((wrap64 ((Int.tmod a1 (wrap64 ((x0_.size : Int) + 1))) + (x0_.size : Int))) + 1)) (wrap64 ((x0_.size : Int) + 1))) : Int).toNat x0_.size).size ≤ 9223372036854775807 then ((glob_Match.f (((x0_.extract 0 ((Int.tmod (wrap64 ((wrap64 ((Int.tmod a1 (wrap64 ((x0_.size : Int) + 1))) + (x0_.size : Int))) + 1)) (wrap64 ((x0_.size : Int) + 1))) : Int).toNat) ++ (⟨#[42]⟩ : ByteArray)) ++ (x0_.extract ((Int.tmod (wrap64 ((wrap64 ((Int.tmod a1 (wrap64 ((x0_.size : Int) + 1))) + (x0_.size : Int))) + 1)) (wrap64 ((x0_.size : Int) + 1))) : Int).toNat x0_.size)) x0_).bind fun t201 => (some t201)) else (none)) else (none)) else (some false))) else (none)) else (some false))) else (none)) else (none)) else (none))) = some true := H
                        have A68 := Aside0.mk A680
                        clear A680
                        by_cases c69 : t198 = true
                        · subst c69
                          have H1 : (some false) = some true := by rw [if_pos rfl] at H; exact H
                          cases H1
                        · replace c69 := Bool.eq_false_iff.mpr c69
                          subst c69
                          have H1 : (if 0 ≤ (Int.tmod (wrap64 ((wrap64 ((Int.tmod a1 (wrap64 ((x0_.size : Int) + 1))) + (x0_.size : Int))) + 1)) (wrap64 ((x0_.size : Int) + 1))) then (if (Int.tmod (wrap64 ((wrap64 ((Int.tmod a1 (wrap64 ((x0_.size : Int) + 1))) + (x0_.size : Int))) + 1)) (wrap64 ((x0_.size : Int) + 1))) ≤ (x0_.size : Int) then (if (x0_.extract 0 ((Int.tmod (wrap64 ((wrap64 ((Int.tmod a1 (wrap64 ((x0_.size : Int) + 1))) + (x0_.size : Int))) + 1)) (wrap64 ((x0_.size : Int) + 1))) : Int).toNat).size + 3 ≤ 9223372036854775807 then ((glob_Match.f ((x0_.extract 0 ((Int.tmod (wrap64 ((wrap64 ((Int.tmod a1 (wrap64 ((x0_.size : Int) + 1))) + (x0_.size : Int))) + 1)) (wrap64 ((x0_.size : Int) + 1))) : Int).toNat) ++ (⟨#[42, 42, 42]⟩ : ByteArray)) x0_).bind fun t199 => (if t199 = true then (if 2 + (x0_.extract ((Int.tmod (wrap64 ((wrap64 ((Int.tmod a1 (wrap64 ((x0_.size : Int) + 1))) + (x0_.size : Int))) + 1)) (wrap64 ((x0_.size : Int) + 1))) : Int).toNat x0_.size).size ≤ 9223372036854775807 then ((glob_Match.f ((⟨#[42, 42]⟩ : ByteArray) ++ (x0_.extract ((Int.tmod (wrap64 ((wrap64 ((Int.tmod a1 (wrap64 ((x0_.size : Int) + 1))) + (x0_.size : Int))) + 1)) (wrap64 ((x0_.size : Int) + 1))) : Int).toNat x0_.size)) x0_).bind fun t200 => (if t200 = true then (if (x0_.extract 0 ((Int.tmod (wrap64 ((wrap64 ((Int.tmod a1 (wrap64 ((x0_.size : Int) + 1))) + (x0_.size : Int))) + 1)) (wrap64 ((x0_.size : Int) + 1))) : Int).toNat).size + 1 ≤ 9223372036854775807 then (if ((x0_.extract 0 ((Int.tmod (wrap64 ((wrap64 ((Int.tmod a1 (wrap64 ((x0_.size : Int) + 1))) + (x0_.size : Int))) + 1)) (wrap64 ((x0_.size : Int) + 1))) : Int).toNat) ++ (⟨#[42]⟩ : ByteArray)).size + (x0_.extract ((Int.tmod (wrap64 ((wrap64 ((Int.tmod a1 (wrap64 ((x0_.size : Int) + 1))) + (x0_.size : Int))) + 1)) (wrap64 ((x0_.size : Int) + 1))) : Int).toNat x0_.size).size ≤ 9223372036854775807 then ((glob_Match.f (((x0_.extract 0 ((Int.tmod (wrap64 ((wrap64 ((Int.tmod a1 (wrap64 ((x0_.size : Int) + 1))) + (x0_.size : Int))) + 1)) (wrap64 ((x0_.size : Int) + 1))) : Int).toNat) ++ (⟨#[42]⟩ : ByteArray)) ++ (x0_.extract ((Int.tmod (wrap64 ((wrap64 ((Int.tmod a1 (wrap64 ((x0_.size : Int) + 1))) + (x0_.size : Int))) + 1)) (wrap64 ((x0_.size : Int) + 1))) : Int).toNat x0_.size)) x0_).bind fun t201 => (some t201)) else (none)) else (none)) else (some false))) else (none)) else (some false))) else (none)) else (none)) else (none)) = some true := by rw [if_neg (show ¬ (false = true) by decide)] at H; exact H
                          clear H
                          have H := H1
                          clear H1
                          obtain ⟨ji75, hji75⟩ : ∃ j_ : Int, (Int.tmod (wrap64 ((wrap64 ((Int.tmod a1 (wrap64 ((x0_.size : Int) + 1))) + (x0_.size : Int))) + 1)) (wrap64 ((x0_.size : Int) + 1))) = j_ := ⟨_, rfl⟩
                          replace H : (if 0 ≤ (ji75) then (if (ji75) ≤ (x0_.size : Int) then (if (x0_.extract 0 ((ji75) : Int).toNat).size + 3 ≤ 9223372036854775807 then ((glob_Match.f ((x0_.extract 0 ((ji75) : Int).toNat) ++ (⟨#[42, 42, 42]⟩ : ByteArray)) x0_).bind fun t199 => (if t199 = true then (if 2 + (x0_.extract ((ji75) : Int).toNat x0_.size).size ≤ 9223372036854775807 then ((glob_Match.f ((⟨#[42, 42]⟩ : ByteArray) ++ (x0_.extract ((ji75) : Int).toNat x0_.size)) x0_).bind fun t200 => (if t200 = true then (if (x0_.extract 0 ((ji75) : Int).toNat).size + 1 ≤ 9223372036854775807 then (if ((x0_.extract 0 ((ji75) : Int).toNat) ++ (⟨#[42]⟩ : ByteArray)).size + (x0_.extract ((ji75) : Int).toNat x0_.size).size ≤ 9223372036854775807 then ((glob_Match.f (((x0_.extract 0 ((ji75) : Int).toNat) ++ (⟨#[42]⟩ : ByteArray)) ++ (x0_.extract ((ji75) : Int).toNat x0_.size)) x0_).bind fun t201 => (some t201)) else (none)) else (none)) else (some false))) else (none)) else (some false))) else (none)) else (none)) else (none)) = some true := by first | (rw [hji75] at H; exact H) | (simp only [hji75] at H ⊢; exact H)
                          (try rw [hji75] at A20)
                          (try rw [hji75] at A21)
                          (try rw [hji75] at A24)
                          (try rw [hji75] at A68)
                          by_cases c76 : 0 ≤ (ji75)
                          · rw [if_pos c76] at H
                            have c76b0 := eq_true c76
                            have c76b1 : decide (0 ≤ (ji75)) = true := decide_eq_true c76
                            clear c76
                            by_cases c77 : (ji75) ≤ (x0_.size : Int)
                            · rw [if_pos c77] at H
                              have c77b0 := eq_true c77
                              have c77b1 : decide ((ji75) ≤ (x0_.size : Int)) = true := decide_eq_true c77
                              clear c77
                              by_cases c78 : (x0_.extract 0 ((ji75) : Int).toNat).size + 3 ≤ 9223372036854775807
                              · rw [if_pos c78] at H
                                have c78b0 := eq_true c78
                                have c78b1 : decide ((x0_.extract 0 ((ji75) : Int).toNat).size + 3 ≤ 9223372036854775807) = true := decide_eq_true c78
                                try have c78b2 : (9223372036854775807 < (x0_.extract 0 ((ji75) : Int).toNat).size + 3) = False := eq_false (Nat.not_lt.2 c78)
                                have c78x : (9223372036854775807 < ji75.toNat + 3) = False := eq_false (by have h_ := c78; simp only [ByteArray.size_extract, ByteArray.size_append] at h_; have hJ_ := of_eq_true c77b0; have e1_ : (⟨#[42]⟩ : ByteArray).size = 1 := rfl; omega)
                                replace H := Option.bind_eq_some_iff.mp H
                                obtain ⟨t199, A790, H⟩ := H
                                replace H : (if t199 = true then (if 2 + (x0_.extract ((ji75) : Int).toNat x0_.size).size ≤ 9223372036854775807 then ((glob_Match.f ((⟨#[42, 42]⟩ : ByteArray) ++ (x0_.extract ((ji75) : Int).toNat x0_.size)) x0_).bind fun t200 => (if t200 = true then (if (x0_.extract 0 ((ji75) : Int).toNat).size + 1 ≤ 9223372036854775807 then (if ((x0_.extract 0 ((ji75) : Int).toNat) ++ (⟨#[42]⟩ : ByteArray)).size + (x0_.extract ((ji75) : Int).toNat x0_.size).size ≤ 9223372036854775807 then ((glob_Match.f (((x0_.extract 0 ((ji75) : Int).toNat) ++ (⟨#[42]⟩ : ByteArray)) ++ (x0_.extract ((ji75) : Int).toNat x0_.size)) x0_).bind fun t201 => (some t201)) else (none)) else (none)) else (some false))) else (none)) else (some false)) = some true := H
                                have A79 := Aside0.mk A790
                                clear A790
                                by_cases c80 : t199 = true
                                · subst c80
                                  have H1 : (if 2 + (x0_.extract ((ji75) : Int).toNat x0_.size).size ≤ 9223372036854775807 then ((glob_Match.f ((⟨#[42, 42]⟩ : ByteArray) ++ (x0_.extract ((ji75) : Int).toNat x0_.size)) x0_).bind fun t200 => (if t200 = true then (if (x0_.extract 0 ((ji75) : Int).toNat).size + 1 ≤ 9223372036854775807 then (if ((x0_.extract 0 ((ji75) : Int).toNat) ++ (⟨#[42]⟩ : ByteArray)).size + (x0_.extract ((ji75) : Int).toNat x0_.size).size ≤ 9223372036854775807 then ((glob_Match.f (((x0_.extract 0 ((ji75) : Int).toNat) ++ (⟨#[42]⟩ : ByteArray)) ++ (x0_.extract ((ji75) : Int).toNat x0_.size)) x0_).bind fun t201 => (some t201)) else (none)) else (none)) else (some false))) else (none)) = some true := by rw [if_pos rfl] at H; exact H
                                  clear H
                                  have H := H1
                                  clear H1
                                  have c81b0 := eq_true (of_decide_eq_true (by first | (with_reducible assumption) | assumption) : 0 ≤ (ji75))
                                  have c82b0 := eq_true (of_decide_eq_true (by first | (with_reducible assumption) | assumption) : (ji75) ≤ (x0_.size : Int))
                                  by_cases c83 : 2 + (x0_.extract ((ji75) : Int).toNat x0_.size).size ≤ 9223372036854775807
                                  · rw [if_pos c83] at H
                                    have c83b0 := eq_true c83
                                    have c83b1 : decide (2 + (x0_.extract ((ji75) : Int).toNat x0_.size).size ≤ 9223372036854775807) = true := decide_eq_true c83
                                    try have c83b2 : (9223372036854775807 < 2 + (x0_.extract ((ji75) : Int).toNat x0_.size).size) = False := eq_false (Nat.not_lt.2 c83)
                                    have c83x : (9223372036854775807 < 2 + (x0_.size - ji75.toNat)) = False := eq_false (by have h_ := c83; simp only [ByteArray.size_extract, ByteArray.size_append] at h_; have hJ_ := of_eq_true c77b0; have e1_ : (⟨#[42]⟩ : ByteArray).size = 1 := rfl; omega)
                                    replace H := Option.bind_eq_some_iff.mp H
                                    obtain ⟨t200, A840, H⟩ := H
                                    replace H : (if t200 = true then (if (x0_.extract 0 ((ji75) : Int).toNat).size + 1 ≤ 9223372036854775807 then (if ((x0_.extract 0 ((ji75) : Int).toNat) ++ (⟨#[42]⟩ : ByteArray)).size + (x0_.extract ((ji75) : Int).toNat x0_.size).size ≤ 9223372036854775807 then ((glob_Match.f (((x0_.extract 0 ((ji75) : Int).toNat) ++ (⟨#[42]⟩ : ByteArray)) ++ (x0_.extract ((ji75) : Int).toNat x0_.size)) x0_).bind fun t201 => (some t201)) else (none)) else (none)) else (some false)) = some true := H
                                    have A84 := Aside0.mk A840
                                    clear A840
                                    by_cases c85 : t200 = true
                                    · subst c85
                                      have H1 : (if (x0_.extract 0 ((ji75) : Int).toNat).size + 1 ≤ 9223372036854775807 then (if ((x0_.extract 0 ((ji75) : Int).toNat) ++ (⟨#[42]⟩ : ByteArray)).size + (x0_.extract ((ji75) : Int).toNat x0_.size).size ≤ 9223372036854775807 then ((glob_Match.f (((x0_.extract 0 ((ji75) : Int).toNat) ++ (⟨#[42]⟩ : ByteArray)) ++ (x0_.extract ((ji75) : Int).toNat x0_.size)) x0_).bind fun t201 => (some t201)) else (none)) else (none)) = some true := by rw [if_pos rfl] at H; exact H
                                      clear H
                                      have H := H1
                                      clear H1
                                      have c86b0 := eq_true (of_decide_eq_true (by first | (with_reducible assumption) | assumption) : 0 ≤ (ji75))
                                      have c87b0 := eq_true (of_decide_eq_true (by first | (with_reducible assumption) | assumption) : (ji75) ≤ (x0_.size : Int))
                                      by_cases c88 : (x0_.extract 0 ((ji75) : Int).toNat).size + 1 ≤ 9223372036854775807
                                      · rw [if_pos c88] at H
                                        have c88b0 := eq_true c88
                                        have c88b1 : decide ((x0_.extract 0 ((ji75) : Int).toNat).size + 1 ≤ 9223372036854775807) = true := decide_eq_true c88
                                        try have c88b2 : (9223372036854775807 < (x0_.extract 0 ((ji75) : Int).toNat).size + 1) = False := eq_false (Nat.not_lt.2 c88)
                                        have c88x : (9223372036854775807 < ji75.toNat + 1) = False := eq_false (by have h_ := c88; simp only [ByteArray.size_extract, ByteArray.size_append] at h_; have hJ_ := of_eq_true c77b0; have e1_ : (⟨#[42]⟩ : ByteArray).size = 1 := rfl; omega)
                                        have c89b0 := eq_true (of_decide_eq_true (by first | (with_reducible assumption) | assumption) : 0 ≤ (ji75))
                                        have c90b0 := eq_true (of_decide_eq_true (by first | (with_reducible assumption) | assumption) : (ji75) ≤ (x0_.size : Int))
                                        by_cases c91 : ((x0_.extract 0 ((ji75) : Int).toNat) ++ (⟨#[42]⟩ : ByteArray)).size + (x0_.extract ((ji75) : Int).toNat x0_.size).size ≤ 9223372036854775807
                                        · rw [if_pos c91] at H
                                          have c91b0 := eq_true c91
                                          have c91b1 : decide (((x0_.extract 0 ((ji75) : Int).toNat) ++ (⟨#[42]⟩ : ByteArray)).size + (x0_.extract ((ji75) : Int).toNat x0_.size).size ≤ 9223372036854775807) = true := decide_eq_true c91
                                          try have c91b2 : (9223372036854775807 < ((x0_.extract 0 ((ji75) : Int).toNat) ++ (⟨#[42]⟩ : ByteArray)).size + (x0_.extract ((ji75) : Int).toNat x0_.size).size) = False := eq_false (Nat.not_lt.2 c91)
                                          have c91x : (9223372036854775807 < ji75.toNat + 1 + (x0_.size - ji75.toNat)) = False := eq_false (by have h_ := c91; simp only [ByteArray.size_extract, ByteArray.size_append] at h_; have hJ_ := of_eq_true c77b0; have e1_ : (⟨#[42]⟩ : ByteArray).size = 1 := rfl; omega)
                                          replace H := Option.bind_eq_some_iff.mp H
                                          obtain ⟨t201, A920, H⟩ := H
                                          replace H : (some t201) = some true := H
                                          have A92 := Aside0.mk A920
                                          clear A920
                                          obtain rfl : t201 = true := Option.some.inj H
                                          try go_wp2_with (first | ((with_reducible refine gate_callee (f := 16) rfl ?_); refine goesL_ (some 37) rfl rfl Tryd.func16 (by kernel_rfl) rfl #[.string (⟨#[63]⟩ : ByteArray), .int .i64 (x0_.size : Int)] rfl (by (try simp only [List.map_toArray, List.map_cons, List.map_nil]); first | done | (simp only [hji3]; rfl) | rfl | (simp only [List.length_drop, List.length_take]; rfl)) ?_; (with_reducible refine (strings_Repeat.calls (⟨#[63]⟩ : ByteArray) (x0_.size : Int) t192 _ A20.out).mono ?_); rintro e w93 ⟨rfl, hb⟩; refine ⟨_, rfl, ?_⟩; have n0_ := Aside0.mk (below_step (by repeat (first | (with_reducible first | exact HB.out | apply below_alloc | apply pw_below_drewN | apply below_drew1) | exact HB.out)) hb); clear HB; have HB := n0_; clear n0_; (try clear hb); (try clear hb2); (try clear hk); (try clear hi)))
                                          have n0_ := Aside0.mk (below_drew1 HB.out)
                                          clear HB
                                          have HB := n0_
                                          clear n0_
                                          refine start_ (n := 50) (S := fun w' => True) (ds := []) #[false, false, false, false, false, false, false, false, false, false, false, false, false, false, false, false, false, false, false, false, false, false, false, false, false, false, false, false, false, false, false, false, false, false, false, false, false, false, false, false, false, false, false, false, false, false, false, false, false, false] (by kernel_rfl) rfl rfl trivial (fun hHeld => ?_); refine with_tabW imprimaturlaw13_GlobMarks.tab7 imprimaturlaw13_GlobMarks.bits7 (fun HT_ HW_ => ?_)
                                          generalize w93.drew = w94 at HB hHeld ⊢
                                          refine pure_ (i := 0) (N := some 38) (v := ?_) (a' := ?_) #[true, false, false, false, false, false, false, false, false, false, false, false, false, false, false, false, false, false, false, false, false, false, false, false, false, false, false, false, false, false, false, false, false, false, false, false, false, false, false, false, false, false, false, false, false, false, false, false, false, false] rfl rfl (any_of HT_.out (by kernel_rfl)) (fun _ _ _ h => h) (Or.inl ⟨by rfl, ?_⟩) ?_ ?_
                                          rotate_left
                                          · intro w'
                                            go_simp
                                            with_reducible rfl
                                          rotate_left
                                          · simp only [Act.put, List.setIfInBounds_toArray, List.set_cons_zero, List.set_cons_succ, i64_w, i32_w]
                                            rfl
                                          refine pure_ (i := 1) (N := some 39) (v := ?_) (a' := ?_) #[true, true, false, false, false, false, false, false, false, false, false, false, false, false, false, false, false, false, false, false, false, false, false, false, false, false, false, false, false, false, false, false, false, false, false, false, false, false, false, false, false, false, false, false, false, false, false, false, false, false] rfl rfl (any_of HT_.out (by kernel_rfl)) (fun _ _ _ h => h) (Or.inl ⟨by rfl, ?_⟩) ?_ ?_
                                          rotate_left
                                          · intro w'
                                            go_simp
                                            with_reducible rfl
                                          rotate_left
                                          · simp only [Act.put, List.setIfInBounds_toArray, List.set_cons_zero, List.set_cons_succ, i64_w, i32_w]
                                            rfl
                                          refine one_ (i := 2) (N := some 40) #[true, true, true, false, false, false, false, false, false, false, false, false, false, false, false, false, false, false, false, false, false, false, false, false, false, false, false, false, false, false, false, false, false, false, false, false, false, false, false, false, false, false, false, false, false, false, false, false, false, false] rfl rfl (one_of HT_.out (by kernel_rfl)) (by decide) (fun K hK => ?_)
                                          refine goes_ Tryd.func13 (by kernel_rfl) rfl #[.string t192, .string x0_] (by rfl) rfl rfl (by (try simp only [List.map_toArray, List.map_cons, List.map_nil]); first | done | (simp only [hji3]; rfl) | rfl | (simp only [List.length_drop, List.length_take]; rfl)) ?_
                                          with_reducible refine (glob_Match.calls t192 x0_ true _ A21.out).mono ?_
                                          rintro e w95 ⟨rfl, hb⟩
                                          refine ⟨_, rfl, ?_⟩
                                          have n0_ := Aside0.mk (below_step (by repeat (first | (with_reducible first | exact HB.out | apply below_alloc | apply pw_below_drewN | apply below_drew1) | exact HB.out)) hb)
                                          clear HB
                                          have HB := n0_
                                          clear n0_
                                          (try clear hb)
                                          (try clear hb2)
                                          (try clear hk)
                                          (try clear hi)
                                          refine hK.out _ _ trivial (fun hHeld => ?_)
                                          clear hK K
                                          refine norm_ (a' := ?_) ?_ ?_
                                          rotate_left
                                          · show Act.put _ (some 40) _ = _
                                            simp only [Act.put, List.setIfInBounds_toArray, List.set_cons_zero, List.set_cons_succ, i64_w, i32_w]
                                            rfl
                                          refine pure_ (i := 3) (N := some 41) (v := ?_) (a' := ?_) #[true, true, true, true, false, false, false, false, false, false, false, false, false, false, false, false, false, false, false, false, false, false, false, false, false, false, false, false, false, false, false, false, false, false, false, false, false, false, false, false, false, false, false, false, false, false, false, false, false, false] rfl rfl (any_of HT_.out (by kernel_rfl)) (fun _ _ _ h => h) (Or.inl ⟨by rfl, ?_⟩) ?_ ?_
                                          rotate_left
                                          · intro w'
                                            go_simp
                                            with_reducible rfl
                                          rotate_left
                                          · simp only [Act.put, List.setIfInBounds_toArray, List.set_cons_zero, List.set_cons_succ, i64_w, i32_w]
                                            rfl
                                          refine pure_ (i := 4) (N := some 42) (v := ?_) (a' := ?_) #[true, true, true, true, true, false, false, false, false, false, false, false, false, false, false, false, false, false, false, false, false, false, false, false, false, false, false, false, false, false, false, false, false, false, false, false, false, false, false, false, false, false, false, false, false, false, false, false, false, false] rfl rfl (any_of HT_.out (by kernel_rfl)) (fun _ _ _ h => h) (Or.inl ⟨by rfl, ?_⟩) ?_ ?_
                                          rotate_left
                                          · intro w'
                                            go_simp
                                            with_reducible rfl
                                          rotate_left
                                          · simp only [Act.put, List.setIfInBounds_toArray, List.set_cons_zero, List.set_cons_succ, i64_w, i32_w]
                                            rfl
                                          refine pure_ (i := 5) (N := some 43) (v := ?_) (a' := ?_) #[true, true, true, true, true, true, false, false, false, false, false, false, false, false, false, false, false, false, false, false, false, false, false, false, false, false, false, false, false, false, false, false, false, false, false, false, false, false, false, false, false, false, false, false, false, false, false, false, false, false] rfl rfl (any_of HT_.out (by kernel_rfl)) (fun _ _ _ h => h) (Or.inl ⟨by rfl, ?_⟩) ?_ ?_
                                          rotate_left
                                          · intro w'
                                            go_simp
                                            with_reducible rfl
                                          rotate_left
                                          · simp only [Act.put, List.setIfInBounds_toArray, List.set_cons_zero, List.set_cons_succ, i64_w, i32_w]
                                            rfl
                                          refine pure_ (i := 6) (N := some 44) (v := ?_) (a' := ?_) #[true, true, true, true, true, true, true, false, false, false, false, false, false, false, false, false, false, false, false, false, false, false, false, false, false, false, false, false, false, false, false, false, false, false, false, false, false, false, false, false, false, false, false, false, false, false, false, false, false, false] rfl rfl (any_of HT_.out (by kernel_rfl)) (fun _ _ _ h => h) (Or.inl ⟨by rfl, ?_⟩) ?_ ?_
                                          rotate_left
                                          · intro w'
                                            go_simp
                                            with_reducible rfl
                                          rotate_left
                                          · simp only [Act.put, List.setIfInBounds_toArray, List.set_cons_zero, List.set_cons_succ, i64_w, i32_w]
                                            rfl
                                          refine one_ (i := 7) (N := some 45) #[true, true, true, true, true, true, true, true, false, false, false, false, false, false, false, false, false, false, false, false, false, false, false, false, false, false, false, false, false, false, false, false, false, false, false, false, false, false, false, false, false, false, false, false, false, false, false, false, false, false] rfl rfl (one_of HT_.out (by kernel_rfl)) (by decide) (fun K hK => ?_)
                                          refine goes_ Tryd.func13 (by kernel_rfl) rfl #[.string (t192 ++ (⟨#[63]⟩ : ByteArray)), .string x0_] (by rfl) rfl rfl (by (try simp only [List.map_toArray, List.map_cons, List.map_nil]); first | done | (simp only [hji3]; rfl) | rfl | (simp only [List.length_drop, List.length_take]; rfl)) ?_
                                          with_reducible refine (glob_Match.calls (t192 ++ (⟨#[63]⟩ : ByteArray)) x0_ false _ A24.out).mono ?_
                                          rintro e w96 ⟨rfl, hb⟩
                                          refine ⟨_, rfl, ?_⟩
                                          have n0_ := Aside0.mk (below_step (by repeat (first | (with_reducible first | exact HB.out | apply below_alloc | apply pw_below_drewN | apply below_drew1) | exact HB.out)) hb)
                                          clear HB
                                          have HB := n0_
                                          clear n0_
                                          (try clear hb)
                                          (try clear hb2)
                                          (try clear hk)
                                          (try clear hi)
                                          refine hK.out _ _ trivial (fun hHeld => ?_)
                                          clear hK K
                                          refine norm_ (a' := ?_) ?_ ?_
                                          rotate_left
                                          · show Act.put _ (some 45) _ = _
                                            simp only [Act.put, List.setIfInBounds_toArray, List.set_cons_zero, List.set_cons_succ, i64_w, i32_w]
                                            rfl
                                          refine pure_ (i := 8) (N := some 46) (v := ?_) (a' := ?_) #[true, true, true, true, true, true, true, true, true, false, false, false, false, false, false, false, false, false, false, false, false, false, false, false, false, false, false, false, false, false, false, false, false, false, false, false, false, false, false, false, false, false, false, false, false, false, false, false, false, false] rfl rfl (any_of HT_.out (by kernel_rfl)) (fun _ _ _ h => h) (Or.inl ⟨by rfl, ?_⟩) ?_ ?_
                                          rotate_left
                                          · intro w'
                                            go_simp
                                            with_reducible rfl
                                          rotate_left
                                          · simp only [Act.put, List.setIfInBounds_toArray, List.set_cons_zero, List.set_cons_succ, i64_w, i32_w]
                                            rfl
                                          refine pure_ (i := 9) (N := some 47) (v := ?_) (a' := ?_) #[true, true, true, true, true, true, true, true, true, true, false, false, false, false, false, false, false, false, false, false, false, false, false, false, false, false, false, false, false, false, false, false, false, false, false, false, false, false, false, false, false, false, false, false, false, false, false, false, false, false] rfl rfl (any_of HT_.out (by kernel_rfl)) (fun _ _ _ h => h) (Or.inl ⟨by rfl, ?_⟩) ?_ ?_
                                          rotate_left
                                          · intro w'
                                            go_simp
                                            with_reducible rfl
                                          rotate_left
                                          · simp only [Act.put, List.setIfInBounds_toArray, List.set_cons_zero, List.set_cons_succ, i64_w, i32_w]
                                            rfl
                                          refine pure_ (i := 10) (N := some 48) (v := ?_) (a' := ?_) #[true, true, true, true, true, true, true, true, true, true, true, false, false, false, false, false, false, false, false, false, false, false, false, false, false, false, false, false, false, false, false, false, false, false, false, false, false, false, false, false, false, false, false, false, false, false, false, false, false, false] rfl rfl (any_of HT_.out (by kernel_rfl)) (fun _ _ _ h => h) (Or.inl ⟨by rfl, ?_⟩) ?_ ?_
                                          rotate_left
                                          · intro w'
                                            go_simp
                                            with_reducible rfl
                                          rotate_left
                                          · simp only [Act.put, List.setIfInBounds_toArray, List.set_cons_zero, List.set_cons_succ, i64_w, i32_w]
                                            rfl
                                          refine pure_ (i := 11) (N := some 49) (v := ?_) (a' := ?_) #[true, true, true, true, true, true, true, true, true, true, true, true, false, false, false, false, false, false, false, false, false, false, false, false, false, false, false, false, false, false, false, false, false, false, false, false, false, false, false, false, false, false, false, false, false, false, false, false, false, false] rfl rfl (any_of HT_.out (by kernel_rfl)) (fun _ _ _ h => h) (Or.inl ⟨by rfl, ?_⟩) ?_ ?_
                                          rotate_left
                                          · intro w'
                                            go_simp
                                            with_reducible rfl
                                          rotate_left
                                          · simp only [Act.put, List.setIfInBounds_toArray, List.set_cons_zero, List.set_cons_succ, i64_w, i32_w]
                                            rfl
                                          refine pure_ (i := 12) (N := some 50) (v := ?_) (a' := ?_) #[true, true, true, true, true, true, true, true, true, true, true, true, true, false, false, false, false, false, false, false, false, false, false, false, false, false, false, false, false, false, false, false, false, false, false, false, false, false, false, false, false, false, false, false, false, false, false, false, false, false] rfl rfl (any_of HT_.out (by kernel_rfl)) (fun _ _ _ h => h) (Or.inl ⟨by rfl, ?_⟩) ?_ ?_
                                          rotate_left
                                          · intro w'
                                            go_simp
                                            with_reducible rfl
                                          rotate_left
                                          · simp only [Act.put, List.setIfInBounds_toArray, List.set_cons_zero, List.set_cons_succ, i64_w, i32_w]
                                            rfl
                                          refine pure_ (i := 13) (N := some 51) (v := ?_) (a' := ?_) #[true, true, true, true, true, true, true, true, true, true, true, true, true, true, false, false, false, false, false, false, false, false, false, false, false, false, false, false, false, false, false, false, false, false, false, false, false, false, false, false, false, false, false, false, false, false, false, false, false, false] rfl rfl (any_of HT_.out (by kernel_rfl)) (fun _ _ _ h => h) (Or.inl ⟨by rfl, ?_⟩) ?_ ?_
                                          rotate_left
                                          · intro w'
                                            go_simp
                                            with_reducible rfl
                                          rotate_left
                                          · simp only [Act.put, List.setIfInBounds_toArray, List.set_cons_zero, List.set_cons_succ, i64_w, i32_w]
                                            rfl
                                          refine pure_ (i := 14) (N := some 52) (v := ?_) (a' := ?_) #[true, true, true, true, true, true, true, true, true, true, true, true, true, true, true, false, false, false, false, false, false, false, false, false, false, false, false, false, false, false, false, false, false, false, false, false, false, false, false, false, false, false, false, false, false, false, false, false, false, false] rfl rfl (any_of HT_.out (by kernel_rfl)) (fun _ _ _ h => h) (Or.inl ⟨by rfl, ?_⟩) ?_ ?_
                                          rotate_left
                                          · intro w'
                                            go_simp
                                            with_reducible rfl
                                          rotate_left
                                          · simp only [Act.put, List.setIfInBounds_toArray, List.set_cons_zero, List.set_cons_succ, i64_w, i32_w]
                                            rfl
                                          refine pure_ (i := 15) (N := some 53) (v := ?_) (a' := ?_) #[true, true, true, true, true, true, true, true, true, true, true, true, true, true, true, true, false, false, false, false, false, false, false, false, false, false, false, false, false, false, false, false, false, false, false, false, false, false, false, false, false, false, false, false, false, false, false, false, false, false] rfl rfl (any_of HT_.out (by kernel_rfl)) (fun _ _ _ h => h) (Or.inl ⟨by rfl, ?_⟩) ?_ ?_
                                          rotate_left
                                          · intro w'
                                            go_simp
                                            with_reducible rfl
                                          rotate_left
                                          · simp only [Act.put, List.setIfInBounds_toArray, List.set_cons_zero, List.set_cons_succ, i64_w, i32_w]
                                            rfl
                                          refine pure_ (i := 16) (N := some 54) (v := ?_) (a' := ?_) #[true, true, true, true, true, true, true, true, true, true, true, true, true, true, true, true, true, false, false, false, false, false, false, false, false, false, false, false, false, false, false, false, false, false, false, false, false, false, false, false, false, false, false, false, false, false, false, false, false, false] rfl rfl (any_of HT_.out (by kernel_rfl)) (fun _ _ _ h => h) (Or.inl ⟨by rfl, ?_⟩) ?_ ?_
                                          rotate_left
                                          · intro w'
                                            go_simp
                                            with_reducible rfl
                                          rotate_left
                                          · simp only [Act.put, List.setIfInBounds_toArray, List.set_cons_zero, List.set_cons_succ, i64_w, i32_w]
                                            rfl
                                          refine one_ (i := 17) (N := some 55) #[true, true, true, true, true, true, true, true, true, true, true, true, true, true, true, true, true, true, false, false, false, false, false, false, false, false, false, false, false, false, false, false, false, false, false, false, false, false, false, false, false, false, false, false, false, false, false, false, false, false] rfl rfl (one_of HT_.out (by kernel_rfl)) (by decide) (fun K hK => ?_)
                                          refine goes_ Tryd.func13 (by kernel_rfl) rfl #[.string (t192.extract 1 t192.size), .string x0_] (by rfl) rfl rfl (by (try simp only [List.map_toArray, List.map_cons, List.map_nil]); first | done | (simp only [hji3]; rfl) | rfl | (simp only [List.length_drop, List.length_take]; rfl)) ?_
                                          with_reducible refine (glob_Match.calls (t192.extract 1 t192.size) x0_ false _ A68.out).mono ?_
                                          rintro e w97 ⟨rfl, hb⟩
                                          refine ⟨_, rfl, ?_⟩
                                          have n0_ := Aside0.mk (below_step (by repeat (first | (with_reducible first | exact HB.out | apply below_alloc | apply pw_below_drewN | apply below_drew1) | exact HB.out)) hb)
                                          clear HB
                                          have HB := n0_
                                          clear n0_
                                          (try clear hb)
                                          (try clear hb2)
                                          (try clear hk)
                                          (try clear hi)
                                          refine hK.out _ _ trivial (fun hHeld => ?_)
                                          clear hK K
                                          refine norm_ (a' := ?_) ?_ ?_
                                          rotate_left
                                          · show Act.put _ (some 55) _ = _
                                            simp only [Act.put, List.setIfInBounds_toArray, List.set_cons_zero, List.set_cons_succ, i64_w, i32_w]
                                            rfl
                                          refine pure_ (i := 18) (N := some 56) (v := ?_) (a' := ?_) #[true, true, true, true, true, true, true, true, true, true, true, true, true, true, true, true, true, true, true, false, false, false, false, false, false, false, false, false, false, false, false, false, false, false, false, false, false, false, false, false, false, false, false, false, false, false, false, false, false, false] rfl rfl (any_of HT_.out (by kernel_rfl)) (fun _ _ _ h => h) (Or.inl ⟨by rfl, ?_⟩) ?_ ?_
                                          rotate_left
                                          · intro w'
                                            go_simp
                                            with_reducible rfl
                                          rotate_left
                                          · simp only [Act.put, List.setIfInBounds_toArray, List.set_cons_zero, List.set_cons_succ, i64_w, i32_w]
                                            rfl
                                          refine pure_ (i := 19) (N := some 57) (v := ?_) (a' := ?_) #[true, true, true, true, true, true, true, true, true, true, true, true, true, true, true, true, true, true, true, true, false, false, false, false, false, false, false, false, false, false, false, false, false, false, false, false, false, false, false, false, false, false, false, false, false, false, false, false, false, false] rfl rfl (any_of HT_.out (by kernel_rfl)) (fun _ _ _ h => h) (Or.inl ⟨by rfl, ?_⟩) ?_ ?_
                                          rotate_left
                                          · intro w'
                                            go_simp
                                            with_reducible rfl
                                          rotate_left
                                          · simp only [Act.put, List.setIfInBounds_toArray, List.set_cons_zero, List.set_cons_succ, i64_w, i32_w]
                                            rfl
                                          refine pure_ (i := 20) (N := some 58) (v := ?_) (a' := ?_) #[true, true, true, true, true, true, true, true, true, true, true, true, true, true, true, true, true, true, true, true, true, false, false, false, false, false, false, false, false, false, false, false, false, false, false, false, false, false, false, false, false, false, false, false, false, false, false, false, false, false] rfl rfl (any_of HT_.out (by kernel_rfl)) (fun _ _ _ h => h) (Or.inl ⟨by rfl, ?_⟩) ?_ ?_
                                          rotate_left
                                          · intro w'
                                            go_simp
                                            with_reducible rfl
                                          rotate_left
                                          · simp only [Act.put, List.setIfInBounds_toArray, List.set_cons_zero, List.set_cons_succ, i64_w, i32_w]
                                            rfl
                                          refine pure_ (i := 21) (N := some 59) (v := ?_) (a' := ?_) #[true, true, true, true, true, true, true, true, true, true, true, true, true, true, true, true, true, true, true, true, true, true, false, false, false, false, false, false, false, false, false, false, false, false, false, false, false, false, false, false, false, false, false, false, false, false, false, false, false, false] rfl rfl (any_of HT_.out (by kernel_rfl)) (fun _ _ _ h => h) (Or.inl ⟨by rfl, ?_⟩) ?_ ?_
                                          rotate_left
                                          · intro w'
                                            go_simp
                                            with_reducible rfl
                                          rotate_left
                                          · simp only [Act.put, List.setIfInBounds_toArray, List.set_cons_zero, List.set_cons_succ, i64_w, i32_w]
                                            rfl
                                          refine pure_ (i := 22) (N := some 60) (v := ?_) (a' := ?_) #[true, true, true, true, true, true, true, true, true, true, true, true, true, true, true, true, true, true, true, true, true, true, true, false, false, false, false, false, false, false, false, false, false, false, false, false, false, false, false, false, false, false, false, false, false, false, false, false, false, false] rfl rfl (any_of HT_.out (by kernel_rfl)) (fun _ _ _ h => h) (Or.inl ⟨by rfl, ?_⟩) ?_ ?_
                                          rotate_left
                                          · intro w'
                                            go_simp
                                            with_reducible rfl
                                          rotate_left
                                          · simp only [Act.put, List.setIfInBounds_toArray, List.set_cons_zero, List.set_cons_succ, i64_w, i32_w]
                                            rfl
                                          refine pure_ (i := 23) (N := some 61) (v := ?_) (a' := ?_) #[true, true, true, true, true, true, true, true, true, true, true, true, true, true, true, true, true, true, true, true, true, true, true, true, false, false, false, false, false, false, false, false, false, false, false, false, false, false, false, false, false, false, false, false, false, false, false, false, false, false] rfl rfl (any_of HT_.out (by kernel_rfl)) (fun _ _ _ h => h) (Or.inl ⟨by rfl, ?_⟩) ?_ ?_
                                          rotate_left
                                          · intro w'
                                            go_simp
                                            with_reducible rfl
                                          rotate_left
                                          · simp only [Act.put, List.setIfInBounds_toArray, List.set_cons_zero, List.set_cons_succ, i64_w, i32_w]
                                            rfl
                                          refine pure_ (i := 24) (N := some 62) (v := ?_) (a' := ?_) #[true, true, true, true, true, true, true, true, true, true, true, true, true, true, true, true, true, true, true, true, true, true, true, true, true, false, false, false, false, false, false, false, false, false, false, false, false, false, false, false, false, false, false, false, false, false, false, false, false, false] rfl rfl (any_of HT_.out (by kernel_rfl)) (fun _ _ _ h => h) (Or.inl ⟨by rfl, ?_⟩) ?_ ?_
                                          rotate_left
                                          · intro w'
                                            go_simp
                                            with_reducible rfl
                                          rotate_left
                                          · simp only [Act.put, List.setIfInBounds_toArray, List.set_cons_zero, List.set_cons_succ, i64_w, i32_w]
                                            rfl
                                          refine pure_ (i := 25) (N := some 63) (v := ?_) (a' := ?_) #[true, true, true, true, true, true, true, true, true, true, true, true, true, true, true, true, true, true, true, true, true, true, true, true, true, true, false, false, false, false, false, false, false, false, false, false, false, false, false, false, false, false, false, false, false, false, false, false, false, false] rfl rfl (any_of HT_.out (by kernel_rfl)) (fun _ _ _ h => h) (Or.inl ⟨by rfl, ?_⟩) ?_ ?_
                                          rotate_left
                                          · intro w'
                                            go_simp
                                            with_reducible rfl
                                          rotate_left
                                          · simp only [Act.put, List.setIfInBounds_toArray, List.set_cons_zero, List.set_cons_succ, i64_w, i32_w]
                                            rfl
                                          refine pure_ (i := 26) (N := some 64) (v := ?_) (a' := ?_) #[true, true, true, true, true, true, true, true, true, true, true, true, true, true, true, true, true, true, true, true, true, true, true, true, true, true, true, false, false, false, false, false, false, false, false, false, false, false, false, false, false, false, false, false, false, false, false, false, false, false] rfl rfl (any_of HT_.out (by kernel_rfl)) (fun _ _ _ h => h) (Or.inl ⟨by rfl, ?_⟩) ?_ ?_
                                          rotate_left
                                          · intro w'
                                            go_simp
                                            with_reducible rfl
                                          rotate_left
                                          · simp only [Act.put, List.setIfInBounds_toArray, List.set_cons_zero, List.set_cons_succ, i64_w, i32_w]
                                            rfl
                                          refine one_ (i := 27) (N := some 65) #[true, true, true, true, true, true, true, true, true, true, true, true, true, true, true, true, true, true, true, true, true, true, true, true, true, true, true, true, false, false, false, false, false, false, false, false, false, false, false, false, false, false, false, false, false, false, false, false, false, false] rfl rfl (one_of HT_.out (by kernel_rfl)) (by decide) (fun K hK => ?_)
                                          refine goes_ Tryd.func13 (by kernel_rfl) rfl #[.string ((x0_.extract 0 ((ji75) : Int).toNat) ++ (⟨#[42, 42, 42]⟩ : ByteArray)), .string x0_] (by rfl) rfl rfl (by (try simp only [List.map_toArray, List.map_cons, List.map_nil]); first | done | (simp only [hji3, hji75]; rfl) | rfl | (simp only [List.length_drop, List.length_take]; rfl)) ?_
                                          with_reducible refine (glob_Match.calls ((x0_.extract 0 ((ji75) : Int).toNat) ++ (⟨#[42, 42, 42]⟩ : ByteArray)) x0_ true _ A79.out).mono ?_
                                          rintro e w98 ⟨rfl, hb⟩
                                          refine ⟨_, rfl, ?_⟩
                                          have n0_ := Aside0.mk (below_step (by repeat (first | (with_reducible first | exact HB.out | apply below_alloc | apply pw_below_drewN | apply below_drew1) | exact HB.out)) hb)
                                          clear HB
                                          have HB := n0_
                                          clear n0_
                                          (try clear hb)
                                          (try clear hb2)
                                          (try clear hk)
                                          (try clear hi)
                                          refine hK.out _ _ trivial (fun hHeld => ?_)
                                          clear hK K
                                          refine norm_ (a' := ?_) ?_ ?_
                                          rotate_left
                                          · show Act.put _ (some 65) _ = _
                                            simp only [Act.put, List.setIfInBounds_toArray, List.set_cons_zero, List.set_cons_succ, i64_w, i32_w]
                                            rfl
                                          refine pure_ (i := 28) (N := some 66) (v := ?_) (a' := ?_) #[true, true, true, true, true, true, true, true, true, true, true, true, true, true, true, true, true, true, true, true, true, true, true, true, true, true, true, true, true, false, false, false, false, false, false, false, false, false, false, false, false, false, false, false, false, false, false, false, false, false] rfl rfl (any_of HT_.out (by kernel_rfl)) (fun _ _ _ h => h) (Or.inl ⟨by rfl, ?_⟩) ?_ ?_
                                          rotate_left
                                          · intro w'
                                            go_simp
                                            with_reducible rfl
                                          rotate_left
                                          · simp only [Act.put, List.setIfInBounds_toArray, List.set_cons_zero, List.set_cons_succ, i64_w, i32_w]
                                            rfl
                                          refine pure_ (i := 29) (N := some 67) (v := ?_) (a' := ?_) #[true, true, true, true, true, true, true, true, true, true, true, true, true, true, true, true, true, true, true, true, true, true, true, true, true, true, true, true, true, true, false, false, false, false, false, false, false, false, false, false, false, false, false, false, false, false, false, false, false, false] rfl rfl (any_of HT_.out (by kernel_rfl)) (fun _ _ _ h => h) (Or.inl ⟨by rfl, ?_⟩) ?_ ?_
                                          rotate_left
                                          · intro w'
                                            go_simp
                                            with_reducible rfl
                                          rotate_left
                                          · simp only [Act.put, List.setIfInBounds_toArray, List.set_cons_zero, List.set_cons_succ, i64_w, i32_w]
                                            rfl
                                          refine pure_ (i := 30) (N := some 68) (v := ?_) (a' := ?_) #[true, true, true, true, true, true, true, true, true, true, true, true, true, true, true, true, true, true, true, true, true, true, true, true, true, true, true, true, true, true, true, false, false, false, false, false, false, false, false, false, false, false, false, false, false, false, false, false, false, false] rfl rfl (any_of HT_.out (by kernel_rfl)) (fun _ _ _ h => h) (Or.inl ⟨by rfl, ?_⟩) ?_ ?_
                                          rotate_left
                                          · intro w'
                                            go_simp
                                            with_reducible rfl
                                          rotate_left
                                          · simp only [Act.put, List.setIfInBounds_toArray, List.set_cons_zero, List.set_cons_succ, i64_w, i32_w]
                                            rfl
                                          refine pure_ (i := 31) (N := some 69) (v := ?_) (a' := ?_) #[true, true, true, true, true, true, true, true, true, true, true, true, true, true, true, true, true, true, true, true, true, true, true, true, true, true, true, true, true, true, true, true, false, false, false, false, false, false, false, false, false, false, false, false, false, false, false, false, false, false] rfl rfl (any_of HT_.out (by kernel_rfl)) (fun _ _ _ h => h) (Or.inl ⟨by rfl, ?_⟩) ?_ ?_
                                          rotate_left
                                          · intro w'
                                            go_simp
                                            with_reducible rfl
                                          rotate_left
                                          · simp only [Act.put, List.setIfInBounds_toArray, List.set_cons_zero, List.set_cons_succ, i64_w, i32_w]
                                            rfl
                                          refine pure_ (i := 32) (N := some 70) (v := ?_) (a' := ?_) #[true, true, true, true, true, true, true, true, true, true, true, true, true, true, true, true, true, true, true, true, true, true, true, true, true, true, true, true, true, true, true, true, true, false, false, false, false, false, false, false, false, false, false, false, false, false, false, false, false, false] rfl rfl (any_of HT_.out (by kernel_rfl)) (fun _ _ _ h => h) (Or.inl ⟨by rfl, ?_⟩) ?_ ?_
                                          rotate_left
                                          · intro w'
                                            go_simp
                                            with_reducible rfl
                                          rotate_left
                                          · simp only [Act.put, List.setIfInBounds_toArray, List.set_cons_zero, List.set_cons_succ, i64_w, i32_w]
                                            rfl
                                          refine pure_ (i := 33) (N := some 71) (v := ?_) (a' := ?_) #[true, true, true, true, true, true, true, true, true, true, true, true, true, true, true, true, true, true, true, true, true, true, true, true, true, true, true, true, true, true, true, true, true, true, false, false, false, false, false, false, false, false, false, false, false, false, false, false, false, false] rfl rfl (any_of HT_.out (by kernel_rfl)) (fun _ _ _ h => h) (Or.inl ⟨by rfl, ?_⟩) ?_ ?_
                                          rotate_left
                                          · intro w'
                                            go_simp
                                            with_reducible rfl
                                          rotate_left
                                          · simp only [Act.put, List.setIfInBounds_toArray, List.set_cons_zero, List.set_cons_succ, i64_w, i32_w]
                                            rfl
                                          refine pure_ (i := 34) (N := some 72) (v := ?_) (a' := ?_) #[true, true, true, true, true, true, true, true, true, true, true, true, true, true, true, true, true, true, true, true, true, true, true, true, true, true, true, true, true, true, true, true, true, true, true, false, false, false, false, false, false, false, false, false, false, false, false, false, false, false] rfl rfl (any_of HT_.out (by kernel_rfl)) (fun _ _ _ h => h) (Or.inl ⟨by rfl, ?_⟩) ?_ ?_
                                          rotate_left
                                          · intro w'
                                            go_simp
                                            with_reducible rfl
                                          rotate_left
                                          · simp only [Act.put, List.setIfInBounds_toArray, List.set_cons_zero, List.set_cons_succ, i64_w, i32_w]
                                            rfl
                                          refine one_ (i := 35) (N := some 73) #[true, true, true, true, true, true, true, true, true, true, true, true, true, true, true, true, true, true, true, true, true, true, true, true, true, true, true, true, true, true, true, true, true, true, true, true, false, false, false, false, false, false, false, false, false, false, false, false, false, false] rfl rfl (one_of HT_.out (by kernel_rfl)) (by decide) (fun K hK => ?_)
                                          refine goes_ Tryd.func13 (by kernel_rfl) rfl #[.string ((⟨#[42, 42]⟩ : ByteArray) ++ (x0_.extract ((ji75) : Int).toNat x0_.size)), .string x0_] (by rfl) rfl rfl (by (try simp only [List.map_toArray, List.map_cons, List.map_nil]); first | done | (simp only [hji3, hji75]; rfl) | rfl | (simp only [List.length_drop, List.length_take]; rfl)) ?_
                                          with_reducible refine (glob_Match.calls ((⟨#[42, 42]⟩ : ByteArray) ++ (x0_.extract ((ji75) : Int).toNat x0_.size)) x0_ true _ A84.out).mono ?_
                                          rintro e w99 ⟨rfl, hb⟩
                                          refine ⟨_, rfl, ?_⟩
                                          have n0_ := Aside0.mk (below_step (by repeat (first | (with_reducible first | exact HB.out | apply below_alloc | apply pw_below_drewN | apply below_drew1) | exact HB.out)) hb)
                                          clear HB
                                          have HB := n0_
                                          clear n0_
                                          (try clear hb)
                                          (try clear hb2)
                                          (try clear hk)
                                          (try clear hi)
                                          refine hK.out _ _ trivial (fun hHeld => ?_)
                                          clear hK K
                                          refine norm_ (a' := ?_) ?_ ?_
                                          rotate_left
                                          · show Act.put _ (some 73) _ = _
                                            simp only [Act.put, List.setIfInBounds_toArray, List.set_cons_zero, List.set_cons_succ, i64_w, i32_w]
                                            rfl
                                          refine pure_ (i := 36) (N := some 74) (v := ?_) (a' := ?_) #[true, true, true, true, true, true, true, true, true, true, true, true, true, true, true, true, true, true, true, true, true, true, true, true, true, true, true, true, true, true, true, true, true, true, true, true, true, false, false, false, false, false, false, false, false, false, false, false, false, false] rfl rfl (any_of HT_.out (by kernel_rfl)) (fun _ _ _ h => h) (Or.inl ⟨by rfl, ?_⟩) ?_ ?_
                                          rotate_left
                                          · intro w'
                                            go_simp
                                            with_reducible rfl
                                          rotate_left
                                          · simp only [Act.put, List.setIfInBounds_toArray, List.set_cons_zero, List.set_cons_succ, i64_w, i32_w]
                                            rfl
                                          refine pure_ (i := 37) (N := some 75) (v := ?_) (a' := ?_) #[true, true, true, true, true, true, true, true, true, true, true, true, true, true, true, true, true, true, true, true, true, true, true, true, true, true, true, true, true, true, true, true, true, true, true, true, true, true, false, false, false, false, false, false, false, false, false, false, false, false] rfl rfl (any_of HT_.out (by kernel_rfl)) (fun _ _ _ h => h) (Or.inl ⟨by rfl, ?_⟩) ?_ ?_
                                          rotate_left
                                          · intro w'
                                            go_simp
                                            with_reducible rfl
                                          rotate_left
                                          · simp only [Act.put, List.setIfInBounds_toArray, List.set_cons_zero, List.set_cons_succ, i64_w, i32_w]
                                            rfl
                                          refine pure_ (i := 38) (N := some 76) (v := ?_) (a' := ?_) #[true, true, true, true, true, true, true, true, true, true, true, true, true, true, true, true, true, true, true, true, true, true, true, true, true, true, true, true, true, true, true, true, true, true, true, true, true, true, true, false, false, false, false, false, false, false, false, false, false, false] rfl rfl (any_of HT_.out (by kernel_rfl)) (fun _ _ _ h => h) (Or.inl ⟨by rfl, ?_⟩) ?_ ?_
                                          rotate_left
                                          · intro w'
                                            go_simp
                                            with_reducible rfl
                                          rotate_left
                                          · simp only [Act.put, List.setIfInBounds_toArray, List.set_cons_zero, List.set_cons_succ, i64_w, i32_w]
                                            rfl
                                          refine pure_ (i := 39) (N := some 77) (v := ?_) (a' := ?_) #[true, true, true, true, true, true, true, true, true, true, true, true, true, true, true, true, true, true, true, true, true, true, true, true, true, true, true, true, true, true, true, true, true, true, true, true, true, true, true, true, false, false, false, false, false, false, false, false, false, false] rfl rfl (any_of HT_.out (by kernel_rfl)) (fun _ _ _ h => h) (Or.inl ⟨by rfl, ?_⟩) ?_ ?_
                                          rotate_left
                                          · intro w'
                                            go_simp
                                            with_reducible rfl
                                          rotate_left
                                          · simp only [Act.put, List.setIfInBounds_toArray, List.set_cons_zero, List.set_cons_succ, i64_w, i32_w]
                                            rfl
                                          refine pure_ (i := 40) (N := some 78) (v := ?_) (a' := ?_) #[true, true, true, true, true, true, true, true, true, true, true, true, true, true, true, true, true, true, true, true, true, true, true, true, true, true, true, true, true, true, true, true, true, true, true, true, true, true, true, true, true, false, false, false, false, false, false, false, false, false] rfl rfl (any_of HT_.out (by kernel_rfl)) (fun _ _ _ h => h) (Or.inl ⟨by rfl, ?_⟩) ?_ ?_
                                          rotate_left
                                          · intro w'
                                            go_simp
                                            with_reducible rfl
                                          rotate_left
                                          · simp only [Act.put, List.setIfInBounds_toArray, List.set_cons_zero, List.set_cons_succ, i64_w, i32_w]
                                            rfl
                                          refine pure_ (i := 41) (N := some 79) (v := ?_) (a' := ?_) #[true, true, true, true, true, true, true, true, true, true, true, true, true, true, true, true, true, true, true, true, true, true, true, true, true, true, true, true, true, true, true, true, true, true, true, true, true, true, true, true, true, true, false, false, false, false, false, false, false, false] rfl rfl (any_of HT_.out (by kernel_rfl)) (fun _ _ _ h => h) (Or.inl ⟨by rfl, ?_⟩) ?_ ?_
                                          rotate_left
                                          · intro w'
                                            go_simp
                                            with_reducible rfl
                                          rotate_left
                                          · simp only [Act.put, List.setIfInBounds_toArray, List.set_cons_zero, List.set_cons_succ, i64_w, i32_w]
                                            rfl
                                          refine pure_ (i := 42) (N := some 80) (v := ?_) (a' := ?_) #[true, true, true, true, true, true, true, true, true, true, true, true, true, true, true, true, true, true, true, true, true, true, true, true, true, true, true, true, true, true, true, true, true, true, true, true, true, true, true, true, true, true, true, false, false, false, false, false, false, false] rfl rfl (any_of HT_.out (by kernel_rfl)) (fun _ _ _ h => h) (Or.inl ⟨by rfl, ?_⟩) ?_ ?_
                                          rotate_left
                                          · intro w'
                                            go_simp
                                            with_reducible rfl
                                          rotate_left
                                          · simp only [Act.put, List.setIfInBounds_toArray, List.set_cons_zero, List.set_cons_succ, i64_w, i32_w]
                                            rfl
                                          refine pure_ (i := 43) (N := some 81) (v := ?_) (a' := ?_) #[true, true, true, true, true, true, true, true, true, true, true, true, true, true, true, true, true, true, true, true, true, true, true, true, true, true, true, true, true, true, true, true, true, true, true, true, true, true, true, true, true, true, true, true, false, false, false, false, false, false] rfl rfl (any_of HT_.out (by kernel_rfl)) (fun _ _ _ h => h) (Or.inl ⟨by rfl, ?_⟩) ?_ ?_
                                          rotate_left
                                          · intro w'
                                            go_simp
                                            with_reducible rfl
                                          rotate_left
                                          · simp only [Act.put, List.setIfInBounds_toArray, List.set_cons_zero, List.set_cons_succ, i64_w, i32_w]
                                            rfl
                                          refine pure_ (i := 44) (N := some 82) (v := ?_) (a' := ?_) #[true, true, true, true, true, true, true, true, true, true, true, true, true, true, true, true, true, true, true, true, true, true, true, true, true, true, true, true, true, true, true, true, true, true, true, true, true, true, true, true, true, true, true, true, true, false, false, false, false, false] rfl rfl (any_of HT_.out (by kernel_rfl)) (fun _ _ _ h => h) (Or.inl ⟨by rfl, ?_⟩) ?_ ?_
                                          rotate_left
                                          · intro w'
                                            go_simp
                                            with_reducible rfl
                                          rotate_left
                                          · simp only [Act.put, List.setIfInBounds_toArray, List.set_cons_zero, List.set_cons_succ, i64_w, i32_w]
                                            rfl
                                          refine pure_ (i := 45) (N := some 83) (v := ?_) (a' := ?_) #[true, true, true, true, true, true, true, true, true, true, true, true, true, true, true, true, true, true, true, true, true, true, true, true, true, true, true, true, true, true, true, true, true, true, true, true, true, true, true, true, true, true, true, true, true, true, false, false, false, false] rfl rfl (any_of HT_.out (by kernel_rfl)) (fun _ _ _ h => h) (Or.inl ⟨by rfl, ?_⟩) ?_ ?_
                                          rotate_left
                                          · intro w'
                                            go_simp
                                            with_reducible rfl
                                          rotate_left
                                          · simp only [Act.put, List.setIfInBounds_toArray, List.set_cons_zero, List.set_cons_succ, i64_w, i32_w]
                                            rfl
                                          refine pure_ (i := 46) (N := some 84) (v := ?_) (a' := ?_) #[true, true, true, true, true, true, true, true, true, true, true, true, true, true, true, true, true, true, true, true, true, true, true, true, true, true, true, true, true, true, true, true, true, true, true, true, true, true, true, true, true, true, true, true, true, true, true, false, false, false] rfl rfl (any_of HT_.out (by kernel_rfl)) (fun _ _ _ h => h) (Or.inl ⟨by rfl, ?_⟩) ?_ ?_
                                          rotate_left
                                          · intro w'
                                            go_simp
                                            with_reducible rfl
                                          rotate_left
                                          · simp only [Act.put, List.setIfInBounds_toArray, List.set_cons_zero, List.set_cons_succ, i64_w, i32_w]
                                            rfl
                                          refine one_ (i := 47) (N := some 85) #[true, true, true, true, true, true, true, true, true, true, true, true, true, true, true, true, true, true, true, true, true, true, true, true, true, true, true, true, true, true, true, true, true, true, true, true, true, true, true, true, true, true, true, true, true, true, true, true, false, false] rfl rfl (one_of HT_.out (by kernel_rfl)) (by decide) (fun K hK => ?_)
                                          refine goes_ Tryd.func13 (by kernel_rfl) rfl #[.string (((x0_.extract 0 ((ji75) : Int).toNat) ++ (⟨#[42]⟩ : ByteArray)) ++ (x0_.extract ((ji75) : Int).toNat x0_.size)), .string x0_] (by rfl) rfl rfl (by (try simp only [List.map_toArray, List.map_cons, List.map_nil]); first | done | (simp only [hji3, hji75]; rfl) | rfl | (simp only [List.length_drop, List.length_take]; rfl)) ?_
                                          with_reducible refine (glob_Match.calls (((x0_.extract 0 ((ji75) : Int).toNat) ++ (⟨#[42]⟩ : ByteArray)) ++ (x0_.extract ((ji75) : Int).toNat x0_.size)) x0_ true _ A92.out).mono ?_
                                          rintro e w100 ⟨rfl, hb⟩
                                          refine ⟨_, rfl, ?_⟩
                                          have n0_ := Aside0.mk (below_step (by repeat (first | (with_reducible first | exact HB.out | apply below_alloc | apply pw_below_drewN | apply below_drew1) | exact HB.out)) hb)
                                          clear HB
                                          have HB := n0_
                                          clear n0_
                                          (try clear hb)
                                          (try clear hb2)
                                          (try clear hk)
                                          (try clear hi)
                                          refine hK.out _ _ trivial (fun hHeld => ?_)
                                          clear hK K
                                          refine norm_ (a' := ?_) ?_ ?_
                                          rotate_left
                                          · show Act.put _ (some 85) _ = _
                                            simp only [Act.put, List.setIfInBounds_toArray, List.set_cons_zero, List.set_cons_succ, i64_w, i32_w]
                                            rfl
                                          refine pure_ (i := 48) (N := some 86) (v := ?_) (a' := ?_) #[true, true, true, true, true, true, true, true, true, true, true, true, true, true, true, true, true, true, true, true, true, true, true, true, true, true, true, true, true, true, true, true, true, true, true, true, true, true, true, true, true, true, true, true, true, true, true, true, true, false] rfl rfl (any_of HT_.out (by kernel_rfl)) (fun _ _ _ h => h) (Or.inl ⟨by rfl, ?_⟩) ?_ ?_
                                          rotate_left
                                          · intro w'
                                            go_simp
                                            with_reducible rfl
                                          rotate_left
                                          · simp only [Act.put, List.setIfInBounds_toArray, List.set_cons_zero, List.set_cons_succ, i64_w, i32_w]
                                            rfl
                                          refine pure_ (i := 49) (N := some 4) (v := ?_) (a' := ?_) #[true, true, true, true, true, true, true, true, true, true, true, true, true, true, true, true, true, true, true, true, true, true, true, true, true, true, true, true, true, true, true, true, true, true, true, true, true, true, true, true, true, true, true, true, true, true, true, true, true, true] rfl rfl (any_of HT_.out (by kernel_rfl)) (fun _ _ _ h => h) (Or.inl ⟨by rfl, ?_⟩) ?_ ?_
                                          rotate_left
                                          · intro w'
                                            go_simp
                                            with_reducible rfl
                                          rotate_left
                                          · simp only [Act.put, List.setIfInBounds_toArray, List.set_cons_zero, List.set_cons_succ, i64_w, i32_w]
                                            rfl
                                          refine done_ (done_of HT_.out (by kernel_rfl)) ?_
                                          try go_wp2
                                          go_ret
                                          exact ⟨by first | rfl | (simp [errW_none, errW_some] <;> rfl) | (simp only [← hji3, ← hji75]; first | rfl | (simp [errW_none, errW_some] <;> rfl)) | (simp [*, errW_none, errW_some] <;> rfl), by repeat (first | (with_reducible first | exact HB.out | apply below_alloc | apply pw_below_drewN | apply below_drew1) | exact HB.out)⟩
                                        · rw [if_neg c91] at H
                                          exact absurd H (by simp)
                                      · rw [if_neg c88] at H
                                        exact absurd H (by simp)
                                    · replace c85 := Bool.eq_false_iff.mpr c85
                                      subst c85
                                      have H1 : (some false) = some true := by rw [if_neg (show ¬ (false = true) by decide)] at H; exact H
                                      cases H1
                                  · rw [if_neg c83] at H
                                    exact absurd H (by simp)
                                · replace c80 := Bool.eq_false_iff.mpr c80
                                  subst c80
                                  have H1 : (some false) = some true := by rw [if_neg (show ¬ (false = true) by decide)] at H; exact H
                                  cases H1
                              · rw [if_neg c78] at H
                                exact absurd H (by simp)
                            · rw [if_neg c77] at H
                              exact absurd H (by simp)
                          · rw [if_neg c76] at H
                            exact absurd H (by simp)
                      · rw [if_neg c67] at H
                        exact absurd H (by simp)
                · rw [if_neg c23] at H
                  exact absurd H (by simp)
              · replace c22 := Bool.eq_false_iff.mpr c22
                subst c22
                have H1 : (some false) = some true := by rw [if_neg (show ¬ (false = true) by decide)] at H; exact H
                cases H1
    · rw [if_neg c5] at H
      exact absurd H (by simp)
  · rw [if_neg c4] at H
    exact absurd H (by simp)

/-- THE ONE PURE STATEMENT of imprimaturlaw13_GlobMarks: yours. -/
def imprimaturlaw13_GlobMarks.Pure : Prop := ∀ (a0 : ByteArray) (a1 : Int), a0.size ≤ 140737488351232 → (Lit.int .i64 a1).wf = true → ∃ k, imprimaturlaw13_GlobMarks.f k a0 a1 = some true
theorem imprimaturlaw13_GlobMarks.walk (P : imprimaturlaw13_GlobMarks.Pure) (a0 : ByteArray) (a1 : Int) (w : World) (w0 : a0.size ≤ 140737488351232) (w1 : (Lit.int .i64 a1).wf = true) :
    Calls Tryd.prog 5 #[.string a0, .int .i64 a1] w fun e w' => e = .returned (.bool true) ∧ Below w.heap.size w w' := by
  obtain ⟨k, h⟩ := P a0 a1 w0 w1
  refine (imprimaturlaw13_GlobMarks.calls k a0 a1 w h).mono ?_
  rintro e w' ⟨rfl, hd⟩
  exact ⟨rfl, hd⟩

end Go.Proofs.YteignlfpjmfleaaDoor.X
