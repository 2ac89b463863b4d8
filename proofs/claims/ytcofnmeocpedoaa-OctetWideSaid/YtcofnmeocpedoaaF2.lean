/- The walk of OctetWide. -/
import Derived.Test.YtcofnmeocpedoaaF
set_option linter.unusedVariables false
set_option linter.unusedSimpArgs false
namespace Go.Proofs.Ytcofnmeocpedoaa.F
open Go.RowKit Go.Proofs.YtcofnmeocpedoaaW.PrintWords Go.Proofs.YtcofnmeocpedoaaW.PrintLast Go.Proofs.YtcofnmeocpedoaaW.PrintMore
attribute [local go_sem] max2_int min2_int max_two min_two
open S X E D

theorem shr_fits (n k : Nat) : ((n : Int) / 2 ^ (8 * k) == 0) = decide (n / 256 ^ k = 0) := by
  have e : (2 : Nat) ^ (8 * k) = 256 ^ k := by rw [Nat.pow_mul]
  have : (n : Int) / 2 ^ (8 * k) = ((n / 2 ^ (8 * k) : Nat) : Int) := by simp
  rw [this, e, Bool.eq_iff_iff, beq_iff_eq, decide_eq_true_iff]; omega

set_option maxHeartbeats 4000000 in
set_option maxRecDepth 100000 in
theorem wide_walk (n : Nat) (hn : n < 18446744073709551616) (s0 s : ByteArray) (w : World) (n0 : Nat) (hs : s.size ≤ 200) (hcut : (if (200 : Int) < (s0.size : Int) then (200 : Int) else (s0.size : Int)) = (n0 : Int)) (hn0 : n0 ≤ s0.size) (hex : s0.extract 0 n0 = s) :
    Calls Try.prog 4 #[.int .u64 n, .string s0] w fun e w' => e = .returned (.bool true) ∧ Below w.heap.size w w' := by
  go_enter Try.func4, Try.ntmps4
  go_wp2
  go_loopw [16] (fun i wr => ∃ k : Nat, k ≤ 9 ∧ i = .int .i64 k ∧ Aside0 (Below w.heap.size w wr)) (fun i _ => 9 - (intOf i).toNat)
  case atStart => exact ⟨0, Nat.zero_le _, rfl, ⟨Below.refl _ _⟩⟩
  case round =>
    obtain ⟨k, hk, rfl, HB⟩ := hrel
    by_cases hlt : k < 9
    · by_cases hf : n / 256 ^ k = 0
      · have B1 := fun w => big_ok n k w hn (by omega) hf
        have hbs : (mkB (be k n)).size = k := by rw [mkB_size, be_length]
        have N1 := fun w => number_short (mkB (be k n)) w (by omega)
        rw [mkB_list, num_be k n (by rcases Nat.eq_zero_or_pos (256 ^ k) with h | h
                                     · exact absurd h (by have := Nat.pow_pos (n := k) (show 0 < 256 by omega); omega)
                                     · exact (Nat.div_eq_zero_iff_lt h).1 hf)] at N1
        generalize mkB (be k n) = b at *
        have hsh := shr_fits n k
        rw [decide_eq_true hf] at hsh
        clear hf
        by_cases h8 : 8 ≤ k
        all_goals
          go_wp2_with (first | ((go_at_call 9; with_reducible refine (B1 _).mono ?_); rintro e w' ⟨rfl, hb⟩; have HBn := Aside0.mk (below_step HB.out hb); clear HB hb; have HB := HBn; clear HBn) | ((go_at_call 10; with_reducible refine (N1 _).mono ?_); rintro e w' ⟨rfl, hb⟩; have HBn := Aside0.mk (below_step HB.out hb); clear HB hb; have HB := HBn; clear HBn))
          go_roundw
          case rel => exact ⟨k + 1, by omega, by go_num, HB⟩
          case measure => simp [intOf]; omega
      · have hk8 : k < 8 := by
          have : k ≠ 8 := by
            intro e
            subst e
            exact hf (Nat.div_eq_of_lt (by omega))
          omega
        have B1 : ∀ w, Calls Try.prog 9 #[.int .u64 n, .int .i64 k] w fun e w' => e = .returned (.tuple #[.string (⟨#[]⟩ : ByteArray), .int .i64 1]) ∧ Below w.heap.size w w' := fun w => big_over n k w hn hk8 hf
        have N1 := fun w => number_short (⟨#[]⟩ : ByteArray) w (by decide)
        have hsh := shr_fits n k
        rw [decide_eq_false hf] at hsh
        clear hf
        go_wp2_with (first | ((go_at_call 9; with_reducible refine (B1 _).mono ?_); rintro e w' ⟨rfl, hb⟩; have HBn := Aside0.mk (below_step HB.out hb); clear HB hb; have HB := HBn; clear HBn) | ((go_at_call 10; with_reducible refine (N1 _).mono ?_); rintro e w' ⟨rfl, hb⟩; have HBn := Aside0.mk (below_step HB.out hb); clear HB hb; have HB := HBn; clear HBn))
        go_roundw
        case rel => exact ⟨k + 1, by omega, by go_num, HB⟩
        case measure => simp [intOf]; omega
    · have hx : (mkB (hexs s.data.toList)).size = 2 * s.size := by rw [mkB_size, hexs_length, size_list]
      have hss : (s ++ s).size = s.size + s.size := by simp
      have H1 := fun w => hex_c s w (by omega)
      have H2 := fun w => hex_c (s ++ s) w (by omega)
      have e2 : mkB (hexs (s ++ s).data.toList) = mkB (hexs s.data.toList) ++ mkB (hexs s.data.toList) := by
        rw [mkB_append, ← hexs_append]; simp
      rw [e2] at H2
      clear e2
      generalize mkB (hexs s.data.toList) = h at *
      go_wp2_with (first | ((go_at_call 14; with_reducible refine (alive_c _).mono ?_); rintro e w' ⟨rfl, hb⟩; have HBn := Aside0.mk (below_step HB.out hb); clear HB hb; have HB := HBn; clear HBn) | ((go_at_call 12; with_reducible refine (H1 _).mono ?_); rintro e w' ⟨rfl, hb⟩; have HBn := Aside0.mk (below_step HB.out hb); clear HB hb; have HB := HBn; clear HBn) | ((go_at_call 12; with_reducible refine (H2 _).mono ?_); rintro e w' ⟨rfl, hb⟩; have HBn := Aside0.mk (below_step HB.out hb); clear HB hb; have HB := HBn; clear HBn))
      go_ret
      exact ⟨rfl, HB.out⟩
end Go.Proofs.Ytcofnmeocpedoaa.F
