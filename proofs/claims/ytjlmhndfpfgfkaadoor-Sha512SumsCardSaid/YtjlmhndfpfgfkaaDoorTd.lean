import Derived.Test.YtjlmhndfpfgfkaaDoorT9
import Derived.Test.YtjlmhndfpfgfkaaDoorWMore
import Derived.Deep.DeepCutAuto
import Derived.Deep.CutBlock
import Derived.Deep.RegionWith
set_option linter.unusedVariables false
set_option linter.unusedSimpArgs false
namespace Go.Proofs.YtjlmhndfpfgfkaaDoor.E
open Go.RowKit Go.Proofs.YtjlmhndfpfgfkaaDoorW.PrintWords Go.Proofs.YtjlmhndfpfgfkaaDoorW.PrintLast Go.Proofs.YtjlmhndfpfgfkaaDoorW.PrintMore
attribute [local go_sem] max2_int min2_int max_two min_two
open S (mkB be num)
theorem pow_lt64 (k : Nat) (h : k ≤ 63) : 2 ^ k < 18446744073709551616 ∧ 2 ^ k ≤ 9223372036854775808 ∧ 0 < 2 ^ k := by
  have h1 : 2 ^ k ≤ 2 ^ 63 := Nat.pow_le_pow_right (by decide) h
  have h2 : (2 : Nat) ^ 63 = 9223372036854775808 := by decide
  have h3 : 0 < 2 ^ k := Nat.pow_pos (by decide)
  omega
theorem rr_add (x n : Nat) (hx : x < 18446744073709551616) (h1 : 1 ≤ n) (h2 : n ≤ 63) : Sh.rr x n = x / 2 ^ n + (x % 2 ^ n) * 2 ^ (64 - n) := by
  have e : 2 ^ n * 2 ^ (64 - n) = 18446744073709551616 := by
    rw [← Nat.pow_add, show n + (64 - n) = 64 from by omega]
  have hq : x / 2 ^ n < 2 ^ (64 - n) := by
    rw [Nat.div_lt_iff_lt_mul (Nat.pow_pos (by decide)), Nat.mul_comm, e]; exact hx
  have hm : (x * 2 ^ (64 - n)) % 18446744073709551616 = (x % 2 ^ n) * 2 ^ (64 - n) := by
    rw [← e, Nat.mul_mod_mul_right]
  unfold Sh.rr
  rw [hm]
  have := Nat.shiftLeft_add_eq_or_of_lt hq (x % 2 ^ n)
  rw [Nat.shiftLeft_eq] at this
  rw [← this]
  exact Nat.add_comm _ _
def p2 (k : Nat) : Nat := 2 ^ k
def dv (x k : Nat) : Nat := x / 2 ^ k
theorem p2_b (k : Nat) (h : k ≤ 63) : p2 k < 18446744073709551616 ∧ p2 k ≤ 9223372036854775808 ∧ 0 < p2 k := pow_lt64 k h
theorem p2_s (k : Nat) : p2 (k + 1) = 2 * p2 k := by unfold p2; rw [Nat.pow_succ]; omega
theorem dv_b (x k : Nat) (h : x < 18446744073709551616) : dv x k < 18446744073709551616 := Sh.div_lt x _ h
theorem dv_s (x k : Nat) : dv x (k + 1) = dv x k / 2 := by unfold dv; rw [Nat.pow_succ, Nat.div_div_eq_div_mul]
attribute [local irreducible] p2 dv
set_option maxHeartbeats 1000000 in
set_option maxRecDepth 100000 in
theorem move_any (x n : Nat) (w : World) (hx : x < 18446744073709551616) (h2 : n ≤ 63) :
    Calls Tryd.prog 35 #[.int .u64 x, .int .i64 n] w fun e w' => e = .returned (.int .u64 (dv x n : Nat)) ∧ w' = w := by
  go_enter Tryd.func35, Tryd.ntmps35
  go_wp2
  go_loop [0, 5] (fun v i => ∃ k : Nat, k ≤ n ∧ i = .int .i64 k ∧ v = .int .u64 (dv x k : Nat)) (fun _ i => n - (intOf i).toNat)
  case atStart => exact ⟨0, Nat.zero_le _, rfl, by unfold dv; simp⟩
  case round =>
    obtain ⟨k, hk, rfl, rfl⟩ := hrel
    have hd := dv_b x k hx
    by_cases hlt : k < n
    · have HS := Lib.hid (dv_s x k)
      generalize dv x k = y at *
      go_wp2
      go_round
      case rel => exact ⟨k + 1, by omega, by go_num, by rw [HS.out]; rfl⟩
      case measure => simp [intOf]; omega
    · obtain rfl : k = n := by omega
      go_wp2
      go_ret
      exact ⟨rfl, rfl⟩
set_option maxHeartbeats 1000000 in
set_option maxRecDepth 100000 in
theorem turn_any (x n : Nat) (w : World) (hx : x < 18446744073709551616) (h1 : 1 ≤ n) (h2 : n ≤ 63) :
    Calls Tryd.prog 34 #[.int .u64 x, .int .i64 n] w fun e w' => e = .returned (.int .u64 ((Sh.rr x n : Nat) : Int)) ∧ ∃ m, w' = w.drewN m := by
  have hrr : Sh.rr x n = x / p2 n + (x % p2 n) * p2 (64 - n) := by unfold p2; exact rr_add x n hx h1 h2
  have hrl := Sh.rr_lt x n hx
  have hp := p2_b n h2
  generalize Sh.rr x n = r at *
  have HR := Lib.hid hrr
  clear hrr
  go_enter Tryd.func34, Tryd.ntmps34
  go_wp2_with fail
  go_loop [5, 6] (fun v i => ∃ k : Nat, k ≤ n ∧ i = .int .i64 k ∧ v = .int .u64 (p2 k : Nat)) (fun _ i => n - (intOf i).toNat)
  case atStart => exact ⟨0, Nat.zero_le _, rfl, by unfold p2; rfl⟩
  case round =>
    obtain ⟨k, hk, rfl, rfl⟩ := hrel
    by_cases hlt : k < n
    · have hb := p2_b k (by omega)
      have hb1 := p2_b (k + 1) (by omega)
      rw [p2_s] at hb1
      have HS := Lib.hid (p2_s k)
      generalize p2 k = y at *
      go_wp2
      go_round
      case rel => exact ⟨k + 1, by omega, by go_num, by rw [HS.out]; go_num⟩
      case measure => simp [intOf]; omega
    · obtain rfl : k = n := by omega
      go_wp2_with fail
      go_loop [7, 8] (fun v i => ∃ j : Nat, k ≤ j ∧ j ≤ 64 ∧ i = .int .i64 j ∧ v = .int .u64 (p2 (j - k) : Nat)) (fun _ i => 64 - (intOf i).toNat)
      case atStart => exact ⟨k, Nat.le_refl _, by omega, rfl, by rw [Nat.sub_self]; unfold p2; rfl⟩
      case round =>
        obtain ⟨j, hj, hj2, rfl, rfl⟩ := hrel
        by_cases hlt2 : j < 64
        · have hb := p2_b (j - k) (by omega)
          have hb1 := p2_b (j + 1 - k) (by omega)
          have hs := p2_s (j - k)
          rw [show j - k + 1 = j + 1 - k from by omega] at hs
          rw [hs] at hb1
          have HS := Lib.hid hs
          clear hs
          generalize p2 (j - k) = y at *
          go_wp2
          go_round
          case rel => exact ⟨j + 1, by omega, by omega, by go_num, by rw [HS.out]; go_num⟩
          case measure => simp [intOf]; omega
        · obtain rfl : j = 64 := by omega
          have hb := p2_b (64 - k) (by omega)
          generalize p2 (64 - k) = q at *
          generalize p2 k = p at *
          have hm := Nat.mod_lt x hp.2.2
          have hd : x / p < 18446744073709551616 := Sh.div_lt x _ hx
          have hE : IntKind.u64.wrap (IntKind.u64.wrap ((x : Int) / (p : Int)) + IntKind.u64.wrap ((x : Int) % (p : Int) * (q : Int))) = (r : Int) := by
            have hr := HR.out
            rw [show (x : Int) / (p : Int) = ((x / p : Nat) : Int) from by simp, show (x : Int) % (p : Int) * (q : Int) = ((x % p * q : Nat) : Int) from by simp]
            generalize x / p = A at *
            generalize x % p * q = B at *
            rw [S.u64_id (x := (A : Int)) (by omega) (by omega), S.u64_id (x := (B : Int)) (by omega) (by omega), S.u64_id (by omega) (by omega)]
            omega
          have HE := Lib.hid hE
          clear hE
          go_wp2_with fail
          go_quiet (fail)
          rw [HE.out]
          go_wp2_with fail
          go_ret
          exact ⟨rfl, _, rfl⟩
end Go.Proofs.YtjlmhndfpfgfkaaDoor.E
