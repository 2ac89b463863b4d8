import Derived.Test.YtjlmhndfpfgfkaaDoorX0
import Derived.Test.YtjlmhndfpfgfkaaDoorSha
import Derived.Test.YtjlmhndfpfgfkaaDoorBld
import Derived.Test.YtjlmhndfpfgfkaaDoorShelf
import Derived.Lib.Hide
import Derived.Outline
set_option linter.unusedVariables false
set_option linter.unusedSimpArgs false
namespace Go.Proofs.YtjlmhndfpfgfkaaDoor.E
open Go.RowKit Go.Proofs.YtjlmhndfpfgfkaaDoorW.PrintWords Go.Proofs.YtjlmhndfpfgfkaaDoorW.PrintLast Go.Proofs.YtjlmhndfpfgfkaaDoorW.PrintMore
attribute [local go_sem] max2_int min2_int max_two min_two
open S (mkB be num)

theorem take_snoc (s : ByteArray) (k : Nat) (h : k < s.size) : s.data.toList.take (k + 1) = s.data.toList.take k ++ [s[k]] := by
  rw [List.take_succ_eq_append_getElem (by simpa using h)]; rfl
theorem num_le (l : List UInt8) (k : Nat) (h : l.length ≤ k) : num l < 256 ^ k := Nat.lt_of_lt_of_le (S.num_lt l) (Nat.pow_le_pow_right (by omega) h)
theorem or_step (n c : Nat) (hn : n < 256 ^ 7) (hc : c < 256) : Go.bits .or .u64 ((n : Int) * 256) (c : Int) = ((256 * n + c : Nat) : Int) := by
  rw [show (n : Int) * 256 = ((n * 256 : Nat) : Int) from by omega, u64_or_nat _ _ (by omega) (by omega)]
  have := Nat.shiftLeft_add_eq_or_of_lt (show c < 2 ^ 8 from hc) n
  rw [Nat.shiftLeft_eq] at this
  rw [show n * 256 = n * 2 ^ 8 from rfl, ← this]
  congr 1; omega
theorem rr_eq (x n : Nat) (hx : x < 18446744073709551616) : Go.bits .or .u64 (IntKind.u64.wrap ((x : Int) * 2 ^ (64 - n))) ((x : Int) / 2 ^ n) = ((Sh.rr x n : Nat) : Int) := by
  have e1 : IntKind.u64.wrap ((x : Int) * 2 ^ (64 - n)) = (((x * 2 ^ (64 - n)) % 18446744073709551616 : Nat) : Int) := by
    simp [IntKind.wrap, IntKind.signed, IntKind.bits]
  have e2 : (x : Int) / 2 ^ n = ((x / 2 ^ n : Nat) : Int) := by simp
  rw [e1, e2, u64_or_nat _ _ (Nat.mod_lt _ (by omega)) (Nat.lt_of_le_of_lt (Nat.div_le_self _ _) hx)]
  rfl
set_option maxHeartbeats 1000000 in
set_option maxRecDepth 100000 in
theorem rot_any (x n : Nat) (w : World) (hx : x < 18446744073709551616) (h1 : 1 ≤ n) (h2 : n ≤ 63) :
    Calls Tryd.prog 37 #[.int .u64 x, .int .i64 (-(n : Int))] w fun e w' => e = .returned (.int .u64 ((Sh.rr x n : Nat) : Int)) ∧ w' = w := by
  have q1 : IntKind.u64.wrap (-(n : Int)) = 18446744073709551616 - (n : Int) := by simp [IntKind.wrap, IntKind.signed, IntKind.bits]; omega
  have q2 : bits .and .u64 (18446744073709551616 - (n : Int)) 63 = ((64 - n : Nat) : Int) := by
    rw [u64_and _ _ (by omega) (by omega) (by omega) (by omega)]
    have : (18446744073709551616 - (n : Int)).toNat = 18446744073709551616 - n := by omega
    rw [this, show (63 : Int).toNat = 2 ^ 6 - 1 from rfl, Nat.and_two_pow_sub_one_eq_mod]
    omega
  go_enter Tryd.func37, Tryd.ntmps37
  go_wp2
  go_ret
  refine ⟨?_, rfl⟩
  have := rr_eq x n hx
  rw [show 64 - (64 - n) = n from by omega, this]
  rfl

set_option maxHeartbeats 1000000 in
set_option maxRecDepth 100000 in
theorem read_any (s : ByteArray) (w : World) (hs : 8 ≤ s.size) :
    Calls Tryd.prog 39 #[.string s] w fun e w' => e = .returned (.int .u64 ((num (s.data.toList.take 8) : Nat) : Int)) ∧ w' = w := by
  go_enter Tryd.func39, Tryd.ntmps39
  go_wp2
  go_loop [3, 5] (fun n i => ∃ k : Nat, k ≤ 8 ∧ i = .int .i64 k ∧ n = .int .u64 ((num (s.data.toList.take k) : Nat) : Int)) (fun _ i => 8 - (intOf i).toNat)
  case atStart => exact ⟨0, by omega, rfl, rfl⟩
  case round =>
    obtain ⟨k, hk, rfl, rfl⟩ := hrel
    by_cases hlt : k < 8
    · have hts : s.data.toList.take (k + 1) = s.data.toList.take k ++ [s[k]] := take_snoc s k (by omega)
      have hn := num_le (s.data.toList.take k) 7 (Nat.le_trans (List.length_take_le _ _) (by omega))
      have hc : s[k].toNat < 256 := s[k].toNat_lt
      have ho := or_step (num (s.data.toList.take k)) s[k].toNat hn hc
      have HS := Lib.hid hts
      clear hts
      generalize hm : num (s.data.toList.take k) = m at *
      have HM := Lib.hid hm
      clear hm
      have b1 : k < s.size := by omega
      go_wp2
      go_round
      case rel => exact ⟨k + 1, by omega, by go_num, by rw [HS.out, S.num_snoc, HM.out]; rfl⟩
      case measure => simp [intOf]; omega
    · obtain rfl : k = 8 := by omega
      go_wp2
      go_ret
      exact ⟨rfl, rfl⟩
def wv (l : List Nat) : List Value := l.map fun x => Value.int .u64 ((x : Nat) : Int)
end Go.Proofs.YtjlmhndfpfgfkaaDoor.E
