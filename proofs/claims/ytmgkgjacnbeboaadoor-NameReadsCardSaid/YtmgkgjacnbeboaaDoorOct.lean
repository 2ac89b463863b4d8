/- octet.Hex: the digits of any text. -/
import Derived.Test.YtmgkgjacnbeboaaDoorX0
import Derived.Test.YtmgkgjacnbeboaaDoorSpec
import Derived.Test.YtmgkgjacnbeboaaDoorBld
import Derived.Test.YtmgkgjacnbeboaaDoorShelf
import Derived.Lib.Hide
set_option linter.unusedVariables false
set_option linter.unusedSimpArgs false
namespace Go.Proofs.YtmgkgjacnbeboaaDoor.E
open Go.RowKit Go.Proofs.YtmgkgjacnbeboaaDoorW.PrintWords Go.Proofs.YtmgkgjacnbeboaaDoorW.PrintLast Go.Proofs.YtmgkgjacnbeboaaDoorW.PrintMore
attribute [local go_sem] max2_int min2_int max_two min_two
open S (mkB be)

theorem hexs_snoc (l : List UInt8) (c : UInt8) : S.hexs (l ++ [c]) = S.hexs l ++ S.hex1 c := by simp [S.hexs]
theorem take_snoc (s : ByteArray) (k : Nat) (h : k < s.size) : s.data.toList.take (k + 1) = s.data.toList.take k ++ [s[k]] := by
  rw [List.take_succ_eq_append_getElem (by simpa using h)]; rfl
theorem byteCells_snoc1 (l : List UInt8) (x : UInt8) : Lib.byteCells l ++ [Value.int .u8 (x.toNat : Int)] = Lib.byteCells (l ++ [x]) := by
  simp [Lib.byteCells]
theorem dig_at (n : Nat) (h : n < 16) (h' : n < (⟨#[48, 49, 50, 51, 52, 53, 54, 55, 56, 57, 97, 98, 99, 100, 101, 102]⟩ : ByteArray).size) : (⟨#[48, 49, 50, 51, 52, 53, 54, 55, 56, 57, 97, 98, 99, 100, 101, 102]⟩ : ByteArray)[n] = S.digs.getD n 0 := by
  revert h'
  revert n
  decide

set_option maxHeartbeats 1000000 in
set_option maxRecDepth 100000 in
theorem hex_any (s : ByteArray) (w : World) (hs : 2 * s.size ≤ 140737488355328) :
    Calls Tryd.prog 19 #[.string s] w fun e w' => e = .returned (.string ⟨(S.hexs s.data.toList).toArray⟩) ∧ Below w.heap.size w w' := by
  go_enter Tryd.func19, Tryd.ntmps19
  go_wp2
  go_loopw [7] (fun i wr => ∃ k : Nat, k ≤ s.size ∧ i = .int .i64 k ∧ Lib.IsBuilder 60 5 w.heap.size w.heap.size (Lib.byteCells (S.hexs (s.data.toList.take k))) wr ∧ Below w.heap.size w wr) (fun i _ => s.size - (intOf i).toNat)
  case atStart => exact ⟨0, Nat.zero_le _, rfl, Lib.fresh_isBuilder 60 5 w, (Below.refl _ _).alloc (Nat.le_refl _) _⟩
  case round =>
    obtain ⟨k, hk, rfl, hB, hb⟩ := hrel
    have hL := S.hexs_length (s.data.toList.take k)
    have hT : (s.data.toList.take k).length ≤ k := List.length_take_le _ _
    by_cases hlt : k < s.size
    · have h8 : s[k].toNat < 256 := s[k].toNat_lt
      have e1 := dig_at (s[k].toNat / 16) (by omega)
      have e2 := dig_at (s[k].toNat % 16) (by omega)
      have e3 := u8_and15 (x := (s[k].toNat : Int)) (by omega) (by omega)
      have p1 : (0 : Int) ≤ ↑s[k].toNat / 16 ∧ (↑s[k].toNat / 16 : Int) < 16 := by omega
      have p2 : (0 : Int) ≤ ↑s[k].toNat % 16 ∧ (↑s[k].toNat % 16 : Int) < 16 := by omega
      have hz := hb.size
      go_wp2_with fail
      refine (B.WriteByte _ _ _ _ _ hB (by rw [Lib.byteCells_length]; omega) hz).mono ?_
      rintro e w1 ⟨rfl, h1, b1⟩
      have h1' : Lib.IsBuilder 60 5 w.heap.size w.heap.size (Lib.byteCells (S.hexs (s.data.toList.take k) ++ [S.digs.getD (s[k].toNat / 16) 0])) w1 := by
        rw [← byteCells_snoc1]; exact .inr h1
      clear h1
      have hb1 : Below w.heap.size w w1 := hb.trans b1
      have hz1 := hb1.size
      go_wp2_with fail
      refine (B.WriteByte _ _ _ _ _ h1' (by rw [Lib.byteCells_length, List.length_append]; simp; omega) hz1).mono ?_
      rintro e w2 ⟨rfl, h2, b2⟩
      have h2' : Lib.IsBuilder 60 5 w.heap.size w.heap.size (Lib.byteCells (S.hexs (s.data.toList.take (k + 1)))) w2 := by
        rw [take_snoc s k hlt, hexs_snoc]
        refine .inr ?_
        rw [byteCells_snoc1, List.append_assoc] at h2
        exact h2
      clear h2 h1'
      go_wp2
      go_roundw
      case rel => exact ⟨k + 1, by omega, by go_num, h2', hb1.trans b2⟩
      case measure => simp [intOf]; omega
    · have hz := hb.size
      go_wp2_with fail
      refine (Tryd.Builder_String_any _ _ _ _ hB hz).mono ?_
      rintro e w1 ⟨rfl, b1⟩
      go_wp2
      go_ret
      have e5 : s.data.toList.take k = s.data.toList := List.take_of_length_le (by have : s.data.toList.length = s.size := by simp
                                                                                   omega)
      rw [e5]
      exact ⟨rfl, hb.trans b1⟩
end Go.Proofs.YtmgkgjacnbeboaaDoor.E
