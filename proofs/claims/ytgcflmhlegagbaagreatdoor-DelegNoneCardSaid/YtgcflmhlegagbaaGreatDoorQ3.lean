/- merged texts: S1 S2 S3 S4 S5 S8 -/
import Derived.Test.YtgcflmhlegagbaaGreatDoorQv
import Derived.Test.YtgcflmhlegagbaaGreatDoorQ1
import Derived.Test.YtgcflmhlegagbaaGreatDoorQ0
import Derived.Lib.Hide
import Derived.Outline
import Derived.Deep.QuietTactic
import Derived.BigQuiet
import Derived.BigRegion
import Derived.Laws.Rows
import Derived.Laws.Tables
import Derived.Deep.MidRow
section
set_option linter.unusedVariables false
set_option linter.unusedSimpArgs false
namespace Go.Proofs.YtgcflmhlegagbaaGreatDoor.K
open Go.RowKit Go.Proofs.YtgcflmhlegagbaaGreatDoorW.PrintWords Go.Proofs.YtgcflmhlegagbaaGreatDoorW.PrintLast Go.Proofs.YtgcflmhlegagbaaGreatDoorW.PrintMore
attribute [local go_sem] max2_int min2_int max_two min_two
open S (mkB be num)
theorem take_snoc (s : ByteArray) (k : Nat) (h : k < s.size) : s.data.toList.take (k + 1) = s.data.toList.take k ++ [s[k]] := by
  rw [List.take_succ_eq_append_getElem (by simpa using h)]; rfl
theorem num_le (l : List UInt8) (k : Nat) (h : l.length ≤ k) : num l < 256 ^ k := Nat.lt_of_lt_of_le (S.num_lt l) (Nat.pow_le_pow_right (by omega) h)
theorem or_step (n c : Nat) (hn : n < 256 ^ 3) (hc : c < 256) : Go.bits .or .u32 ((n : Int) * 256) (c : Int) = ((256 * n + c : Nat) : Int) := by
  rw [show (n : Int) * 256 = ((n * 256 : Nat) : Int) from by omega, u32_or_nat _ _ (by omega) (by omega)]
  have := Nat.shiftLeft_add_eq_or_of_lt (show c < 2 ^ 8 from hc) n
  rw [Nat.shiftLeft_eq] at this
  rw [show n * 256 = n * 2 ^ 8 from rfl, ← this]
  congr 1; omega
theorem rr_eq (x n : Nat) (hx : x < 4294967296) : Go.bits .or .u32 (IntKind.u32.wrap ((x : Int) * 2 ^ (32 - n))) ((x : Int) / 2 ^ n) = ((Sh.rr x n : Nat) : Int) := by
  have e1 : IntKind.u32.wrap ((x : Int) * 2 ^ (32 - n)) = (((x * 2 ^ (32 - n)) % 4294967296 : Nat) : Int) := by
    simp [IntKind.wrap, IntKind.signed, IntKind.bits]
  have e2 : (x : Int) / 2 ^ n = ((x / 2 ^ n : Nat) : Int) := by simp
  rw [e1, e2, u32_or_nat _ _ (Nat.mod_lt _ (by omega)) (Nat.lt_of_le_of_lt (Nat.div_le_self _ _) hx)]
  rfl
set_option maxHeartbeats 1000000 in
set_option maxRecDepth 100000 in
theorem rot_any (x n : Nat) (w : World) (hx : x < 4294967296) (h1 : 1 ≤ n) (h2 : n ≤ 31) :
    Calls Tryz.prog 143 #[.int .u32 x, .int .i64 (-(n : Int))] w fun e w' => e = .returned (.int .u32 ((Sh.rr x n : Nat) : Int)) ∧ w' = w := by
  have q1 : IntKind.u64.wrap (-(n : Int)) = 18446744073709551616 - (n : Int) := by simp [IntKind.wrap, IntKind.signed, IntKind.bits]; omega
  have q2 : bits .and .u64 (18446744073709551616 - (n : Int)) 31 = ((32 - n : Nat) : Int) := by
    rw [u64_and _ _ (by omega) (by omega) (by omega) (by omega)]
    have : (18446744073709551616 - (n : Int)).toNat = 18446744073709551616 - n := by omega
    rw [this, show (31 : Int).toNat = 2 ^ 5 - 1 from rfl, Nat.and_two_pow_sub_one_eq_mod]
    omega
  go_enter Tryz.func143, Tryz.ntmps143
  go_wp2
  go_ret
  refine ⟨?_, rfl⟩
  have := rr_eq x n hx
  rw [show IntKind.u32.wrap ((x : Int) * 2 ^ (32 - n)) = (x : Int) * 2 ^ (32 - n) % 4294967296 from by simp [IntKind.wrap, IntKind.signed, IntKind.bits]] at this
  rw [show 32 - (32 - n) = n from by omega, this]
  rfl
set_option maxHeartbeats 1000000 in
set_option maxRecDepth 100000 in
theorem read_any (s : ByteArray) (w : World) (hs : 4 ≤ s.size) :
    Calls Tryz.prog 149 #[.string s] w fun e w' => e = .returned (.int .u32 ((num (s.data.toList.take 4) : Nat) : Int)) ∧ w' = w := by
  go_enter Tryz.func149, Tryz.ntmps149
  go_wp2
  go_loop [3, 5] (fun n i => ∃ k : Nat, k ≤ 4 ∧ i = .int .i64 k ∧ n = .int .u32 ((num (s.data.toList.take k) : Nat) : Int)) (fun _ i => 4 - (intOf i).toNat)
  case atStart => exact ⟨0, by omega, rfl, rfl⟩
  case round =>
    obtain ⟨k, hk, rfl, rfl⟩ := hrel
    by_cases hlt : k < 4
    · have hts : s.data.toList.take (k + 1) = s.data.toList.take k ++ [s[k]] := take_snoc s k (by omega)
      have hn := num_le (s.data.toList.take k) 3 (Nat.le_trans (List.length_take_le _ _) (by omega))
      have hc : s[k].toNat < 256 := s[k].toNat_lt
      have ho := or_step (num (s.data.toList.take k)) s[k].toNat hn hc
      have HS := Lib.hid hts
      clear hts
      generalize hm : num (s.data.toList.take k) = m at *
      have HM := Lib.hid hm
      clear hm
      have b1 : k < s.size := by omega
      go_wp2
      go_round
      case rel => exact ⟨k + 1, by omega, by go_num, by rw [HS.out, S.num_snoc, HM.out]; rfl⟩
      case measure => simp [intOf]; omega
    · obtain rfl : k = 4 := by omega
      go_wp2
      go_ret
      exact ⟨rfl, rfl⟩
def wv (l : List Nat) : List Value := l.map fun x => Value.int .u32 ((x : Nat) : Int)
end Go.Proofs.YtgcflmhlegagbaaGreatDoor.K
end
section
set_option linter.unusedVariables false
set_option linter.unusedSimpArgs false
namespace Go.Proofs.YtgcflmhlegagbaaGreatDoor.K
open Go.RowKit Go.Proofs.YtgcflmhlegagbaaGreatDoorW.PrintWords Go.Proofs.YtgcflmhlegagbaaGreatDoorW.PrintLast Go.Proofs.YtgcflmhlegagbaaGreatDoorW.PrintMore
attribute [local go_sem] max2_int min2_int max_two min_two
open S (mkB be num)
attribute [local irreducible] Sh.sched Sh.rr Sh.ad Sh.sg0 Sh.sg1 S.num
def Z64 : Array Value := Array.replicate 64 (.int .u32 0)
theorem extract_dat (s : ByteArray) (i : Nat) : (s.extract i s.size).data.toList = s.data.toList.drop i := by
  simp
  rw [List.take_of_length_le (by simp)]
theorem set_upto {C : Array Value} {L : List Nat} {t n : Nat} (hC : C.size = n) (hV : ∀ j, j < t → C[j]? = some (Value.int .u32 (L.getD j 0 : Nat))) (h : t < n) :
    ∀ j, j < t + 1 → (C.setIfInBounds t (.int .u32 (L.getD t 0 : Nat)))[j]? = some (Value.int .u32 (L.getD j 0 : Nat)) := by
  intro j hj
  rw [Array.getElem?_setIfInBounds]
  by_cases e : t = j
  · subst e; rw [if_pos rfl, if_pos (by omega)]
  · rw [if_neg e]; exact hV j (by omega)
theorem all_one {C : Array Value} {L : List Nat} {t : Nat} (hV : ∀ j, j < t → C[j]? = some (Value.int .u32 (L.getD j 0 : Nat))) (h : C.size ≤ t) : C.all (·.oneCell') = true := by
  rw [Array.all_eq_true]
  intro i hi
  have := hV i (by omega)
  rw [Array.getElem?_eq_getElem hi] at this
  rw [Option.some.inj this]
  rfl
theorem arr_eq {C : Array Value} {L : List Nat} {n : Nat} (hC : C.size = n) (hL : L.length = n) (hV : ∀ j, j < n → C[j]? = some (Value.int .u32 (L.getD j 0 : Nat))) : C = (wv L).toArray := by
  apply Array.ext_getElem?
  intro j
  by_cases h : j < n
  · rw [hV j h]
    simp [wv]
    rw [List.getElem?_eq_getElem (by omega)]
    simp
  · rw [Array.getElem?_eq_none (by omega), Array.getElem?_eq_none (by simp [wv]; omega)]
theorem below_setRow {B : Nat} {a w : World} (h : Below B a w) {g : Nat} (hg : B ≤ g) (cs : Array Value) : Below B a (w.setRow g cs) :=
  ⟨h.os, h.tape, h.output, by rw [setRow_size]; exact h.size, fun k hk => (setRow_other w g k cs (by omega)).trans (h.block k hk)⟩
theorem drewN_below {B : Nat} {a w : World} (h : Below B a w) (n : Nat) : Below B a (w.drewN n) := h.trans ⟨rfl, rfl, rfl, Nat.le_refl _, fun _ _ => rfl⟩
theorem ad_eq (a b : Nat) : ((a : Int) + (b : Int)) % 4294967296 = ((Sh.ad a b : Nat) : Int) := by
  unfold Sh.ad
  simp
theorem ad4_eq (a b c d : Nat) : ((a : Int) + (b : Int) + (c : Int) + (d : Int)) % 4294967296 = ((Sh.ad (Sh.ad (Sh.ad a b) c) d : Nat) : Int) := by
  unfold Sh.ad
  omega
theorem xor_eq (a b : Nat) (ha : a < 4294967296) (hb : b < 4294967296) : bits .xor .u32 (a : Int) (b : Int) = ((a ^^^ b : Nat) : Int) := u32_xor_nat a b ha hb
theorem sg0_eq (a : Nat) (h : a < 4294967296) : bits .xor .u32 (bits .xor .u32 (Sh.rr a 7 : Nat) (Sh.rr a 18 : Nat)) ((a : Int) / 8) = ((Sh.sg0 a : Nat) : Int) := by
  rw [xor_eq _ _ (Sh.rr_lt a 7 h) (Sh.rr_lt a 18 h), show (a : Int) / 8 = ((a / 2 ^ 3 : Nat) : Int) from by simp, xor_eq _ _ (Sh.xor_lt _ _ (Sh.rr_lt a 7 h) (Sh.rr_lt a 18 h)) (Sh.div_lt a _ h)]
  unfold Sh.sg0; rfl
theorem sg1_eq (a : Nat) (h : a < 4294967296) : bits .xor .u32 (bits .xor .u32 (Sh.rr a 17 : Nat) (Sh.rr a 19 : Nat)) ((a : Int) / 1024) = ((Sh.sg1 a : Nat) : Int) := by
  rw [xor_eq _ _ (Sh.rr_lt a 17 h) (Sh.rr_lt a 19 h), show (a : Int) / 1024 = ((a / 2 ^ 10 : Nat) : Int) from by simp, xor_eq _ _ (Sh.xor_lt _ _ (Sh.rr_lt a 17 h) (Sh.rr_lt a 19 h)) (Sh.div_lt a _ h)]
  unfold Sh.sg1; rfl
set_option maxHeartbeats 1000000 in
set_option maxRecDepth 100000 in
theorem spread_any (s : ByteArray) (w : World) (hs : 64 ≤ s.size) :
    Calls Tryz.prog 142 #[.string s] w fun e w' => e = .returned (.agg (wv (Sh.sched (s.data.toList.take 64))).toArray) ∧ Below w.heap.size w w' := by
  have hz : ∀ W, (zeroValue 176).run Tryz.prog W = .ok (.agg Z64) W := fun W => by kernel_rfl
  go_enter Tryz.func142, Tryz.ntmps142
  go_wp2
  have hL := Sh.sched_length (s.data.toList.take 64)
  generalize hLL : Sh.sched (s.data.toList.take 64) = L at *
  have HLL := Lib.hid hLL
  clear hLL
  go_loopw [9] (fun i wr => ∃ (t : Nat) (C : Array Value), t ≤ 64 ∧ i = .int .i64 t ∧ Below w.heap.size w wr ∧ C.size = 64 ∧ Hid (∀ j, j < t → C[j]? = some (Value.int .u32 (L.getD j 0 : Nat))) ∧
      Hid (wr.heap[w.heap.size]? = some (.cells Z64 176)) ∧ Hid (wr.heap[w.heap.size + 1]? = some (.cells C 176))) (fun i _ => 64 - (intOf i).toNat)
  case atStart =>
    refine ⟨0, Z64, by omega, rfl, ?_, by simp [Z64], Lib.hid (fun j hj => by omega), Lib.hid (heap_alloc2_old _ _ _), Lib.hid (heap_alloc2_new _ _ _)⟩
    exact ((Below.refl _ _).alloc (Nat.le_refl _) _).alloc (by simp) _
  case round =>
    obtain ⟨t, C, ht, rfl, hB, hC, hV, hR, hW⟩ := hrel
    by_cases hlt : t < 64
    · have hf : wr.frozen? ⟨w.heap.size + 1, t, none⟩ = false := frozen_of_row _ _ _ _ _ hW.out
      obtain ⟨v0, hc0⟩ : ∃ v0, wr.cell? ⟨w.heap.size + 1, t, none⟩ = some v0 := ⟨_, (cell_of_row _ _ _ _ _ _ hW.out).trans (Array.getElem?_eq_getElem (by omega))⟩
      by_cases h16 : t < 16
      · have e1 : num ((s.extract (4 * t) s.size).data.toList.take 4) = L.getD t 0 := by
          rw [← HLL.out, Sh.sched_low _ _ h16, extract_dat, List.drop_take, List.take_take, Nat.min_eq_left (by omega)]
        have e2 : 4 ≤ (s.extract (4 * t) s.size).size := by rw [ByteArray.size_extract]; omega
        have hs1 := set_upto hC hV.out hlt
        generalize L.getD t 0 = x at *
        have HS := Lib.hid hs1
        clear hs1
        go_wp2_with fail
        refine (read_any _ _ e2).mono ?_
        rintro e w1 ⟨rfl, rfl⟩
        rw [e1]
        go_wp2
        go_roundw
        case rel =>
          refine ⟨t + 1, C.setIfInBounds t (.int .u32 (x : Nat)), by omega, by go_num, hB.setCell (by simp) _, by simp [hC], Lib.hid ?_, Lib.hid ?_, Lib.hid ?_⟩
          · exact HS.out
          · rw [heap_setCell_other _ _ _ _ (by simp)]; exact hR.out
          · exact heap_setCell_same _ _ _ _ _ _ hW.out
        case measure => simp [intOf]; omega
      · have ca : wr.cell? ⟨w.heap.size + 1, t - 15, none⟩ = some (.int .u32 (L.getD (t - 15) 0 : Nat)) := (cell_of_row _ _ _ _ _ _ hW.out).trans (hV.out _ (by omega))
        have cb : wr.cell? ⟨w.heap.size + 1, t - 2, none⟩ = some (.int .u32 (L.getD (t - 2) 0 : Nat)) := (cell_of_row _ _ _ _ _ _ hW.out).trans (hV.out _ (by omega))
        have cc : wr.cell? ⟨w.heap.size + 1, t - 16, none⟩ = some (.int .u32 (L.getD (t - 16) 0 : Nat)) := (cell_of_row _ _ _ _ _ _ hW.out).trans (hV.out _ (by omega))
        have cd : wr.cell? ⟨w.heap.size + 1, t - 7, none⟩ = some (.int .u32 (L.getD (t - 7) 0 : Nat)) := (cell_of_row _ _ _ _ _ _ hW.out).trans (hV.out _ (by omega))
        have la : ∀ j, L.getD j 0 < 4294967296 := fun j => by rw [← HLL.out]; exact Sh.sched_lt _ _
        have lt := Sh.sched_high (s.data.toList.take 64) t (by omega) hlt
        rw [HLL.out] at lt
        have Ha := la (t - 15)
        have Hb := la (t - 2)
        have Hc := la (t - 16)
        have Hd := la (t - 7)
        have HT := Lib.hid lt
        clear lt la
        generalize L.getD (t - 15) 0 = a at *
        generalize L.getD (t - 2) 0 = b at *
        generalize L.getD (t - 16) 0 = c at *
        generalize L.getD (t - 7) 0 = d at *
        go_wp2_with fail
        go_quiet (fail)
        have R1 : ∀ W, Calls Tryz.prog 143 #[.int .u32 (a : Nat), .int .i64 (-7)] W fun e w' => e = .returned (.int .u32 ((Sh.rr a 7 : Nat) : Int)) ∧ w' = W := fun W => rot_any a 7 W Ha (by omega) (by omega)
        have R2 : ∀ W, Calls Tryz.prog 143 #[.int .u32 (a : Nat), .int .i64 (-18)] W fun e w' => e = .returned (.int .u32 ((Sh.rr a 18 : Nat) : Int)) ∧ w' = W := fun W => rot_any a 18 W Ha (by omega) (by omega)
        have R3 : ∀ W, Calls Tryz.prog 143 #[.int .u32 (b : Nat), .int .i64 (-17)] W fun e w' => e = .returned (.int .u32 ((Sh.rr b 17 : Nat) : Int)) ∧ w' = W := fun W => rot_any b 17 W Hb (by omega) (by omega)
        have R4 : ∀ W, Calls Tryz.prog 143 #[.int .u32 (b : Nat), .int .i64 (-19)] W fun e w' => e = .returned (.int .u32 ((Sh.rr b 19 : Nat) : Int)) ∧ w' = W := fun W => rot_any b 19 W Hb (by omega) (by omega)
        go_wp2_with (go_at_call 143; with_reducible (first | refine (R1 _).mono ?_ | refine (R2 _).mono ?_ | refine (R3 _).mono ?_ | refine (R4 _).mono ?_); rintro e w' ⟨rfl, rfl⟩)
        go_region
        rw [sg0_eq a Ha, sg1_eq b Hb, ad4_eq, ← HT.out]
        have hs1 := set_upto hC hV.out hlt
        have HS := Lib.hid hs1
        clear hs1 HT hV ca cb cc cd R1 R2 R3 R4
        generalize L.getD t 0 = x at *
        go_wp2
        go_roundw
        case rel =>
          refine ⟨t + 1, C.setIfInBounds t (.int .u32 (x : Nat)), by omega, by go_num, Below.setCell (drewN_below hB _) (by simp) _, by simp [hC], Lib.hid HS.out, Lib.hid ?_, Lib.hid ?_⟩
          · rw [heap_setCell_other _ _ _ _ (by simp)]; exact hR.out
          · exact heap_setCell_same _ _ _ _ _ _ hW.out
        case measure => simp [intOf]; omega
    · have hCs : (Tryz.prog.info? 176).map (·.size) = some C.size := by rw [hC]; kernel_rfl
      have hZs : Z64.size = C.size := by rw [hC]; simp [Z64]
      have hC1 : C.all (·.oneCell') = true := all_one hV.out (by omega)
      go_wp2_with (first | refine wpList_load_row rfl 176 _ rfl (w.heap.size + 1) rfl 176 C (0, 0) (.array 64 144) hW.out (by kernel_rfl) rfl hCs ?_ | refine wpList_store_row rfl 176 _ _ rfl w.heap.size C rfl rfl 176 Z64 hR.out hCs hZs hC1 ?_)
      refine bodyPost_ret (results_cell_row rfl _ _ w.heap.size 176 C (0, 0) (.array 64 144) rfl (setRow_heap _ _ _ _ _ _ hR.out) (by kernel_rfl) rfl hCs) rfl ?_
      refine ⟨?_, below_setRow hB (Nat.le_refl _) _⟩
      congr 2
      obtain rfl : t = 64 := by omega
      rw [HLL.out]
      exact arr_eq hC hL hV.out
end Go.Proofs.YtgcflmhlegagbaaGreatDoor.K
end
section
set_option linter.unusedVariables false
set_option linter.unusedSimpArgs false
namespace Go.Proofs.YtgcflmhlegagbaaGreatDoor.K
open Go.RowKit Go.Proofs.YtgcflmhlegagbaaGreatDoorW.PrintWords Go.Proofs.YtgcflmhlegagbaaGreatDoorW.PrintLast Go.Proofs.YtgcflmhlegagbaaGreatDoorW.PrintMore
attribute [local go_sem] max2_int min2_int max_two min_two
open S (mkB be num)
theorem kw_length : Sh.kw.length = 64 := by decide +kernel
theorem kw_all : ∀ x ∈ Sh.kw, x < 4294967296 := by decide +kernel
theorem kw_lt (t : Nat) : Sh.kw.getD t 0 < 4294967296 := by
  by_cases h : t < Sh.kw.length
  · rw [List.getD_eq_getElem?_getD, List.getElem?_eq_getElem h]
    exact kw_all _ (List.getElem_mem _)
  · rw [List.getD_eq_getElem?_getD, List.getElem?_eq_none (by omega)]; exact Nat.succ_pos _
theorem not_eq (e : Nat) (h : e < 4294967296) : bits .xor .u32 (if IntKind.u32.signed = true then -1 else IntKind.u32.max) (e : Int) = ((Sh.nt e : Nat) : Int) := by
  rw [if_neg (by decide), show IntKind.u32.max = ((4294967295 : Nat) : Int) from by decide, u32_xor_nat _ _ (by decide) h]
  congr 1
  have : (BitVec.allOnes 32 ^^^ BitVec.ofNat 32 e).toNat = (~~~ (BitVec.ofNat 32 e)).toNat := by rw [BitVec.allOnes_xor]
  rw [BitVec.toNat_xor, BitVec.toNat_not, BitVec.toNat_ofNat, BitVec.toNat_allOnes, Nat.mod_eq_of_lt (show e < 2 ^ 32 from h)] at this
  exact this
theorem ad5_eq (a b c d e : Nat) : (((a : Int) + (b : Int) + (c : Int) + (d : Int)) % 4294967296 + (e : Int)) % 4294967296 = ((Sh.ad (Sh.ad (Sh.ad (Sh.ad a b) c) d) e : Nat) : Int) := by
  unfold Sh.ad
  omega
theorem t1_eq (e f g h k w : Nat) (he : e < 4294967296) (hf : f < 4294967296) (hg : g < 4294967296) :
    (((h : Int) + bits .xor .u32 (bits .xor .u32 (Sh.rr e 6 : Nat) (Sh.rr e 11 : Nat)) (Sh.rr e 25 : Nat) +
      bits .xor .u32 (bits .and .u32 (e : Int) (f : Int)) (bits .and .u32 (bits .xor .u32 (if IntKind.u32.signed = true then -1 else IntKind.u32.max) (e : Int)) (g : Int)) + (k : Int)) % 4294967296 + (w : Int)) % 4294967296 = ((Sh.t1 e f g h k w : Nat) : Int) := by
  rw [not_eq e he, u32_and_nat _ _ he hf, u32_and_nat _ _ (Sh.nt_lt e) hg, xor_eq _ _ (Sh.and_lt _ _ he) (Sh.and_lt _ _ (Sh.nt_lt e)), xor_eq _ _ (Sh.rr_lt e 6 he) (Sh.rr_lt e 11 he),
    xor_eq _ _ (Sh.xor_lt _ _ (Sh.rr_lt e 6 he) (Sh.rr_lt e 11 he)) (Sh.rr_lt e 25 he), ad5_eq]
  unfold Sh.t1; rfl
theorem t2_eq (a b c : Nat) (ha : a < 4294967296) (hb : b < 4294967296) (hc : c < 4294967296) :
    (bits .xor .u32 (bits .xor .u32 (Sh.rr a 2 : Nat) (Sh.rr a 13 : Nat)) (Sh.rr a 22 : Nat) +
      bits .xor .u32 (bits .xor .u32 (bits .and .u32 (a : Int) (b : Int)) (bits .and .u32 (a : Int) (c : Int))) (bits .and .u32 (b : Int) (c : Int))) % 4294967296 = ((Sh.t2 a b c : Nat) : Int) := by
  rw [u32_and_nat _ _ ha hb, u32_and_nat _ _ ha hc, u32_and_nat _ _ hb hc, xor_eq _ _ (Sh.and_lt _ _ ha) (Sh.and_lt _ _ ha), xor_eq _ _ (Sh.xor_lt _ _ (Sh.and_lt _ _ ha) (Sh.and_lt _ _ ha)) (Sh.and_lt _ _ hb),
    xor_eq _ _ (Sh.rr_lt a 2 ha) (Sh.rr_lt a 13 ha), xor_eq _ _ (Sh.xor_lt _ _ (Sh.rr_lt a 2 ha) (Sh.rr_lt a 13 ha)) (Sh.rr_lt a 22 ha), ad_eq]
  unfold Sh.t2; rfl
theorem t1_lt (e f g h k w : Nat) : Sh.t1 e f g h k w < 4294967296 := by unfold Sh.t1; exact Sh.ad_lt _ _
theorem t2_lt (a b c : Nat) : Sh.t2 a b c < 4294967296 := by unfold Sh.t2; exact Sh.ad_lt _ _
attribute [local irreducible] Sh.sched Sh.rr Sh.ad Sh.sg0 Sh.sg1 S.num Sh.kw Sh.t1 Sh.t2 Sh.nt
/-- the constants lie where the program reads them. -/
def Keys (w : World) : Prop := 3 < w.heap.size ∧ ∀ j, j < 64 → w.cell? ⟨3, j, none⟩ = some (.int .u32 (Sh.kw.getD j 0 : Nat))
/-- a sum's block. -/
def sumCells (H : List Nat) (buf : ByteArray) (n : Nat) : List Value := wv H ++ [.string buf, .int .u64 (n : Nat)]
def hvs (a b c d e f g h : Nat) : List Nat := [a, b, c, d, e, f, g, h]
theorem set1 {w : World} {r i : Nat} {ty : TypeId} {C D : Array Value} {z : Value} (hV : w.heap[r]? = some (.cells C ty)) (e : C.setIfInBounds i z = D) : (w.setCell ⟨r, i, none⟩ z).heap[r]? = some (.cells D ty) := by
  rw [← e]; exact heap_setCell_same _ _ _ _ _ _ hV
theorem set8_row (w : World) (r : Nat) (ty : TypeId) {y0 y1 y2 y3 y4 y5 y6 y7 : Value} (hV : w.heap[r]? = some (.cells #[y0, y1, y2, y3, y4, y5, y6, y7] ty)) (z0 z1 z2 z3 z4 z5 z6 z7 : Value) :
    ((((((((w.setCell ⟨r, 0, none⟩ z0).setCell ⟨r, 1, none⟩ z1).setCell ⟨r, 2, none⟩ z2).setCell ⟨r, 3, none⟩ z3).setCell ⟨r, 4, none⟩ z4).setCell ⟨r, 5, none⟩ z5).setCell ⟨r, 6, none⟩ z6).setCell ⟨r, 7, none⟩ z7).heap[r]? = some (.cells #[z0, z1, z2, z3, z4, z5, z6, z7] ty) := by
  have h0 := set1 (i := 0) (z := z0) (D := #[z0, y1, y2, y3, y4, y5, y6, y7]) hV (by simp)
  have h1 := set1 (i := 1) (z := z1) (D := #[z0, z1, y2, y3, y4, y5, y6, y7]) h0 (by simp)
  have h2 := set1 (i := 2) (z := z2) (D := #[z0, z1, z2, y3, y4, y5, y6, y7]) h1 (by simp)
  have h3 := set1 (i := 3) (z := z3) (D := #[z0, z1, z2, z3, y4, y5, y6, y7]) h2 (by simp)
  have h4 := set1 (i := 4) (z := z4) (D := #[z0, z1, z2, z3, z4, y5, y6, y7]) h3 (by simp)
  have h5 := set1 (i := 5) (z := z5) (D := #[z0, z1, z2, z3, z4, z5, y6, y7]) h4 (by simp)
  have h6 := set1 (i := 6) (z := z6) (D := #[z0, z1, z2, z3, z4, z5, z6, y7]) h5 (by simp)
  exact set1 (i := 7) (z := z7) (D := #[z0, z1, z2, z3, z4, z5, z6, z7]) h6 (by simp)
def zs (H V : List Nat) (i : Nat) : List Nat := (List.zipWith Sh.ad H V).take i ++ H.drop i
theorem zs_zero (H V : List Nat) : zs H V 0 = H := by simp [zs]
theorem zs_end (H V : List Nat) (h : V.length = H.length) : zs H V H.length = List.zipWith Sh.ad H V := by
  unfold zs
  rw [List.drop_length, List.append_nil, List.take_of_length_le (by simp; omega)]
theorem zs_length (H V : List Nat) (h : V.length = H.length) (i : Nat) (hi : i ≤ H.length) : (zs H V i).length = H.length := by
  simp [zs, h]; omega
theorem zs_get (H V : List Nat) (h : V.length = H.length) (i : Nat) (hi : i < H.length) : (zs H V i)[i]? = some (H.getD i 0) := by
  unfold zs
  have e : (List.take i (List.zipWith Sh.ad H V)).length = i := by simp [h]; omega
  rw [List.getElem?_append_right (by omega), e, Nat.sub_self, List.getElem?_drop, Nat.add_zero, List.getD_eq_getElem?_getD, List.getElem?_eq_getElem hi]; rfl
theorem zs_step (H V : List Nat) (h : V.length = H.length) (i : Nat) (hi : i < H.length) : (zs H V i).set i (Sh.ad (H.getD i 0) (V.getD i 0)) = zs H V (i + 1) := by
  unfold zs
  have e : (List.take i (List.zipWith Sh.ad H V)).length = i := by simp [h]; omega
  rw [List.set_append, if_neg (by omega), e, Nat.sub_self, List.drop_eq_getElem_cons hi, List.set_cons_zero, List.take_succ_eq_append_getElem (by simp [h]; exact hi), List.append_assoc]
  simp [List.getD_eq_getElem?_getD, hi, h]
theorem sumCells_set (H : List Nat) (i x : Nat) (buf : ByteArray) (n : Nat) (hi : i < H.length) : (sumCells H buf n).toArray.setIfInBounds i (.int .u32 (x : Nat)) = (sumCells (H.set i x) buf n).toArray := by
  simp only [List.setIfInBounds_toArray, sumCells]
  rw [List.set_append, if_pos (by simpa [wv] using hi)]
  simp [wv, List.map_set]
theorem sumCells_get (H : List Nat) (i x : Nat) (buf : ByteArray) (n : Nat) (hi : H[i]? = some x) : (sumCells H buf n).toArray[i]? = some (.int .u32 (x : Nat)) := by
  have hl := (List.getElem?_eq_some_iff.1 hi).1
  simp only [List.getElem?_toArray, sumCells]
  rw [List.getElem?_append_left (by simpa [wv] using hl), wv, List.getElem?_map, hi]; rfl
theorem grown_of_below {w w' : World} (h : Below w.heap.size w w') (r : Option Nat) : w.grownBy w' r := ⟨h.os, h.tape, h.output, h.size, fun k hk _ => h.block k hk⟩
theorem grown_set {w w' : World} {b : Nat} (h : w.grownBy w' (some b)) (o : Nat) (v : Value) : w.grownBy (w'.setCell ⟨b, o, none⟩ v) (some b) :=
  ⟨h.os, h.tape, h.output, by simp; exact h.size, fun k hk hne => (heap_setCell_other _ _ _ _ (by intro e; exact hne (by rw [e]))).trans (h.block k hk hne)⟩
theorem grown_drewN {w w' : World} {r : Option Nat} (h : w.grownBy w' r) (n : Nat) : w.grownBy (w'.drewN n) r := ⟨h.os, h.tape, h.output, h.size, h.block⟩
set_option maxHeartbeats 4000000 in
set_option maxRecDepth 100000 in
theorem mix_any (B : Nat) (x0 x1 x2 x3 x4 x5 x6 x7 : Nat) (buf : ByteArray) (n : Nat) (s : ByteArray) (w : World) (hs : 64 ≤ s.size)
    (hx0 : x0 < 4294967296) (hx1 : x1 < 4294967296) (hx2 : x2 < 4294967296) (hx3 : x3 < 4294967296)
    (hx4 : x4 < 4294967296) (hx5 : x5 < 4294967296) (hx6 : x6 < 4294967296) (hx7 : x7 < 4294967296)
    (hB : 3 < B) (hBw : B < w.heap.size) (hK : Keys w) (hw : w.heap[B]? = some (.cells (sumCells (hvs x0 x1 x2 x3 x4 x5 x6 x7) buf n).toArray 151)) :
    Calls Tryz.prog 132 #[.pointer (some ⟨B, 0, none⟩), .string s] w fun e w' => e = .returned (.tuple #[]) ∧
      w'.heap[B]? = some (.cells (sumCells (Sh.comp (hvs x0 x1 x2 x3 x4 x5 x6 x7) (s.data.toList.take 64)) buf n).toArray 151) ∧ w.grownBy w' (some B) := by
  have hz : ∀ W, (zeroValue 176).run Tryz.prog W = .ok (.agg Z64) W := fun W => by kernel_rfl
  have hz8 : ∀ W, (zeroValue 145).run Tryz.prog W = .ok (.agg (#[.int .u32 0, .int .u32 0, .int .u32 0, .int .u32 0, .int .u32 0, .int .u32 0, .int .u32 0, .int .u32 0] : Array Value)) W := fun W => by kernel_rfl
  have hL := Sh.sched_length (s.data.toList.take 64)
  have hLt := Sh.sched_lt (s.data.toList.take 64)
  have hsp := spread_any s w hs
  unfold Sh.comp
  generalize hLL : Sh.sched (s.data.toList.take 64) = L at *
  clear hLL
  go_enter Tryz.func132, Tryz.ntmps132
  go_wp2_with fail
  refine hsp.mono ?_
  rintro e w1 ⟨rfl, hb1⟩
  have hK1 := Lib.hid hK
  clear hK
  have hi176 : (Tryz.prog.info? 176).map (·.size) = some 64 := by kernel_rfl
  have hi26 : (Tryz.prog.info? 145).map (·.size) = some 8 := by kernel_rfl
  have hlw : (wv L).toArray.size = 64 := by simp [wv, hL]
  have hC1 : (Tryz.prog.info? 176).map (·.size) = some (wv L).toArray.size := by rw [hi176, hlw]
  have hC2 : Z64.size = (wv L).toArray.size := by rw [hlw]; simp [Z64]
  have hC3 : (wv L).toArray.all (·.oneCell') = true := by simp [wv]; intro _ _; rfl
  have f1 : ((w1.alloc (.cells Z64 176)).setRow w1.heap.size (wv L).toArray).heap.size = w1.heap.size + 1 := by simp
  have f2 : ((w1.alloc (.cells Z64 176)).setRow w1.heap.size (wv L).toArray).heap[w1.heap.size]? = some (.cells (wv L).toArray 176) := setRow_heap _ _ _ _ _ _ (heap_alloc_new _ _)
  have f3 : Below w.heap.size w ((w1.alloc (.cells Z64 176)).setRow w1.heap.size (wv L).toArray) := below_setRow (hb1.alloc hb1.size _) hb1.size _
  have f4 : ((w1.alloc (.cells Z64 176)).setRow w1.heap.size (wv L).toArray).rangeAt B 0 (wv (hvs x0 x1 x2 x3 x4 x5 x6 x7)) := by
    intro j v hv
    rw [f3.cell (by exact hBw), cell_of_row _ _ _ _ _ _ hw]
    simp only [Nat.zero_add, sumCells, List.getElem?_toArray]
    rw [List.getElem?_append_left (by have := (List.getElem?_eq_some_iff.1 hv).1; exact this)]
    exact hv
  have hD1 : (Tryz.prog.info? 145).map (·.size) = some (wv (hvs x0 x1 x2 x3 x4 x5 x6 x7)).length := by rw [hi26]; rfl
  have hD2 : (#[.int .u32 0, .int .u32 0, .int .u32 0, .int .u32 0, .int .u32 0, .int .u32 0, .int .u32 0, .int .u32 0] : Array Value).size = (wv (hvs x0 x1 x2 x3 x4 x5 x6 x7)).toArray.size := by simp [wv, hvs]
  have hD3 : (wv (hvs x0 x1 x2 x3 x4 x5 x6 x7)).toArray.all (·.oneCell') = true := by simp [wv]; intro _ _; rfl
  have hu26 : Tryz.prog.underlying 145 = some (.array 8 144) := by kernel_rfl
  have HB1 := Lib.hid hb1.size
  clear hb1
  go_wp2_with (first
    | (refine wpList_store_row rfl 176 _ _ rfl w1.heap.size (wv L).toArray rfl rfl 176 Z64 (heap_alloc_new _ _) hC1 hC2 hC3 ?_; generalize hW2 : (w1.alloc (.cells Z64 176)).setRow w1.heap.size (wv L).toArray = W2 at *; clear hW2; generalize w1.heap.size = m at *)
    | (refine wpList_load_mid rfl 145 _ rfl B 0 rfl (wv (hvs x0 x1 x2 x3 x4 x5 x6 x7)) (.array 8 144) f4 hu26 rfl hD1 ?_)
    | (refine wpList_store_row rfl 145 _ _ rfl (m + 1) (wv (hvs x0 x1 x2 x3 x4 x5 x6 x7)).toArray rfl rfl 145 (#[.int .u32 0, .int .u32 0, .int .u32 0, .int .u32 0, .int .u32 0, .int .u32 0, .int .u32 0, .int .u32 0] : Array Value) (by rw [← f1]; exact heap_alloc_new _ _) (by rw [hi26]; rfl) hD2 hD3 ?_
       obtain ⟨W3, hW3, g1, g2, g3⟩ : ∃ W3, (W2.alloc (.cells (#[.int .u32 0, .int .u32 0, .int .u32 0, .int .u32 0, .int .u32 0, .int .u32 0, .int .u32 0, .int .u32 0] : Array Value) 145)).setRow (m + 1) (wv (hvs x0 x1 x2 x3 x4 x5 x6 x7)).toArray = W3 ∧ Below w.heap.size w W3 ∧ W3.heap[m]? = some (.cells (wv L).toArray 176) ∧ W3.heap[m + 1]? = some (.cells (wv (hvs x0 x1 x2 x3 x4 x5 x6 x7)).toArray 145) :=
         ⟨_, rfl, below_setRow (f3.alloc f3.size _) (by have := HB1.out; omega) _, (setRow_other _ _ _ _ (by omega)).trans ((heap_alloc_old _ _ (by omega)).trans f2), setRow_heap _ _ _ _ _ _ (by rw [← f1]; exact heap_alloc_new _ _)⟩
       rw [hW3]
       clear hW3 f1 f2 f3 f4 W2))
  clear hC1 hC2 hC3 hD1 hD2 hD3
  have hl0 : L.length = 64 := hL
  clear hL
  go_loopw [19] (fun i wr => ∃ (t a b c d e f g h : Nat), t ≤ 64 ∧ i = .int .i64 t ∧ Hid (Below w.heap.size w wr) ∧ Hid (Sh.rnds L t (hvs x0 x1 x2 x3 x4 x5 x6 x7) = hvs a b c d e f g h) ∧
      (a < 4294967296 ∧ b < 4294967296 ∧ c < 4294967296 ∧ d < 4294967296 ∧ e < 4294967296 ∧ f < 4294967296 ∧ g < 4294967296 ∧ h < 4294967296) ∧
      Hid (wr.heap[m]? = some (.cells (wv L).toArray 176)) ∧ Hid (wr.heap[m + 1]? = some (.cells (wv (hvs a b c d e f g h)).toArray 145))) (fun i _ => 64 - (intOf i).toNat)
  case atStart => exact ⟨0, x0, x1, x2, x3, x4, x5, x6, x7, by omega, rfl, Lib.hid g1, Lib.hid rfl, ⟨hx0, hx1, hx2, hx3, hx4, hx5, hx6, hx7⟩, Lib.hid g2, Lib.hid g3⟩
  case round =>
    obtain ⟨t, a, b, c, d, e, f, g, h, ht, rfl, hBe, hR, ⟨ha, hb, hc, hd, he, hf, hg, hh⟩, hW, hV⟩ := hrel
    by_cases hlt : t < 64
    · have c0 : wr.cell? ⟨m + 1, 0, none⟩ = some (.int .u32 (a : Nat)) := (cell_of_row _ _ _ _ _ _ hV.out).trans rfl
      have c1 : wr.cell? ⟨m + 1, 1, none⟩ = some (.int .u32 (b : Nat)) := (cell_of_row _ _ _ _ _ _ hV.out).trans rfl
      have c2 : wr.cell? ⟨m + 1, 2, none⟩ = some (.int .u32 (c : Nat)) := (cell_of_row _ _ _ _ _ _ hV.out).trans rfl
      have c3 : wr.cell? ⟨m + 1, 3, none⟩ = some (.int .u32 (d : Nat)) := (cell_of_row _ _ _ _ _ _ hV.out).trans rfl
      have c4 : wr.cell? ⟨m + 1, 4, none⟩ = some (.int .u32 (e : Nat)) := (cell_of_row _ _ _ _ _ _ hV.out).trans rfl
      have c5 : wr.cell? ⟨m + 1, 5, none⟩ = some (.int .u32 (f : Nat)) := (cell_of_row _ _ _ _ _ _ hV.out).trans rfl
      have c6 : wr.cell? ⟨m + 1, 6, none⟩ = some (.int .u32 (g : Nat)) := (cell_of_row _ _ _ _ _ _ hV.out).trans rfl
      have c7 : wr.cell? ⟨m + 1, 7, none⟩ = some (.int .u32 (h : Nat)) := (cell_of_row _ _ _ _ _ _ hV.out).trans rfl
      have ck : wr.cell? ⟨3, t, none⟩ = some (.int .u32 (Sh.kw.getD t 0 : Nat)) := (hBe.out.cell (by exact hK1.out.1)).trans (hK1.out.2 t hlt)
      have cw : wr.cell? ⟨m, t, none⟩ = some (.int .u32 (L.getD t 0 : Nat)) := (cell_of_row _ _ _ _ _ _ hW.out).trans (by simp [wv, hlt, hl0])
      have hwt := hLt t
      have hkt := kw_lt t
      have hN : Sh.rnds L (t + 1) (hvs x0 x1 x2 x3 x4 x5 x6 x7) = hvs (Sh.ad (Sh.t1 e f g h (Sh.kw.getD t 0) (L.getD t 0)) (Sh.t2 a b c)) a b c (Sh.ad d (Sh.t1 e f g h (Sh.kw.getD t 0) (L.getD t 0))) e f g := by
        rw [Sh.rnds, hR.out]; rfl
      have HN := Lib.hid hN
      clear hN
      generalize L.getD t 0 = wt at *
      generalize Sh.kw.getD t 0 = kt at *
      have R1 : ∀ W, Calls Tryz.prog 143 #[.int .u32 (e : Nat), .int .i64 (-6)] W fun e' w' => e' = .returned (.int .u32 ((Sh.rr e 6 : Nat) : Int)) ∧ w' = W := fun W => rot_any e 6 W he (by omega) (by omega)
      have R2 : ∀ W, Calls Tryz.prog 143 #[.int .u32 (e : Nat), .int .i64 (-11)] W fun e' w' => e' = .returned (.int .u32 ((Sh.rr e 11 : Nat) : Int)) ∧ w' = W := fun W => rot_any e 11 W he (by omega) (by omega)
      have R3 : ∀ W, Calls Tryz.prog 143 #[.int .u32 (e : Nat), .int .i64 (-25)] W fun e' w' => e' = .returned (.int .u32 ((Sh.rr e 25 : Nat) : Int)) ∧ w' = W := fun W => rot_any e 25 W he (by omega) (by omega)
      have R4 : ∀ W, Calls Tryz.prog 143 #[.int .u32 (a : Nat), .int .i64 (-2)] W fun e' w' => e' = .returned (.int .u32 ((Sh.rr a 2 : Nat) : Int)) ∧ w' = W := fun W => rot_any a 2 W ha (by omega) (by omega)
      have R5 : ∀ W, Calls Tryz.prog 143 #[.int .u32 (a : Nat), .int .i64 (-13)] W fun e' w' => e' = .returned (.int .u32 ((Sh.rr a 13 : Nat) : Int)) ∧ w' = W := fun W => rot_any a 13 W ha (by omega) (by omega)
      have R6 : ∀ W, Calls Tryz.prog 143 #[.int .u32 (a : Nat), .int .i64 (-22)] W fun e' w' => e' = .returned (.int .u32 ((Sh.rr a 22 : Nat) : Int)) ∧ w' = W := fun W => rot_any a 22 W ha (by omega) (by omega)
      have RR1 := Lib.hid R1
      have RR2 := Lib.hid R2
      have RR3 := Lib.hid R3
      have RR4 := Lib.hid R4
      have RR5 := Lib.hid R5
      have RR6 := Lib.hid R6
      clear R1 R2 R3 R4 R5 R6
      go_wp2_with fail
      go_quiet (fail)
      go_wp2_with fail
      go_quiet ((go_at_call 143; with_reducible (first | refine (RR1.out _).mono ?_ | refine (RR2.out _).mono ?_ | refine (RR3.out _).mono ?_ | refine (RR4.out _).mono ?_ | refine (RR5.out _).mono ?_ | refine (RR6.out _).mono ?_); rintro _ _ ⟨rfl, rfl⟩; exact ⟨rfl, _, rfl⟩))
      rw [t1_eq e f g h kt wt he hf hg]
      have hT1 := t1_lt e f g h kt wt
      generalize Sh.t1 e f g h kt wt = T1 at *
      go_wp2_with fail
      go_quiet ((go_at_call 143; with_reducible (first | refine (RR1.out _).mono ?_ | refine (RR2.out _).mono ?_ | refine (RR3.out _).mono ?_ | refine (RR4.out _).mono ?_ | refine (RR5.out _).mono ?_ | refine (RR6.out _).mono ?_); rintro _ _ ⟨rfl, rfl⟩; exact ⟨rfl, _, rfl⟩))
      rw [t2_eq a b c ha hb hc]
      have hT2 := t2_lt a b c
      generalize Sh.t2 a b c = T2 at *
      have z0 : wr.frozen? ⟨m + 1, 0, none⟩ = false := frozen_of_row _ _ _ _ _ hV.out
      have z1 : wr.frozen? ⟨m + 1, 1, none⟩ = false := frozen_of_row _ _ _ _ _ hV.out
      have z2 : wr.frozen? ⟨m + 1, 2, none⟩ = false := frozen_of_row _ _ _ _ _ hV.out
      have z3 : wr.frozen? ⟨m + 1, 3, none⟩ = false := frozen_of_row _ _ _ _ _ hV.out
      have z4 : wr.frozen? ⟨m + 1, 4, none⟩ = false := frozen_of_row _ _ _ _ _ hV.out
      have z5 : wr.frozen? ⟨m + 1, 5, none⟩ = false := frozen_of_row _ _ _ _ _ hV.out
      have z6 : wr.frozen? ⟨m + 1, 6, none⟩ = false := frozen_of_row _ _ _ _ _ hV.out
      have z7 : wr.frozen? ⟨m + 1, 7, none⟩ = false := frozen_of_row _ _ _ _ _ hV.out
      go_wp2_with fail
      go_roundw
      case rel =>
        have hmB : w.heap.size ≤ m + 1 := by have := HB1.out; omega
        refine ⟨t + 1, Sh.ad T1 T2, a, b, c, Sh.ad d T1, e, f, g, by omega, by go_num, Lib.hid ?_, HN, ⟨Sh.ad_lt _ _, ha, hb, hc, Sh.ad_lt _ _, he, hf, hg⟩, Lib.hid ?_, Lib.hid ?_⟩
        · repeat (refine Below.setCell ?_ hmB _)
          exact drewN_below hBe.out _
        · iterate 8 rw [heap_setCell_other _ _ _ _ (by simp)]
          exact hW.out
        · rw [ad_eq, ad_eq]
          exact set8_row _ (m + 1) 145 hV.out _ _ _ _ _ _ _ _
      case measure => simp [intOf]; omega
    · go_wp2_with fail
      obtain rfl : t = 64 := by omega
      have hl2 : (hvs a b c d e f g h).length = (hvs x0 x1 x2 x3 x4 x5 x6 x7).length := rfl
      go_loopw [99] (fun i w2 => ∃ t : Nat, t ≤ 8 ∧ i = .int .i64 t ∧ Hid (w.grownBy w2 (some B)) ∧ Hid (w2.heap[B]? = some (.cells (sumCells (zs (hvs x0 x1 x2 x3 x4 x5 x6 x7) (hvs a b c d e f g h) t) buf n).toArray 151)) ∧
        Hid (w2.heap[m + 1]? = some (.cells (wv (hvs a b c d e f g h)).toArray 145))) (fun i _ => 8 - (intOf i).toNat)
      case atStart => exact ⟨0, by omega, rfl, Lib.hid (grown_of_below hBe.out _), Lib.hid (by rw [zs_zero]; exact (hBe.out.block B hBw).trans hw), hV⟩
      case round =>
        obtain ⟨t, ht, rfl, hG, hX, hV2⟩ := hrel
        by_cases hlt : t < 8
        · have cx : wr.cell? ⟨B, t, none⟩ = some (.int .u32 ((hvs x0 x1 x2 x3 x4 x5 x6 x7).getD t 0 : Nat)) := (cell_of_row _ _ _ _ _ _ hX.out).trans (sumCells_get _ _ _ _ _ (zs_get _ _ hl2 t hlt))
          have cv : wr.cell? ⟨m + 1, t, none⟩ = some (.int .u32 ((hvs a b c d e f g h).getD t 0 : Nat)) := (cell_of_row _ _ _ _ _ _ hV2.out).trans (by
            simp only [List.getElem?_toArray, wv, List.getElem?_map]
            rw [List.getD_eq_getElem?_getD, List.getElem?_eq_getElem (show t < (hvs a b c d e f g h).length from hlt)]; rfl)
          have cz : wr.frozen? ⟨B, t, none⟩ = false := frozen_of_row _ _ _ _ _ hX.out
          have hs1 := sumCells_set (zs (hvs x0 x1 x2 x3 x4 x5 x6 x7) (hvs a b c d e f g h) t) t (Sh.ad ((hvs x0 x1 x2 x3 x4 x5 x6 x7).getD t 0) ((hvs a b c d e f g h).getD t 0)) buf n (by rw [zs_length _ _ hl2 t (by exact ht)]; exact hlt)
          rw [zs_step _ _ hl2 t hlt] at hs1
          have HS := Lib.hid hs1
          clear hs1
          generalize (hvs x0 x1 x2 x3 x4 x5 x6 x7).getD t 0 = p at *
          generalize (hvs a b c d e f g h).getD t 0 = q at *
          go_wp2_with fail
          go_region
          rw [ad_eq]
          go_wp2_with fail
          go_roundw
          case rel =>
            refine ⟨t + 1, by omega, by go_num, Lib.hid (grown_set (grown_drewN hG.out _) _ _), Lib.hid ?_, Lib.hid ?_⟩
            · exact set1 hX.out HS.out
            · have hne : m + 1 ≠ B := by have := HB1.out; omega
              exact (heap_setCell_other wr ⟨B, t, none⟩ (m + 1) _ hne).trans hV2.out
          case measure => simp [intOf]; omega
        · go_wp2_with fail
          obtain rfl : t = 8 := by omega
          refine bodyPost_end (results_none rfl _ _ _) rfl ?_
          refine ⟨rfl, ?_, hG.out⟩
          rw [hR.out, hX.out, ← zs_end _ _ hl2]; rfl
end Go.Proofs.YtgcflmhlegagbaaGreatDoor.K
end
section
set_option linter.unusedVariables false
set_option linter.unusedSimpArgs false
namespace Go.Proofs.YtgcflmhlegagbaaGreatDoor.K
open Go.RowKit Go.Proofs.YtgcflmhlegagbaaGreatDoorW.PrintWords Go.Proofs.YtgcflmhlegagbaaGreatDoorW.PrintLast Go.Proofs.YtgcflmhlegagbaaGreatDoorW.PrintMore
attribute [local go_sem] max2_int min2_int max_two min_two
open S (mkB be num)
theorem eight (H : List Nat) (h : H.length = 8) : ∃ a b c d e f g i, H = hvs a b c d e f g i := by
  match H, h with
  | [a, b, c, d, e, f, g, i], _ => exact ⟨a, b, c, d, e, f, g, i, rfl⟩
/-- a block mixed in, the words as a list. -/
theorem mix_c (B : Nat) (H : List Nat) (buf : ByteArray) (n : Nat) (s : ByteArray) (w : World) (hs : 64 ≤ s.size) (hl : H.length = 8) (hx : ∀ x ∈ H, x < 4294967296)
    (hB : 3 < B) (hBw : B < w.heap.size) (hK : Keys w) (hw : w.heap[B]? = some (.cells (sumCells H buf n).toArray 151)) :
    Calls Tryz.prog 132 #[.pointer (some ⟨B, 0, none⟩), .string s] w fun e w' => e = .returned (.tuple #[]) ∧
      w'.heap[B]? = some (.cells (sumCells (Sh.comp H s.data.toList) buf n).toArray 151) ∧ w.grownBy w' (some B) := by
  obtain ⟨a, b, c, d, e, f, g, i, rfl⟩ := eight H hl
  rw [← Sh.comp_take]
  exact mix_any B a b c d e f g i buf n s w hs (hx _ (by simp [hvs])) (hx _ (by simp [hvs])) (hx _ (by simp [hvs])) (hx _ (by simp [hvs])) (hx _ (by simp [hvs])) (hx _ (by simp [hvs])) (hx _ (by simp [hvs])) (hx _ (by simp [hvs])) hB hBw hK hw
theorem keys_grown {w w' : World} {B : Nat} (h : w.grownBy w' (some B)) (hB : 3 < B) (hK : Keys w) : Keys w' := by
  refine ⟨Nat.lt_of_lt_of_le hK.1 h.size, fun j hj => ?_⟩
  rw [World.cell?_of_block (w := w) (h.block 3 hK.1 (by intro e; injection e with e; omega))]
  exact hK.2 j hj
theorem sumCells_buf (H : List Nat) (buf buf' : ByteArray) (n : Nat) (hl : H.length = 8) : (sumCells H buf n).toArray.setIfInBounds 8 (.string buf') = (sumCells H buf' n).toArray := by
  obtain ⟨a, b, c, d, e, f, g, i, rfl⟩ := eight H hl
  simp [sumCells, wv, hvs]
theorem sumCells_n (H : List Nat) (buf : ByteArray) (n n' : Nat) (hl : H.length = 8) : (sumCells H buf n).toArray.setIfInBounds 9 (.int .u64 (n' : Nat)) = (sumCells H buf n').toArray := by
  obtain ⟨a, b, c, d, e, f, g, i, rfl⟩ := eight H hl
  simp [sumCells, wv, hvs]
theorem sumCells_8 (H : List Nat) (buf : ByteArray) (n : Nat) (hl : H.length = 8) : (sumCells H buf n).toArray[8]? = some (.string buf) := by
  obtain ⟨a, b, c, d, e, f, g, i, rfl⟩ := eight H hl
  rfl
theorem sumCells_9 (H : List Nat) (buf : ByteArray) (n : Nat) (hl : H.length = 8) : (sumCells H buf n).toArray[9]? = some (.int .u64 (n : Nat)) := by
  obtain ⟨a, b, c, d, e, f, g, i, rfl⟩ := eight H hl
  rfl
theorem take_eq (H : List Nat) (buf s : ByteArray) : Sh.blocks (buf ++ s).data.toList.length H (buf ++ s).data.toList = Sh.take H buf.data.toList s.data.toList := by
  unfold Sh.take
  have e : (buf ++ s).data.toList = buf.data.toList ++ s.data.toList := by simp
  rw [e, List.length_append]
attribute [local irreducible] Sh.sched Sh.rr Sh.ad Sh.sg0 Sh.sg1 S.num Sh.kw Sh.t1 Sh.t2 Sh.nt Sh.comp Sh.blocks Sh.take
set_option maxHeartbeats 4000000 in
set_option maxRecDepth 100000 in
theorem take_any (B : Nat) (H : List Nat) (buf : ByteArray) (n : Nat) (s : ByteArray) (w : World) (hl : H.length = 8) (hx : ∀ x ∈ H, x < 4294967296)
    (hn : n + s.size < 18446744073709551616) (hsz : buf.size + s.size < 1000000000) (hB : 3 < B) (hBw : B < w.heap.size) (hK : Keys w) (hw : w.heap[B]? = some (.cells (sumCells H buf n).toArray 151)) :
    Calls Tryz.prog 112 #[.pointer (some ⟨B, 0, none⟩), .string s] w fun e w' => e = .returned (.tuple #[]) ∧
      w'.heap[B]? = some (.cells (sumCells (Sh.take H buf.data.toList s.data.toList).1 (mkB (Sh.take H buf.data.toList s.data.toList).2) (n + s.size)).toArray 151) ∧ w.grownBy w' (some B) := by
  have c8 : w.cell? ⟨B, 8, none⟩ = some (.string buf) := (cell_of_row _ _ _ _ _ _ hw).trans (sumCells_8 _ _ _ hl)
  have c9 : w.cell? ⟨B, 9, none⟩ = some (.int .u64 (n : Nat)) := (cell_of_row _ _ _ _ _ _ hw).trans (sumCells_9 _ _ _ hl)
  have z8 : w.frozen? ⟨B, 8, none⟩ = false := frozen_of_row _ _ _ _ _ hw
  have z9 : w.frozen? ⟨B, 9, none⟩ = false := frozen_of_row _ _ _ _ _ hw
  have hKH := Lib.hid hK
  have hWH := Lib.hid hw
  clear hK hw
  go_enter Tryz.func112, Tryz.ntmps112
  go_wp2_with fail
  go_loopw [1] (fun v wr => ∃ (r : ByteArray) (H1 : List Nat), v = .string r ∧ H1.length = 8 ∧ Hid (∀ x ∈ H1, x < 4294967296) ∧ r.size ≤ buf.size + s.size ∧ Hid (Sh.blocks r.data.toList.length H1 r.data.toList = Sh.take H buf.data.toList s.data.toList) ∧
      Hid (wr.heap[B]? = some (.cells (sumCells H1 buf (n + s.size)).toArray 151)) ∧ Hid (w.grownBy wr (some B))) (fun v _ => match v with | .string r => r.size | _ => 0)
  case atStart =>
    refine ⟨buf ++ s, H, rfl, hl, Lib.hid hx, by rw [ByteArray.size_append]; omega, Lib.hid (take_eq _ _ _), Lib.hid ?_, Lib.hid ?_⟩
    · have := set1 hWH.out (sumCells_n H buf n (n + s.size) hl)
      rw [show ((n + s.size : Nat) : Int) = (n : Int) + (s.size : Int) from by omega] at this
      exact this
    · exact grown_set ⟨rfl, rfl, rfl, Nat.le_refl _, fun _ _ _ => rfl⟩ _ _
  case round =>
    obtain ⟨r, H1, rfl, hl1, hx1, hr, hbl, hrow, hg⟩ := hrel
    have hKr := Lib.hid (keys_grown hg.out hB hKH.out)
    have hBr : B < wr.heap.size := Nat.lt_of_lt_of_le hBw hg.out.size
    by_cases hlt : 64 ≤ r.size
    · have hstep := Sh.blocks_step H1 r.data.toList (by simpa using hlt)
      rw [← extract_dat] at hstep
      have hst := Lib.hid hstep
      clear hstep
      go_wp2_with fail
      refine (mix_c B H1 buf (n + s.size) r wr hlt hl1 hx1.out hB hBr hKr.out hrow.out).mono ?_
      rintro e w1 ⟨rfl, hrow1, hg1⟩
      have hrow1' := Lib.hid hrow1
      have hg1' := Lib.hid (hg.out.trans hg1)
      clear hrow1 hg1
      go_wp2_with fail
      go_roundw
      case rel =>
        refine ⟨r.extract 64 r.size, Sh.comp H1 r.data.toList, rfl, by rw [Sh.comp_length, hl1], Lib.hid (Sh.comp_lt _ _), by rw [ByteArray.size_extract]; omega, Lib.hid (hst.out.symm.trans hbl.out), hrow1', hg1'⟩
      case measure => simp [ByteArray.size_extract]; omega
    · have d8 : wr.cell? ⟨B, 8, none⟩ = some (.string buf) := (cell_of_row _ _ _ _ _ _ hrow.out).trans (sumCells_8 _ _ _ hl1)
      have d8z : wr.frozen? ⟨B, 8, none⟩ = false := frozen_of_row _ _ _ _ _ hrow.out
      go_wp2_with fail
      refine bodyPost_end (results_none rfl _ _ _) rfl ?_
      have hd := Sh.blocks_done r.data.toList.length H1 r.data.toList (by simp; omega)
      rw [hbl.out] at hd
      refine ⟨rfl, ?_, grown_set hg.out _ _⟩
      rw [hd]
      exact set1 hrow.out (by rw [S.mkB_data]; exact sumCells_buf _ _ _ _ hl1)
end Go.Proofs.YtgcflmhlegagbaaGreatDoor.K
end
section
set_option linter.unusedVariables false
set_option linter.unusedSimpArgs false
namespace Go.Proofs.YtgcflmhlegagbaaGreatDoor.K
open Go.RowKit Go.Proofs.YtgcflmhlegagbaaGreatDoorW.PrintWords Go.Proofs.YtgcflmhlegagbaaGreatDoorW.PrintLast Go.Proofs.YtgcflmhlegagbaaGreatDoorW.PrintMore
attribute [local go_sem] max2_int min2_int max_two min_two
open S (mkB be num)
theorem nums_bytes (l : List UInt8) : nums .u8 (l.map fun c => (c.toNat : Int)) = Lib.byteCells l := by simp [nums, Lib.byteCells, Function.comp_def]
theorem strOfNums_bytes (l : List UInt8) : strOfNums (l.map fun c => (c.toNat : Int)) = mkB l := by simp [strOfNums, mkB, Function.comp_def]
theorem byteCells_snoc1 (l : List UInt8) (x : UInt8) : Lib.byteCells l ++ [Value.int .u8 (x.toNat : Int)] = Lib.byteCells (l ++ [x]) := by
  simp [Lib.byteCells]
theorem tail_step (z n k : Nat) (h : k < 8) : (Value.int .u8 128 :: (List.replicate (z + 8 - k) (Value.int .u8 0) ++ Lib.byteCells (be k n))).set (z + 8 - k) (.int .u8 ((n / 256 ^ k % 256 : Nat) : Int)) =
    Value.int .u8 128 :: (List.replicate (z + 8 - (k + 1)) (Value.int .u8 0) ++ Lib.byteCells (be (k + 1) n)) := by
  rw [show z + 8 - k = (z + 8 - (k + 1)) + 1 from by omega, List.set_cons_succ, S.be_top, List.replicate_succ', List.append_assoc, List.set_append, if_neg (by simp)]
  rw [show z + 8 - (k + 1) - (List.replicate (z + 8 - (k + 1)) (Value.int .u8 0)).length = 0 from by simp]
  simp [Lib.byteCells]
theorem tail_cells (n m : Nat) (z : Nat) (hz : z = (119 - m) % 64) : Value.int .u8 128 :: (List.replicate (z + 8 - 8) (Value.int .u8 0) ++ Lib.byteCells (be 8 ((8 * n) % 18446744073709551616))) = Lib.byteCells (Sh.tail n m) := by
  subst hz
  simp [Sh.tail, Lib.byteCells]
theorem tail_length (n m : Nat) : (Sh.tail n m).length = (119 - m) % 64 + 9 := by simp [Sh.tail, S.be_length]
theorem be_mod_any (k n : Nat) : be k (n % 256 ^ k) = be k n := by
  induction k generalizing n with
  | zero => rfl
  | succ k ih =>
    rw [be, be, Nat.pow_succ, Nat.mul_comm, Nat.mod_mul_right_div_self, ih, Nat.mod_mod_of_dvd _ (Nat.dvd_mul_right 256 _)]
theorem be_mod (n : Nat) : be 8 (n % 18446744073709551616) = be 8 n := by
  have := be_mod_any 8 n
  rw [show (256 : Nat) ^ 8 = 18446744073709551616 from by decide] at this
  exact this
theorem be_get (k n j : Nat) (h : j < k) : (be k n)[j]? = some (UInt8.ofNat (n / 256 ^ (k - 1 - j) % 256)) := by
  induction k generalizing j with
  | zero => omega
  | succ k ih =>
    rw [S.be_top]
    cases j with
    | zero => rfl
    | succ j => rw [List.getElem?_cons_succ, ih j (by omega), show k + 1 - 1 - (j + 1) = k - 1 - j from by omega]
theorem be_take (n j : Nat) (h : j < 4) : (be 4 n).take (j + 1) = (be 4 n).take j ++ [UInt8.ofNat (n / 256 ^ (3 - j) % 256)] := by
  rw [List.take_add_one, be_get 4 n j h]; rfl
theorem bytes_take (H : List Nat) (i : Nat) (h : i < H.length) : Sh.bytes (H.take (i + 1)) = Sh.bytes (H.take i) ++ be 4 (H.getD i 0) := by
  unfold Sh.bytes
  rw [List.take_succ_eq_append_getElem h, List.flatMap_append]
  simp [List.getD_eq_getElem?_getD, h]
theorem bytes_length (H : List Nat) : (Sh.bytes H).length = 4 * H.length := by
  unfold Sh.bytes
  rw [List.length_flatMap]
  have : List.map (fun a => (be 4 a).length) H = List.replicate H.length 4 := by
    apply List.ext_getElem
    · simp
    · intro i h1 h2; simp [S.be_length]
  rw [this]; simp; omega
attribute [local irreducible] Sh.sched Sh.rr Sh.ad Sh.sg0 Sh.sg1 S.num Sh.kw Sh.t1 Sh.t2 Sh.nt Sh.comp Sh.blocks Sh.take Sh.tail
set_option maxHeartbeats 4000000 in
set_option maxRecDepth 100000 in
theorem end_any (B : Nat) (H : List Nat) (buf : ByteArray) (n : Nat) (w : World) (hl : H.length = 8) (hx : ∀ x ∈ H, x < 4294967296)
    (hn : n < 2199023255552) (hsz : buf.size < 64) (hB : 3 < B) (hBw : B < w.heap.size) (hK : Keys w) (hw : w.heap[B]? = some (.cells (sumCells H buf n).toArray 151)) :
    Calls Tryz.prog 113 #[.pointer (some ⟨B, 0, none⟩)] w fun e w' => e = .returned (.string (mkB (Sh.fin H buf.data.toList n))) ∧ w.grownBy w' (some B) := by
  have c8 : w.cell? ⟨B, 8, none⟩ = some (.string buf) := (cell_of_row _ _ _ _ _ _ hw).trans (sumCells_8 _ _ _ hl)
  have c9 : w.cell? ⟨B, 9, none⟩ = some (.int .u64 (n : Nat)) := (cell_of_row _ _ _ _ _ _ hw).trans (sumCells_9 _ _ _ hl)
  have hKH := Lib.hid hK
  have hWH := Lib.hid hw
  clear hK hw
  obtain ⟨z, hz⟩ : ∃ z, z = (119 - buf.size) % 64 := ⟨_, rfl⟩
  have hz1 : z < 64 := by omega
  have hz' : (119 - (buf.size : Int)) % 64 = (z : Int) := by omega
  have HZ := Lib.hid hz
  have HZ' := Lib.hid hz'
  clear hz hz'
  obtain ⟨i0, hi, hzz0, hzz1, hzz2⟩ := info_parts _root_.Go.Proofs.YtgcflmhlegagbaaGreatDoor.B.infoByte
  go_enter Tryz.func113, Tryz.ntmps113
  have hn8 : (n : Int) * 8 = ((8 * n : Nat) : Int) := by omega
  have hn9 : 8 * n < 17592186044416 := by omega
  have HN8 := Lib.hid hn8
  clear hn8
  obtain ⟨n8, hn10⟩ : ∃ n8, n8 = 8 * n := ⟨_, rfl⟩
  rw [← hn10] at hn9
  have HN10 := Lib.hid hn10
  clear hn10
  go_wp2_with (rw [HN8.out, ← HN10.out, HZ'.out]; refine wpList_make_full _ rfl _ _ 108 rfl w.heap.size 5 i0 (.int .u8 0) 1 Tryz.underlying108 hi hzz0 hzz1 .i64 .i64 _ _ (z + 9) rfl rfl (by omega) (by omega) (by rw [hzz2]; omega) (by unfold maxLen; omega) (Nat.le_refl _) ?_)
  intro w1 hown hgrow
  rw [toList_madeCells_one] at hown
  have hb1 : Below w.heap.size w w1 := (Below.refl _ _).grown hgrow (Nat.le_refl _) (fun k hk => by cases hk)
  have hown0 := hown
  have hst := (hown.stored 0 (.int .u8 128)).1
  have HST := Lib.hid hst
  have HW := Lib.hid hown
  have hc0 : w1.cell? ⟨w.heap.size, 0, none⟩ = some (.int .u8 0) := by
    rw [hown.cellAt 0 (by omega)]; simp
  have hf0 := hown.frozenAt 0
  clear hown hown0 hst hgrow
  have HB1 := Lib.hid hb1
  clear hb1
  go_wp2_with fail
  go_loopw [31] (fun i wr => ∃ k : Nat, k ≤ 8 ∧ i = .int .i64 k ∧ Hid (wr.ownsRow w.heap.size 5 1 (.slice (some ⟨w.heap.size, 0, none⟩) (z + 9) (z + 9)) (z + 9) (Value.int .u8 128 :: (List.replicate (z + 8 - k) (Value.int .u8 0) ++ Lib.byteCells (be k n8)))) ∧ Hid (Below w.heap.size w wr)) (fun i _ => 8 - (intOf i).toNat)
  case atStart =>
    refine ⟨0, by omega, rfl, Lib.hid ?_, Lib.hid (HB1.out.setCell (Nat.le_refl _) _)⟩
    have := HST.out
    rw [show z + 9 = (z + 8) + 1 from rfl, List.replicate_succ, List.set_cons_zero] at this
    simpa [be, Lib.byteCells] using this
  case round =>
    obtain ⟨k, hk, rfl, hO, hb⟩ := hrel
    by_cases hlt : k < 8
    · obtain ⟨v0, hc⟩ : ∃ v0, wr.cell? ⟨w.heap.size, z + 8 - k, none⟩ = some v0 := by
        rw [hO.out.cellAt (z + 8 - k) (by omega)]
        exact ⟨_, List.getElem?_eq_getElem (by simp [Lib.byteCells, S.be_length]; omega)⟩
      have hz := hO.out.frozenAt (z + 8 - k)
      have hsto := (hO.out.stored (z + 8 - k) (.int .u8 ((n8 / 256 ^ k % 256 : Nat) : Int))).1
      rw [tail_step z n8 k hlt] at hsto
      have HS := Lib.hid hsto
      clear hsto
      have e : (n8 : Int) / 2 ^ (8 * k) % 256 = ((n8 / 256 ^ k % 256 : Nat) : Int) := by
        have e2 : (2 : Nat) ^ (8 * k) = 256 ^ k := by rw [Nat.pow_mul]
        rw [← e2]; simp
      have HE := Lib.hid e
      clear e
      go_wp2_with fail
      rw [HE.out]
      go_roundw
      case rel => exact ⟨k + 1, by omega, by go_num, HS, Lib.hid (hb.out.setCell (Nat.le_refl _) _)⟩
      case measure => simp [intOf]; omega
    · obtain rfl : k = 8 := by omega
      have hgr : w.grownBy wr (some B) := grown_of_below hb.out _
      have hrow : wr.heap[B]? = some (.cells (sumCells H buf n).toArray 151) := (hb.out.block B hBw).trans hWH.out
      have hO2 : wr.ownsRow w.heap.size 5 1 (.slice (some ⟨w.heap.size, 0, none⟩) (z + 9) (z + 9)) (z + 9) (Lib.byteCells (Sh.tail n buf.size)) := by
        have h := hO.out
        have e8 : be 8 n8 = be 8 ((8 * n) % 18446744073709551616) := by rw [HN10.out]; exact (be_mod _).symm
        rw [e8, tail_cells n buf.size z HZ.out] at h
        exact h
      have hlen : (Sh.tail n buf.size).length = z + 9 := by rw [tail_length, HZ.out]
      have hcv : (convert 108 9 (.slice (some ⟨w.heap.size, 0, none⟩) (z + 9) (z + 9))).run Tryz.prog wr = .ok (.string (mkB (Sh.tail n buf.size))) wr := by
        have hO3 : wr.ownsRow w.heap.size 5 1 (.slice (some ⟨w.heap.size, 0, none⟩) (z + 9) (z + 9)) ((Sh.tail n buf.size).map fun c => (c.toNat : Int)).length (nums .u8 ((Sh.tail n buf.size).map fun c => (c.toNat : Int))) := by
          rw [nums_bytes, List.length_map, hlen]; exact hO2
        have := own_string (P := Tryz.prog) (src := 108) (dst := 9) (e := 5) Tryz.underlying108 Tryz.underlying5 Tryz.underlying9 hO3
        rw [this, strOfNums_bytes]
      clear hO2 hO
      go_wp2_with fail
      have hKr := Lib.hid (keys_grown hgr hB hKH.out)
      have hBr : B < wr.heap.size := Nat.lt_of_lt_of_le hBw hgr.size
      have hms : (mkB (Sh.tail n buf.size)).size = z + 9 := by rw [S.mkB_size, hlen]
      refine (take_any B H buf n (mkB (Sh.tail n buf.size)) wr hl hx (by omega) (by omega) hB hBr hKr.out hrow).mono ?_
      rintro e w2 ⟨rfl, hrow2, hg2⟩
      rw [show (mkB (Sh.tail n buf.size)).data.toList = Sh.tail n buf.size from by simp [mkB]] at hrow2
      obtain ⟨hl2, hx2⟩ := Sh.blocks_ok (buf.data.toList.length + (Sh.tail n buf.size).length) H (buf.data.toList ++ Sh.tail n buf.size) hl hx
      rw [show Sh.blocks (buf.data.toList.length + (Sh.tail n buf.size).length) H (buf.data.toList ++ Sh.tail n buf.size) = Sh.take H buf.data.toList (Sh.tail n buf.size) from by unfold Sh.take; rfl] at hl2 hx2
      have hfin : Sh.fin H buf.data.toList n = Sh.bytes (Sh.take H buf.data.toList (Sh.tail n buf.size)).1 := by unfold Sh.fin; simp
      have HF := Lib.hid hfin
      have hgrow2 := Lib.hid (hgr.trans hg2)
      generalize (Sh.take H buf.data.toList (Sh.tail n buf.size)).1 = HH at *
      have hrg : w2.rangeAt B 0 (wv HH) := by
        intro j v hv
        rw [cell_of_row _ _ _ _ _ _ hrow2]
        simp only [Nat.zero_add, sumCells, List.getElem?_toArray]
        rw [List.getElem?_append_left (by have := (List.getElem?_eq_some_iff.1 hv).1; exact this)]
        exact hv
      have hrg2 : ∀ o, (w2.alloc o).rangeAt B 0 (wv HH) := fun o j v hv => by
        rw [World.cell?_of_block (w := w2) (heap_alloc_old _ _ (Nat.lt_of_lt_of_le hBw hgrow2.out.size))]; exact hrg j v hv
      have hi26 : (Tryz.prog.info? 145).map (·.size) = some (wv HH).length := by rw [show (wv HH).length = 8 from by simp [wv, hl2]]; kernel_rfl
      have hu26 : Tryz.prog.underlying 145 = some (.array 8 144) := by kernel_rfl
      have hHi := Lib.hid hi26
      have hHu := Lib.hid hu26
      clear hi26 hu26 hfin hrow2 hg2 hrow hrg hcv hms hlen
      go_wp2_with (refine wpList_load_mid rfl 145 _ rfl B 0 rfl (wv HH) (.array 8 144) (hrg2 _) hHu.out rfl hHi.out ?_)
      have hK0 := Lib.hid hgrow2.out.size
      clear hrg2
      go_loopw [56] (fun i wr => ∃ t : Nat, t ≤ 8 ∧ i = .int .i64 t ∧ Hid (Lib.IsBuilder 116 5 w2.heap.size w2.heap.size (Lib.byteCells (Sh.bytes (HH.take t))) wr) ∧ Hid (Below w2.heap.size w2 wr)) (fun i _ => 8 - (intOf i).toNat)
      case atStart => exact ⟨0, by omega, rfl, Lib.hid (Lib.fresh_isBuilder 116 5 w2), Lib.hid ((Below.refl _ _).alloc (Nat.le_refl _) _)⟩
      case round =>
        obtain ⟨t, ht, rfl, hIB, hBe⟩ := hrel
        by_cases hlt : t < 8
        · have hix : (wv HH).toArray[t]? = some (.int .u32 (HH.getD t 0 : Nat)) := by
            simp only [List.getElem?_toArray, wv, List.getElem?_map]
            rw [List.getD_eq_getElem?_getD, List.getElem?_eq_getElem (by omega)]; rfl
          have hxt : HH.getD t 0 < 4294967296 := by
            rw [List.getD_eq_getElem?_getD, List.getElem?_eq_getElem (by omega)]; exact hx2 _ (List.getElem_mem _)
          have hbt := bytes_take HH t (by omega)
          have hbl := bytes_length (HH.take t)
          rw [List.length_take, Nat.min_eq_left (by omega)] at hbl
          have HBT := Lib.hid hbt
          clear hbt
          have hin : ∀ W, (Instr.index 145 (.agg (wv HH).toArray) (.int .i64 (t : Nat))).run Tryz.prog W = .ok (.int .u32 (HH.getD t 0 : Nat)) W := by
            intro W
            have h0 : (0 : Int) ≤ (t : Int) ∧ (t : Int) < 8 := by omega
            have hu : Tryz.prog.underlying 145 = some (.array 8 144) := hHu.out
            simp [Instr.index, run_underlying hu, asIntOf, h0, go_sem]
            rw [if_pos hlt]
            simp [wv, List.getElem?_map, List.getElem?_eq_getElem (show t < HH.length by omega)]
          generalize HH.getD t 0 = x at *
          go_wp2_with fail
          have hdt : decide ((t : Int) < 8) = true := by simp; omega
          rw [hdt]
          clear hdt
          go_loopw [59] (fun i wr => ∃ j : Nat, j ≤ 4 ∧ i = .int .i64 j ∧ Hid (Lib.IsBuilder 116 5 w2.heap.size w2.heap.size (Lib.byteCells (Sh.bytes (HH.take t) ++ (be 4 x).take j)) wr) ∧ Hid (Below w2.heap.size w2 wr)) (fun i _ => 4 - (intOf i).toNat)
          case atStart => exact ⟨0, by omega, rfl, Lib.hid (by rw [List.take_zero, List.append_nil]; exact hIB.out), hBe⟩
          case round =>
            obtain ⟨j, hj, rfl, hIB2, hBe2⟩ := hrel
            by_cases hlj : j < 4
            · have hbk := be_take x j hlj
              have HBK := Lib.hid hbk
              clear hbk
              have hz3 := hBe2.out.size
              have hval : (x : Int) / 2 ^ (8 * (3 - j)) % 256 = ((UInt8.ofNat (x / 256 ^ (3 - j) % 256)).toNat : Int) := by
                have e2 : (2 : Nat) ^ (8 * (3 - j)) = 256 ^ (3 - j) := by rw [Nat.pow_mul]
                rw [← e2, UInt8.toNat_ofNat']
                simp
              have HVAL := Lib.hid hval
              clear hval
              go_wp2_with fail
              rw [HVAL.out]
              refine (_root_.Go.Proofs.YtgcflmhlegagbaaGreatDoor.B.WriteByte _ _ _ _ _ hIB2.out (by rw [Lib.byteCells_length, List.length_append, hbl]; have := List.length_take_le j (be 4 x); omega) hz3).mono ?_
              rintro e w3 ⟨rfl, h3, b3⟩
              have hIB3 : Hid (Lib.IsBuilder 116 5 w2.heap.size w2.heap.size (Lib.byteCells (Sh.bytes (HH.take t) ++ (be 4 x).take (j + 1))) w3) := by
                rw [HBK.out, ← List.append_assoc, ← byteCells_snoc1]
                exact Lib.hid (.inr h3)
              have hb3 := Lib.hid (hBe2.out.trans b3)
              clear h3 b3
              go_wp2_with fail
              go_roundw
              case rel => exact ⟨j + 1, by omega, by go_num, hIB3, hb3⟩
              case measure => simp [intOf]; omega
            · have hIB3 : Hid (Lib.IsBuilder 116 5 w2.heap.size w2.heap.size (Lib.byteCells (Sh.bytes (HH.take (t + 1)))) wr) := by
                have h := hIB2.out
                rw [List.take_of_length_le (l := be 4 x) (i := j) (by rw [S.be_length]; omega), ← HBT.out] at h
                exact Lib.hid h
              go_wp2_with fail
              go_roundw
              case rel => exact ⟨t + 1, by omega, by go_num, hIB3, hBe2⟩
              case measure => simp [intOf]; omega
        · have hz3 := hBe.out.size
          go_wp2_with fail
          refine (Tryz.Builder_String_any _ _ _ _ hIB.out hz3).mono ?_
          rintro e w3 ⟨rfl, b3⟩
          go_wp2_with fail
          go_ret
          rw [HF.out]
          rw [List.take_of_length_le (by omega)]
          exact ⟨rfl, hgrow2.out.trans (grown_of_below (hBe.out.trans b3) _)⟩
end Go.Proofs.YtgcflmhlegagbaaGreatDoor.K
end
section
set_option linter.unusedVariables false
set_option linter.unusedSimpArgs false
namespace Go.Proofs.YtgcflmhlegagbaaGreatDoor.K
open Go.RowKit Go.Proofs.YtgcflmhlegagbaaGreatDoorW.PrintWords Go.Proofs.YtgcflmhlegagbaaGreatDoorW.PrintLast Go.Proofs.YtgcflmhlegagbaaGreatDoorW.PrintMore
attribute [local go_sem] max2_int min2_int max_two min_two
open S (mkB be num)
set_option maxHeartbeats 4000000 in
set_option maxRecDepth 100000 in
theorem new_c (w : World) : Calls Tryz.prog 111 #[] w fun e w' => e = .returned (.agg (sumCells Sh.h0 ⟨#[]⟩ 0).toArray) ∧ Below w.heap.size w w' := by
  have hz26 : ∀ W, (zeroValue 145).run Tryz.prog W = .ok (.agg #[.int .u32 0, .int .u32 0, .int .u32 0, .int .u32 0, .int .u32 0, .int .u32 0, .int .u32 0, .int .u32 0]) W := fun W => by kernel_rfl
  have hz28 : ∀ W, (zeroValue 148).run Tryz.prog W = .ok (.agg #[.int .u32 0, .int .u32 0, .int .u32 0, .int .u32 0, .int .u32 0, .int .u32 0, .int .u32 0, .int .u32 0, .string ⟨#[]⟩, .int .u64 0]) W := fun W => by kernel_rfl
  go_enter Tryz.func111, Tryz.ntmps111
  go_wp2_with fail
  refine bodyPost_ret (results_cell_row rfl _ _ w.heap.size 148 _ (0, 0) _ rfl (heap_alloc_new _ _) Tryz.underlying148 rfl (by kernel_rfl)) rfl ?_
  exact ⟨rfl, (Below.refl _ _).alloc (Nat.le_refl _) _⟩
theorem cells_lit (a b c d e f g i : Nat) (buf : ByteArray) (n : Nat) : (sumCells (hvs a b c d e f g i) buf n).toArray = #[.int .u32 (a : Nat), .int .u32 (b : Nat), .int .u32 (c : Nat), .int .u32 (d : Nat), .int .u32 (e : Nat), .int .u32 (f : Nat), .int .u32 (g : Nat), .int .u32 (i : Nat), .string buf, .int .u64 (n : Nat)] := rfl
theorem keys_below {w w' : World} (h : Below w.heap.size w w') (hK : Keys w) : Keys w' := by
  refine ⟨Nat.lt_of_lt_of_le hK.1 h.size, fun j hj => ?_⟩
  rw [h.cell (by exact hK.1)]; exact hK.2 j hj
def dat (s : ByteArray) : List UInt8 := s.data.toList
theorem dat_length (s : ByteArray) : (dat s).length = s.size := by simp [dat]
def dats (l : List ByteArray) : List UInt8 := l.flatMap dat
theorem take_nil (h : List Nat) : Sh.take h [] [] = (h, []) := rfl
theorem h0_len : Sh.h0.length = 8 := rfl
theorem h0_lt : ∀ x ∈ Sh.h0, x < 4294967296 := by decide
theorem take_ok (s : List UInt8) : (Sh.take Sh.h0 [] s).1.length = 8 ∧ ∀ x ∈ (Sh.take Sh.h0 [] s).1, x < 4294967296 := by
  unfold Sh.take; exact Sh.blocks_ok _ _ _ h0_len h0_lt
theorem dats_take (l : List ByteArray) (k : Nat) (h : k < l.length) : dats (l.take (k + 1)) = dats (l.take k) ++ dat l[k] := by
  unfold dats
  rw [List.take_succ_eq_append_getElem h, List.flatMap_append]; simp
theorem dats_le (l : List ByteArray) (k : Nat) : (dats (l.take k)).length ≤ (dats l).length := by
  have : dats l = dats (l.take k) ++ dats (l.drop k) := by
    unfold dats; rw [← List.flatMap_append, List.take_append_drop]
  rw [this, List.length_append]; omega
attribute [local irreducible] Sh.sched Sh.rr Sh.ad Sh.sg0 Sh.sg1 S.num Sh.kw Sh.t1 Sh.t2 Sh.nt Sh.comp Sh.blocks Sh.take Sh.tail Sh.fin Sh.h0
set_option maxHeartbeats 4000000 in
set_option maxRecDepth 100000 in
theorem Sum_any (A0 : Option Addr) (c0 : Nat) (l0 : List ByteArray) (w : World) (hr0 : Kd.C Kd.string w A0 l0.length l0) (hc0 : l0.length ≤ c0) (hlen : l0.length ≤ 4611686018427387904) (hsz : (dats l0).length < 100000) (hK : Keys w) :
    Calls Tryz.prog 92 #[.slice A0 l0.length c0] w fun e w' => e = .returned (.string (mkB (Sh.sum (dats l0)))) ∧ Below w.heap.size w w' := by
  have hN := new_c w
  obtain ⟨a, b, c, d, e, f, g, i, h0e⟩ := eight Sh.h0 h0_len
  have hl0 := Lib.hid h0e
  rw [h0e, cells_lit] at hN
  clear h0e
  have hKH := Lib.hid hK
  clear hK
  go_enter Tryz.func92, Tryz.ntmps92
  go_wp2_with (go_at_call 111; with_reducible refine hN.mono ?_; rintro e w1 ⟨rfl, hb1⟩)
  have hbw := hb1.alloc hb1.size (.cells #[.int .u32 (a : Nat), .int .u32 (b : Nat), .int .u32 (c : Nat), .int .u32 (d : Nat), .int .u32 (e : Nat), .int .u32 (f : Nat), .int .u32 (g : Nat), .int .u32 (i : Nat), .string ⟨#[]⟩, .int .u64 (0 : Nat)] 151)
  have hpos : 3 < w1.heap.size := Nat.lt_of_lt_of_le hKH.out.1 hb1.size
  have hsz1 := hb1.size
  have hst : ((w1.alloc (.cells #[.int .u32 (a : Nat), .int .u32 (b : Nat), .int .u32 (c : Nat), .int .u32 (d : Nat), .int .u32 (e : Nat), .int .u32 (f : Nat), .int .u32 (g : Nat), .int .u32 (i : Nat), .string ⟨#[]⟩, .int .u64 (0 : Nat)] 151))).heap[w1.heap.size]? =
      some (.cells (sumCells (Sh.take Sh.h0 [] (dats (l0.take 0))).1 (mkB (Sh.take Sh.h0 [] (dats (l0.take 0))).2) (dats (l0.take 0)).length).toArray 151) := by
    rw [show dats (l0.take 0) = [] from rfl, take_nil, hl0.out, cells_lit]; exact heap_alloc_new _ _
  have HST := Lib.hid hst
  have HBW := Lib.hid hbw
  have HR0 := Lib.hid hr0
  clear hst hbw hr0 hb1
  go_loopw [11] (fun i wr => ∃ k : Nat, k ≤ l0.length ∧ i = .int .i64 k ∧ Hid (wr.heap[w1.heap.size]? = some (.cells (sumCells (Sh.take Sh.h0 [] (dats (l0.take k))).1 (mkB (Sh.take Sh.h0 [] (dats (l0.take k))).2) (dats (l0.take k)).length).toArray 151)) ∧ Hid (Below w.heap.size w wr) ∧ w1.heap.size < wr.heap.size) (fun i _ => l0.length - (intOf i).toNat)
  case atStart => exact ⟨0, Nat.zero_le _, rfl, HST, HBW, by simp⟩
  case round =>
    obtain ⟨k, hk, rfl, hrow, hb, hlt1⟩ := hrel
    obtain ⟨hl2, hx2⟩ := take_ok (dats (l0.take k))
    have hrl := Sh.take_rest_length Sh.h0 [] (dats (l0.take k))
    have hdl := dats_le l0 k
    have hmk := S.mkB_size (Sh.take Sh.h0 [] (dats (l0.take k))).2
    by_cases hlt : k < l0.length
    · obtain ⟨ad, hA, hc⟩ := Kd.at_string HR0.out (k : Int) (by omega) (by omega)
      subst hA
      rw [Int.toNat_natCast] at hc
      replace hc := (hb.out.cell (World.block_lt_of_cell? w _ hc)).trans hc
      have hT := dats_take l0 k hlt
      have hdl2 := dats_le l0 (k + 1)
      have hrd : rdOf ByteArray.empty l0 k = l0[k] := by
        rw [rdOf, Int.toNat_natCast, List.getD_eq_getElem?_getD, List.getElem?_eq_getElem hlt]; rfl
      rw [hT, List.length_append, dat_length] at hdl2
      rw [hrd] at hc
      generalize l0[k] = s at *
      have hstep : Sh.take (Sh.take Sh.h0 [] (dats (l0.take k))).1 (Sh.take Sh.h0 [] (dats (l0.take k))).2 (dat s) = Sh.take Sh.h0 [] (dats (l0.take (k + 1))) := by
        rw [Sh.take_take, hT]
      have hlen2 : (dats (l0.take (k + 1))).length = (dats (l0.take k)).length + s.size := by rw [hT, List.length_append, dat_length]
      have hstH := Lib.hid hstep
      have hlnH := Lib.hid hlen2
      clear hstep hlen2 hT hrd
      generalize hG : Sh.take Sh.h0 [] (dats (l0.take k)) = G at *
      generalize (dats (l0.take k)).length = N at *
      clear hG
      have hKr := Lib.hid (keys_below hb.out hKH.out)
      go_wp2_with fail
      refine (take_any w1.heap.size G.1 (mkB G.2) N s wr hl2 hx2 (by omega) (by omega) hpos hlt1 hKr.out hrow.out).mono ?_
      rintro e w2 ⟨rfl, hrow2, hg2⟩
      rw [show (mkB G.2).data.toList = G.2 from by simp [mkB], show s.data.toList = dat s from rfl, hstH.out, ← hlnH.out] at hrow2
      have hrow2' := Lib.hid hrow2
      have hb2 := Lib.hid (hb.out.grown hg2 hb.out.size (fun k hk => by cases hk; exact hsz1))
      have hlt2 : w1.heap.size < w2.heap.size := Nat.lt_of_lt_of_le hlt1 hg2.size
      clear hrow2 hg2
      go_wp2_with fail
      go_roundw
      case rel => exact ⟨k + 1, by omega, by go_num, hrow2', hb2, hlt2⟩
      case measure => simp [intOf]; omega
    · obtain rfl : k = l0.length := by omega
      have hKr := Lib.hid (keys_below hb.out hKH.out)
      go_wp2_with fail
      refine (end_any w1.heap.size _ _ _ wr hl2 hx2 (by omega) (by rw [hmk, hrl]; exact Nat.mod_lt _ (by decide)) hpos hlt1 hKr.out hrow.out).mono ?_
      rintro e w2 ⟨rfl, hg2⟩
      have hb2 := Lib.hid (hb.out.grown hg2 hb.out.size (fun k hk => by cases hk; exact hsz1))
      clear hg2
      go_wp2_with fail
      go_ret
      refine ⟨?_, hb2.out⟩
      rw [show (mkB (Sh.take Sh.h0 [] (dats l0)).2).data.toList = (Sh.take Sh.h0 [] (dats l0)).2 from by simp [mkB]]
      rfl
end Go.Proofs.YtgcflmhlegagbaaGreatDoor.K
end
