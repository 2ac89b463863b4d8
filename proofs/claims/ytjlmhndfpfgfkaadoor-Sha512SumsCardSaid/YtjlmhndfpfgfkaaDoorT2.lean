import Derived.Test.YtjlmhndfpfgfkaaDoorT1
import Derived.Deep.QuietTactic
import Derived.BigQuiet
import Derived.BigRegion
import Derived.Laws.Rows
import Derived.Laws.Tables
import Derived.Deep.MidRow
set_option linter.unusedVariables false
set_option linter.unusedSimpArgs false
namespace Go.Proofs.YtjlmhndfpfgfkaaDoor.E
open Go.RowKit Go.Proofs.YtjlmhndfpfgfkaaDoorW.PrintWords Go.Proofs.YtjlmhndfpfgfkaaDoorW.PrintLast Go.Proofs.YtjlmhndfpfgfkaaDoorW.PrintMore
attribute [local go_sem] max2_int min2_int max_two min_two
open S (mkB be num)
attribute [local irreducible] Sh.sched Sh.rr Sh.ad Sh.sg0 Sh.sg1 S.num
def Z80 : Array Value := Array.replicate 80 (.int .u64 0)
theorem extract_dat (s : ByteArray) (i : Nat) : (s.extract i s.size).data.toList = s.data.toList.drop i := by
  simp
  rw [List.take_of_length_le (by simp)]
theorem set_upto {C : Array Value} {L : List Nat} {t n : Nat} (hC : C.size = n) (hV : ∀ j, j < t → C[j]? = some (Value.int .u64 (L.getD j 0 : Nat))) (h : t < n) :
    ∀ j, j < t + 1 → (C.setIfInBounds t (.int .u64 (L.getD t 0 : Nat)))[j]? = some (Value.int .u64 (L.getD j 0 : Nat)) := by
  intro j hj
  rw [Array.getElem?_setIfInBounds]
  by_cases e : t = j
  · subst e; rw [if_pos rfl, if_pos (by omega)]
  · rw [if_neg e]; exact hV j (by omega)
theorem all_one {C : Array Value} {L : List Nat} {t : Nat} (hV : ∀ j, j < t → C[j]? = some (Value.int .u64 (L.getD j 0 : Nat))) (h : C.size ≤ t) : C.all (·.oneCell') = true := by
  rw [Array.all_eq_true]
  intro i hi
  have := hV i (by omega)
  rw [Array.getElem?_eq_getElem hi] at this
  rw [Option.some.inj this]
  rfl
theorem arr_eq {C : Array Value} {L : List Nat} {n : Nat} (hC : C.size = n) (hL : L.length = n) (hV : ∀ j, j < n → C[j]? = some (Value.int .u64 (L.getD j 0 : Nat))) : C = (wv L).toArray := by
  apply Array.ext_getElem?
  intro j
  by_cases h : j < n
  · rw [hV j h]
    simp [wv]
    rw [List.getElem?_eq_getElem (by omega)]
    simp
  · rw [Array.getElem?_eq_none (by omega), Array.getElem?_eq_none (by simp [wv]; omega)]
theorem below_setRow {B : Nat} {a w : World} (h : Below B a w) {g : Nat} (hg : B ≤ g) (cs : Array Value) : Below B a (w.setRow g cs) :=
  ⟨h.os, h.tape, h.output, by rw [setRow_size]; exact h.size, fun k hk => (setRow_other w g k cs (by omega)).trans (h.block k hk)⟩
theorem drewN_below {B : Nat} {a w : World} (h : Below B a w) (n : Nat) : Below B a (w.drewN n) := h.trans ⟨rfl, rfl, rfl, Nat.le_refl _, fun _ _ => rfl⟩
theorem ad_eq (a b : Nat) : IntKind.u64.wrap ((a : Int) + (b : Int)) = ((Sh.ad a b : Nat) : Int) := by
  unfold Sh.ad
  simp [IntKind.wrap, IntKind.signed, IntKind.bits]
theorem xor_eq (a b : Nat) (ha : a < 18446744073709551616) (hb : b < 18446744073709551616) : bits .xor .u64 (a : Int) (b : Int) = ((a ^^^ b : Nat) : Int) := u64_xor_nat a b ha hb
theorem sg0_eq (a : Nat) (h : a < 18446744073709551616) : bits .xor .u64 (bits .xor .u64 (Sh.rr a 1 : Nat) (Sh.rr a 8 : Nat)) ((a : Int) / 128) = ((Sh.sg0 a : Nat) : Int) := by
  rw [xor_eq _ _ (Sh.rr_lt a 1 h) (Sh.rr_lt a 8 h), show (a : Int) / 128 = ((a / 2 ^ 7 : Nat) : Int) from by simp, xor_eq _ _ (Sh.xor_lt _ _ (Sh.rr_lt a 1 h) (Sh.rr_lt a 8 h)) (Sh.div_lt a _ h)]
  unfold Sh.sg0; rfl
theorem sg1_eq (a : Nat) (h : a < 18446744073709551616) : bits .xor .u64 (bits .xor .u64 (Sh.rr a 19 : Nat) (Sh.rr a 61 : Nat)) ((a : Int) / 64) = ((Sh.sg1 a : Nat) : Int) := by
  rw [xor_eq _ _ (Sh.rr_lt a 19 h) (Sh.rr_lt a 61 h), show (a : Int) / 64 = ((a / 2 ^ 6 : Nat) : Int) from by simp, xor_eq _ _ (Sh.xor_lt _ _ (Sh.rr_lt a 19 h) (Sh.rr_lt a 61 h)) (Sh.div_lt a _ h)]
  unfold Sh.sg1; rfl
set_option maxHeartbeats 1000000 in
set_option maxRecDepth 100000 in
theorem spread_any (s : ByteArray) (w : World) (hs : 128 ≤ s.size) :
    Calls Tryd.prog 36 #[.string s] w fun e w' => e = .returned (.agg (wv (Sh.sched (s.data.toList.take 128))).toArray) ∧ Below w.heap.size w w' := by
  have hz : ∀ W, (zeroValue 64).run Tryd.prog W = .ok (.agg Z80) W := fun W => by kernel_rfl
  go_enter Tryd.func36, Tryd.ntmps36
  go_wp2
  have hL := Sh.sched_length (s.data.toList.take 128)
  generalize hLL : Sh.sched (s.data.toList.take 128) = L at *
  have HLL := Lib.hid hLL
  clear hLL
  go_loopw [9] (fun i wr => ∃ (t : Nat) (C : Array Value), t ≤ 80 ∧ i = .int .i64 t ∧ Below w.heap.size w wr ∧ C.size = 80 ∧ Hid (∀ j, j < t → C[j]? = some (Value.int .u64 (L.getD j 0 : Nat))) ∧
      Hid (wr.heap[w.heap.size]? = some (.cells Z80 64)) ∧ Hid (wr.heap[w.heap.size + 1]? = some (.cells C 64))) (fun i _ => 80 - (intOf i).toNat)
  case atStart =>
    refine ⟨0, Z80, by omega, rfl, ?_, by simp [Z80], Lib.hid (fun j hj => by omega), Lib.hid (heap_alloc2_old _ _ _), Lib.hid (heap_alloc2_new _ _ _)⟩
    exact ((Below.refl _ _).alloc (Nat.le_refl _) _).alloc (by simp) _
  case round =>
    obtain ⟨t, C, ht, rfl, hB, hC, hV, hR, hW⟩ := hrel
    by_cases hlt : t < 80
    · have hf : wr.frozen? ⟨w.heap.size + 1, t, none⟩ = false := frozen_of_row _ _ _ _ _ hW.out
      obtain ⟨v0, hc0⟩ : ∃ v0, wr.cell? ⟨w.heap.size + 1, t, none⟩ = some v0 := ⟨_, (cell_of_row _ _ _ _ _ _ hW.out).trans (Array.getElem?_eq_getElem (by omega))⟩
      by_cases h16 : t < 16
      · have e1 : num ((s.extract (8 * t) s.size).data.toList.take 8) = L.getD t 0 := by
          rw [← HLL.out, Sh.sched_low _ _ h16, extract_dat, List.drop_take, List.take_take, Nat.min_eq_left (by omega)]
        have e2 : 8 ≤ (s.extract (8 * t) s.size).size := by rw [ByteArray.size_extract]; omega
        have hs1 := set_upto hC hV.out hlt
        generalize L.getD t 0 = x at *
        have HS := Lib.hid hs1
        clear hs1
        go_wp2_with fail
        refine (read_any _ _ e2).mono ?_
        rintro e w1 ⟨rfl, rfl⟩
        rw [e1]
        go_wp2
        go_roundw
        case rel =>
          refine ⟨t + 1, C.setIfInBounds t (.int .u64 (x : Nat)), by omega, by go_num, hB.setCell (by simp) _, by simp [hC], Lib.hid ?_, Lib.hid ?_, Lib.hid ?_⟩
          · exact HS.out
          · rw [heap_setCell_other _ _ _ _ (by simp)]; exact hR.out
          · exact heap_setCell_same _ _ _ _ _ _ hW.out
        case measure => simp [intOf]; omega
      · have ca : wr.cell? ⟨w.heap.size + 1, t - 15, none⟩ = some (.int .u64 (L.getD (t - 15) 0 : Nat)) := (cell_of_row _ _ _ _ _ _ hW.out).trans (hV.out _ (by omega))
        have cb : wr.cell? ⟨w.heap.size + 1, t - 2, none⟩ = some (.int .u64 (L.getD (t - 2) 0 : Nat)) := (cell_of_row _ _ _ _ _ _ hW.out).trans (hV.out _ (by omega))
        have cc : wr.cell? ⟨w.heap.size + 1, t - 16, none⟩ = some (.int .u64 (L.getD (t - 16) 0 : Nat)) := (cell_of_row _ _ _ _ _ _ hW.out).trans (hV.out _ (by omega))
        have cd : wr.cell? ⟨w.heap.size + 1, t - 7, none⟩ = some (.int .u64 (L.getD (t - 7) 0 : Nat)) := (cell_of_row _ _ _ _ _ _ hW.out).trans (hV.out _ (by omega))
        have la : ∀ j, L.getD j 0 < 18446744073709551616 := fun j => by rw [← HLL.out]; exact Sh.sched_lt _ _
        have lt := Sh.sched_high (s.data.toList.take 128) t (by omega) hlt
        rw [HLL.out] at lt
        have Ha := la (t - 15)
        have Hb := la (t - 2)
        have Hc := la (t - 16)
        have Hd := la (t - 7)
        have HT := Lib.hid lt
        clear lt la
        generalize L.getD (t - 15) 0 = a at *
        generalize L.getD (t - 2) 0 = b at *
        generalize L.getD (t - 16) 0 = c at *
        generalize L.getD (t - 7) 0 = d at *
        go_wp2_with fail
        go_quiet (fail)
        have R1 : ∀ W, Calls Tryd.prog 37 #[.int .u64 (a : Nat), .int .i64 (-1)] W fun e w' => e = .returned (.int .u64 ((Sh.rr a 1 : Nat) : Int)) ∧ w' = W := fun W => rot_any a 1 W Ha (by omega) (by omega)
        have R2 : ∀ W, Calls Tryd.prog 37 #[.int .u64 (a : Nat), .int .i64 (-8)] W fun e w' => e = .returned (.int .u64 ((Sh.rr a 8 : Nat) : Int)) ∧ w' = W := fun W => rot_any a 8 W Ha (by omega) (by omega)
        have R3 : ∀ W, Calls Tryd.prog 37 #[.int .u64 (b : Nat), .int .i64 (-19)] W fun e w' => e = .returned (.int .u64 ((Sh.rr b 19 : Nat) : Int)) ∧ w' = W := fun W => rot_any b 19 W Hb (by omega) (by omega)
        have R4 : ∀ W, Calls Tryd.prog 37 #[.int .u64 (b : Nat), .int .i64 (-61)] W fun e w' => e = .returned (.int .u64 ((Sh.rr b 61 : Nat) : Int)) ∧ w' = W := fun W => rot_any b 61 W Hb (by omega) (by omega)
        go_wp2_with (go_at_call 37; with_reducible (first | refine (R1 _).mono ?_ | refine (R2 _).mono ?_ | refine (R3 _).mono ?_ | refine (R4 _).mono ?_); rintro e w' ⟨rfl, rfl⟩)
        go_region
        rw [sg0_eq a Ha, sg1_eq b Hb, ad_eq, ad_eq, ad_eq, ← HT.out]
        have hs1 := set_upto hC hV.out hlt
        have HS := Lib.hid hs1
        clear hs1 HT hV ca cb cc cd R1 R2 R3 R4
        generalize L.getD t 0 = x at *
        go_wp2
        go_roundw
        case rel =>
          refine ⟨t + 1, C.setIfInBounds t (.int .u64 (x : Nat)), by omega, by go_num, Below.setCell (drewN_below hB _) (by simp) _, by simp [hC], Lib.hid HS.out, Lib.hid ?_, Lib.hid ?_⟩
          · rw [heap_setCell_other _ _ _ _ (by simp)]; exact hR.out
          · exact heap_setCell_same _ _ _ _ _ _ hW.out
        case measure => simp [intOf]; omega
    · have hCs : (Tryd.prog.info? 64).map (·.size) = some C.size := by rw [hC]; kernel_rfl
      have hZs : Z80.size = C.size := by rw [hC]; simp [Z80]
      have hC1 : C.all (·.oneCell') = true := all_one hV.out (by omega)
      go_wp2_with (first | refine wpList_load_row rfl 64 _ rfl (w.heap.size + 1) rfl 64 C (0, 0) (.array 80 25) hW.out (by kernel_rfl) rfl hCs ?_ | refine wpList_store_row rfl 64 _ _ rfl w.heap.size C rfl rfl 64 Z80 hR.out hCs hZs hC1 ?_)
      refine bodyPost_ret (results_cell_row rfl _ _ w.heap.size 64 C (0, 0) (.array 80 25) rfl (setRow_heap _ _ _ _ _ _ hR.out) (by kernel_rfl) rfl hCs) rfl ?_
      refine ⟨?_, below_setRow hB (Nat.le_refl _) _⟩
      congr 2
      obtain rfl : t = 80 := by omega
      rw [HLL.out]
      exact arr_eq hC hL hV.out
end Go.Proofs.YtjlmhndfpfgfkaaDoor.E
