import Derived.Test.YtjlmhndfpfgfkaaDoorTn
set_option linter.unusedVariables false
set_option linter.unusedSimpArgs false
namespace Go.Proofs.YtjlmhndfpfgfkaaDoor.E
open Go.RowKit Go.Proofs.YtjlmhndfpfgfkaaDoorW.PrintWords Go.Proofs.YtjlmhndfpfgfkaaDoorW.PrintLast Go.Proofs.YtjlmhndfpfgfkaaDoorW.PrintMore
attribute [local go_sem] max2_int min2_int max_two min_two
open S (mkB be num)
attribute [local irreducible] Sh.sched Sh.rr Sh.ad Sh.sg0 Sh.sg1 S.num Sh.kw Sh.t1 Sh.t2 Sh.nt Sh.comp Sh.blocks Sh.take Sh.tail Sh.fin Sh.sum p2 dv dq fillB
set_option maxHeartbeats 4000000 in
set_option maxRecDepth 100000 in
theorem same_any (l : List Nat) (A B : Option Addr) (ca cb : Nat) (w : World) (hl : l.length ≤ 1000) (hA : (Kd.int .u64).C w A l.length (ints l)) (hB : (Kd.int .u64).C w B l.length (ints l)) :
    Calls Tryd.prog 12 #[.slice A l.length ca, .slice B l.length cb] w fun e w' => e = .returned (.bool true) ∧ Below w.heap.size w w' := by
  have HA := Lib.hid hA
  have HB := Lib.hid hB
  clear hA hB
  go_enter Tryd.func12, Tryd.ntmps12
  go_wp2_with fail
  go_loopw [13] (fun i wr => ∃ k : Nat, k ≤ l.length ∧ i = .int .i64 k ∧ Hid (Below w.heap.size w wr)) (fun i _ => l.length - (intOf i).toNat)
  case atStart => exact ⟨0, Nat.zero_le _, rfl, Lib.hid (Below.refl _ _)⟩
  case round =>
    obtain ⟨k, hk, rfl, hBe⟩ := hrel
    by_cases hlk : k < l.length
    · obtain ⟨ad, rfl, hc⟩ := Kd.at_int (Kd.C_below HA.out hBe.out) (k : Int) (by omega) (by omega)
      obtain ⟨bd, rfl, hd⟩ := Kd.at_int (Kd.C_below HB.out hBe.out) (k : Int) (by omega) (by omega)
      rw [Int.toNat_natCast] at hc hd
      generalize rd (ints l) (k : Int) = x at *
      have hdk : decide ((k : Int) < (l.length : Int)) = true := by simp; omega
      go_wp2_with fail
      go_quiet (fail)
      go_wp2_with fail
      go_roundw
      case rel => exact ⟨k + 1, by omega, by go_num, Lib.hid (drewN_below hBe.out _)⟩
      case measure => simp [intOf]; omega
    · obtain rfl : k = l.length := by omega
      go_wp2_with fail
      go_ret
      exact ⟨rfl, hBe.out⟩
def P8 (i : Nat) : List Nat := Sh.h0.take i ++ List.replicate (8 - i) 0
theorem P8_step (i : Nat) (h : i < 8) : ∃ z, (P8 i)[i]? = some z ∧ (P8 i).set i (Sh.h0.getD i 0) = P8 (i + 1) ∧ (P8 i).length = 8 := by
  have : i = 0 ∨ i = 1 ∨ i = 2 ∨ i = 3 ∨ i = 4 ∨ i = 5 ∨ i = 6 ∨ i = 7 := by omega
  rcases this with rfl | rfl | rfl | rfl | rfl | rfl | rfl | rfl <;> exact ⟨_, rfl, rfl, rfl⟩
theorem P8_end : P8 8 = Sh.h0 := rfl
theorem P8_zero : (sumCells (P8 0) ⟨#[]⟩ 0).toArray = zsum := rfl
attribute [local irreducible] Sh.h0 P8
set_option maxHeartbeats 4000000 in
set_option maxRecDepth 100000 in
theorem rnew_any (w : World) : Calls Tryd.prog 11 #[] w fun e w' => e = .returned (.agg (sumCells Sh.h0 ⟨#[]⟩ 0).toArray) ∧ Below w.heap.size w w' := by
  have hz28 : ∀ W, (zeroValue 28).run Tryd.prog W = .ok (.agg #[.int .u64 0, .int .u64 0, .int .u64 0, .int .u64 0, .int .u64 0, .int .u64 0, .int .u64 0, .int .u64 0, .string ⟨#[]⟩, .int .u64 0]) W := fun W => by kernel_rfl
  have hi28 : (Tryd.prog.info? 28).map (·.size) = some 10 := by kernel_rfl
  have hF := fun W => first_any W
  have HF := Lib.hid hF
  clear hF
  go_enter Tryd.func11, Tryd.ntmps11
  go_wp2_with fail
  refine (HF.out _).mono ?_
  rintro e w2 ⟨rfl, hrowF, hb2⟩
  have hr0 := Lib.hid (row_keep (heap_alloc2_old w (.cells zsum 28) (.cells zsum 28)) hb2)
  have hr1 := row_keep (heap_alloc2_new w (.cells zsum 28) (.cells zsum 28)) hb2
  have hsz : ((w.alloc (.cells zsum 28)).alloc (.cells zsum 28)).heap.size = w.heap.size + 2 := by simp
  have HB2 := Lib.hid (below_step (((Below.refl _ _).alloc (Nat.le_refl _) _).alloc (by simp) _) hb2)
  unfold zsum at hsz
  rw [hsz] at hrowF ⊢
  have HRF := Lib.hid hrowF
  have hr1' := Lib.hid (by rw [← P8_zero] at hr1; exact hr1)
  have h8l : Sh.h0.length = 8 := by unfold Sh.h0; rfl
  clear hb2 hsz hrowF hr1
  have HL8 := Lib.hid h8l
  clear h8l
  go_wp2_with fail
  go_loopw [7] (fun i wr => ∃ k : Nat, k ≤ 8 ∧ i = .int .i64 k ∧ Hid (wr.heap[w.heap.size + 1]? = some (.cells (sumCells (P8 k) ⟨#[]⟩ 0).toArray 28)) ∧ Hid (wr.heap[w.heap.size]? = some (.cells zsum 28)) ∧ Hid (wr.heap[w.heap.size + 2]? = some (.cells (wv Sh.h0).toArray 25)) ∧ Hid (Below w.heap.size w wr)) (fun i _ => 8 - (intOf i).toNat)
  case atStart => exact ⟨0, by omega, rfl, hr1', hr0, HRF, HB2⟩
  case round =>
    obtain ⟨k, hk, rfl, hX, hZ, hF, hB⟩ := hrel
    by_cases hlk : k < 8
    · obtain ⟨z, hz, hst, hpl⟩ := P8_step k hlk
      have cx : wr.cell? ⟨w.heap.size + 1, k, none⟩ = some (.int .u64 (z : Nat)) := (cell_of_row _ _ _ _ _ _ hX.out).trans (sumCells_get _ _ _ _ _ hz)
      have fx : wr.frozen? ⟨w.heap.size + 1, k, none⟩ = false := frozen_of_row _ _ _ _ _ hX.out
      have cf : wr.cell? ⟨w.heap.size + 2, k, none⟩ = some (.int .u64 (Sh.h0.getD k 0 : Nat)) := (cell_of_row _ _ _ _ _ _ hF.out).trans (wv_get _ _ _ (by
        rw [List.getD_eq_getElem?_getD, List.getElem?_eq_getElem (by rw [HL8.out]; exact hlk)]; rfl))
      have hs := set1 hX.out (sumCells_set (P8 k) k (Sh.h0.getD k 0) ⟨#[]⟩ 0 (by omega))
      rw [hst] at hs
      have HS := Lib.hid hs
      have hdk : decide ((k : Int) < 8) = true := by simp; omega
      clear hst hs
      generalize Sh.h0.getD k 0 = y at *
      go_wp2_with fail
      go_roundw
      case rel => exact ⟨k + 1, by omega, by go_num, HS, Lib.hid ((heap_setCell_other _ _ _ _ (by simp)).trans hZ.out), Lib.hid ((heap_setCell_other _ _ _ _ (by simp)).trans hF.out), Lib.hid (hB.out.setCell (by simp) _)⟩
      case measure => simp [intOf]; omega
    · obtain rfl : k = 8 := by omega
      have hX8 := hX.out
      rw [P8_end] at hX8
      obtain ⟨h1, h2⟩ := cells_size Sh.h0 ⟨#[]⟩ 0 HL8.out
      have HX8 := Lib.hid hX8
      have H1 := Lib.hid h1
      have H2 := Lib.hid h2
      clear hX8 h1 h2
      obtain ⟨C, hC⟩ : ∃ C, (sumCells Sh.h0 ⟨#[]⟩ 0).toArray = C := ⟨_, rfl⟩
      rw [hC] at HX8 H1 H2
      have HC := Lib.hid hC
      clear hC
      go_wp2_with (first
        | (refine wpList_load_row rfl 28 _ rfl (w.heap.size + 1) rfl 28 _ (0, 0) _ HX8.out Tryd.underlying28 rfl (by rw [hi28, H1.out]) ?_)
        | (refine wpList_store_row rfl 28 _ _ rfl w.heap.size _ rfl rfl 28 _ hZ.out (by rw [hi28, H1.out]) (by rw [H1.out]; rfl) H2.out ?_))
      refine bodyPost_ret (results_cell_row rfl _ _ w.heap.size 28 C (0, 0) _ rfl (setRow_heap _ _ _ _ _ _ hZ.out) Tryd.underlying28 rfl (by rw [hi28, H1.out])) rfl ?_
      exact ⟨by rw [HC.out], below_setRow hB.out (Nat.le_refl _) _⟩
theorem sum_fin (s : List UInt8) : Sh.fin (Sh.take Sh.h0 [] s).1 (Sh.take Sh.h0 [] s).2 s.length = Sh.sum s := by unfold Sh.sum; rfl
set_option maxHeartbeats 4000000 in
set_option maxRecDepth 100000 in
theorem rsum_any (s : ByteArray) (w : World) (hs : s.size ≤ 100000) : Calls Tryd.prog 9 #[.string s] w fun e w' => e = .returned (.string (mkB (Sh.sum (dat s)))) ∧ Below w.heap.size w w' := by
  have HN := Lib.hid (fun W => rnew_any W)
  obtain ⟨hl, hx⟩ := take_ok (dat s)
  have hrl := Sh.take_rest_length Sh.h0 [] (dat s)
  rw [List.length_nil, Nat.zero_add, dat_length] at hrl
  have hW := fun W => rwrite_any Sh.h0 ⟨#[]⟩ 0 s W h0_len h0_lt (by omega) (by show 0 + s.size < _; omega)
  rw [show (⟨#[]⟩ : ByteArray).data.toList = [] from rfl, show s.data.toList = dat s from rfl, Nat.zero_add] at hW
  have hE := fun W => rend_any (Sh.take Sh.h0 [] (dat s)).1 (mkB (Sh.take Sh.h0 [] (dat s)).2) s.size W hl hx (by omega) (by rw [S.mkB_size, hrl]; exact Nat.mod_lt _ (by decide))
  have e2 := sum_fin (dat s)
  rw [dat_length] at e2
  rw [mkB_toList, e2] at hE
  have HW := Lib.hid hW
  have HE := Lib.hid hE
  clear hW hE hl hx hrl e2
  go_enter Tryd.func9, Tryd.ntmps9
  go_wp2_with (first
    | (go_at_call 11
       with_reducible refine (HN.out _).mono ?_
       rintro e w1 ⟨rfl, hb1⟩
       have HB1 := Lib.hid hb1
       clear hb1)
    | (go_at_call 23
       with_reducible refine (HW.out _).mono ?_
       rintro e w2 ⟨rfl, hb2⟩
       have HB2 := Lib.hid (below_step HB1.out hb2)
       clear hb2)
    | (go_at_call 22
       with_reducible refine (HE.out _).mono ?_
       rintro e w3 ⟨rfl, hb3⟩
       have HB3 := Lib.hid (below_step HB2.out hb3)
       clear hb3))
  go_ret
  exact ⟨rfl, HB3.out⟩
theorem same_at (l : List Nat) (n : Nat) (hn : l.length = n) (hl : n ≤ 1000) (A B : Option Addr) (ca cb : Nat) (w : World) (hA : (Kd.int .u64).C w A n (ints l)) (hB : (Kd.int .u64).C w B n (ints l)) :
    Calls Tryd.prog 12 #[.slice A n ca, .slice B n cb] w fun e w' => e = .returned (.bool true) ∧ Below w.heap.size w w' := by
  subst hn; exact same_any l A B ca cb w hl hA hB
theorem row64_slice {w w' : World} {l : List Nat} {n : Nat} {e : Ending} (hn : l.length = n) (h : Row64 w l e w') : ∃ A c, e = .returned (.slice A n c) ∧ (Kd.int .u64).C w' A n (ints l) ∧ Below w.heap.size w w' := by
  obtain ⟨v, rfl, hR, hb⟩ := h
  obtain ⟨A, c, rfl, _, hC⟩ := Kd.R_reads hR
  rw [ints_length, hn] at hC ⊢
  exact ⟨A, c, rfl, hC, hb⟩
theorem C_row' {W : World} {g n : Nat} {l : List Nat} {t : TypeId} (h : W.heap[g]? = some (.cells (wv l).toArray t)) (hn : l.length = n) (hl : n ≤ 1000) : (Kd.int .u64).C W (some ⟨g, 0, none⟩) n (ints l) := by
  subst hn; exact C_row h hl
set_option maxHeartbeats 4000000 in
set_option maxRecDepth 100000 in
theorem sums_walk (s0 : ByteArray) (w : World) (hK : Keys w) (hs0 : s0.size < 9223372036854775807) :
    Calls Tryd.prog 3 #[.string s0] w fun e w' => e = .returned (.bool true) ∧ Below w.heap.size w w' := by
  obtain ⟨k0, hk0, hk1, hk2⟩ : ∃ k : Nat, (if (400 : Int) < (s0.size : Int) then (400 : Int) else (s0.size : Int)) = (k : Int) ∧ k ≤ s0.size ∧ k ≤ 400 := by
    split
    · exact ⟨400, rfl, by omega, by omega⟩
    · exact ⟨s0.size, rfl, by omega, by omega⟩
  have hss : (s0.extract 0 k0).size ≤ 400 := by rw [ByteArray.size_extract]; omega
  have HK := Lib.hid hK
  clear hK
  have hEQ := fun W => eqC W Sh.h0 ⟨#[]⟩ 0 h0_len
  have HN := Lib.hid (fun W => new_c W)
  have HRN := Lib.hid (fun W => rnew_any W)
  generalize (sumCells Sh.h0 ⟨#[]⟩ 0).toArray = C0 at *
  go_enter Tryd.func3, Tryd.ntmps3
  go_upto_region 2 with fail
  generalize s0.extract 0 k0 = s at *
  have HS1 : Hid (∀ W, Keys W → Calls Tryd.prog 8 #[.slice (some ⟨W.heap.size, 0, none⟩) 1 1] (W.alloc (.cells #[.string s] 9)) fun e w' => e = .returned (.string (mkB (Sh.sum (dat s)))) ∧ Below (W.alloc (.cells #[.string s] 9)).heap.size (W.alloc (.cells #[.string s] 9)) w') := by
    refine Lib.hid ?_
    intro W hKW
    have := Sum_any (some ⟨W.heap.size, 0, none⟩) 1 [s] (W.alloc (.cells #[.string s] 9)) (one_str s W) (by simp) (by simp) (by simp [dats, dat]; omega) (keys_below ((Below.refl _ _).alloc (Nat.le_refl _) _) hKW)
    rw [show dats [s] = dat s from by simp [dats]] at this
    exact this
  have HRS := Lib.hid (fun W => rsum_any s W (by omega))
  generalize mkB (Sh.sum (dat s)) = st at *
  go_wp2_with (first
    | (go_at_call 7
       with_reducible refine (alive_c _ HK.out).mono ?_
       rintro e w1 ⟨rfl, hb1⟩
       have HB1 := Lib.hid hb1
       have HK1 := Lib.hid (keys_below hb1 HK.out)
       clear hb1)
    | (go_at_call 8
       with_reducible refine (HS1.out _ HK1.out).mono ?_
       rintro e w2 ⟨rfl, hb2⟩
       have HB2 := Lib.hid (below_step (below_step HB1.out ((Below.refl _ _).alloc (Nat.le_refl _) _)) hb2)
       clear hb2)
    | (go_at_call 9
       with_reducible refine (HRS.out _).mono ?_
       rintro e w3 ⟨rfl, hb3⟩
       have HB3 := Lib.hid (below_step HB2.out hb3)
       clear hb3)
    | (go_at_call 10
       with_reducible refine (HN.out _).mono ?_
       rintro e w4 ⟨rfl, hb4⟩
       have HB4 := Lib.hid (below_step HB3.out hb4)
       clear hb4)
    | (go_at_call 11
       with_reducible refine (HRN.out _).mono ?_
       rintro e w5 ⟨rfl, hb5⟩
       have HB5 := Lib.hid (below_step HB4.out hb5)
       clear hb5)
    | (go_at_call 13
       with_reducible refine (keys_any _).mono ?_
       rintro e w6 ⟨rfl, hk6, hb6⟩
       have HB6 := Lib.hid (below_step HB5.out hb6)
       have HK6 := Lib.hid hk6
       clear hb6 hk6)
    | (go_at_call 14
       with_reducible refine (roots_any _).mono ?_
       rintro e w7 hr7
       obtain ⟨A7, c7, rfl, hC7, hb7⟩ := row64_slice kw_length hr7
       have HB7 := Lib.hid (below_step HB6.out hb7)
       have HK7 := Lib.hid (C_row' (row_keep HK6.out hb7) kw_length (by omega))
       have HC7 := Lib.hid hC7
       clear hb7 hC7 hr7)
    | (go_at_call 12
       with_reducible refine (same_at Sh.kw 80 kw_length (by omega) _ _ _ _ _ HK7.out HC7.out).mono ?_
       rintro e w8 ⟨rfl, hb8⟩
       have HB8 := Lib.hid (below_step HB7.out hb8)
       clear hb8)
    | (go_at_call 15
       with_reducible refine (first_any _).mono ?_
       rintro e w9 ⟨rfl, hk9, hb9⟩
       have HB9 := Lib.hid (below_step HB8.out hb9)
       have HK9 := Lib.hid hk9
       clear hb9 hk9)
    | (go_at_call 16
       with_reducible refine (begins_any _).mono ?_
       rintro e w10 hr10
       obtain ⟨A10, c10, rfl, hC10, hb10⟩ := row64_slice h0_len hr10
       have HB10 := Lib.hid (below_step HB9.out hb10)
       have HK10 := Lib.hid (C_row' (row_keep HK9.out hb10) h0_len (by omega))
       have HC10 := Lib.hid hC10
       clear hb10 hC10 hr10)
    | (go_at_call 12
       with_reducible refine (same_at Sh.h0 8 h0_len (by omega) _ _ _ _ _ HK10.out HC10.out).mono ?_
       rintro e w11 ⟨rfl, hb11⟩
       have HB11 := Lib.hid (below_step HB10.out hb11)
       clear hb11))
  go_ret
  exact ⟨rfl, HB11.out⟩
end Go.Proofs.YtjlmhndfpfgfkaaDoor.E
