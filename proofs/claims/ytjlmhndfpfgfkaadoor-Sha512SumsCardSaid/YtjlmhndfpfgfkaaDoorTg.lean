import Derived.Test.YtjlmhndfpfgfkaaDoorTf
set_option linter.unusedVariables false
set_option linter.unusedSimpArgs false
namespace Go.Proofs.YtjlmhndfpfgfkaaDoor.E
open Go.RowKit Go.Proofs.YtjlmhndfpfgfkaaDoorW.PrintWords Go.Proofs.YtjlmhndfpfgfkaaDoorW.PrintLast Go.Proofs.YtjlmhndfpfgfkaaDoorW.PrintMore
attribute [local go_sem] max2_int min2_int max_two min_two
open S (mkB be num)
theorem set8_row10 (w : World) (r : Nat) (ty : TypeId) {y0 y1 y2 y3 y4 y5 y6 y7 y8 y9 : Value} (hV : w.heap[r]? = some (.cells #[y0, y1, y2, y3, y4, y5, y6, y7, y8, y9] ty)) (z0 z1 z2 z3 z4 z5 z6 z7 : Value) :
    ((((((((w.setCell ⟨r, 0, none⟩ z0).setCell ⟨r, 1, none⟩ z1).setCell ⟨r, 2, none⟩ z2).setCell ⟨r, 3, none⟩ z3).setCell ⟨r, 4, none⟩ z4).setCell ⟨r, 5, none⟩ z5).setCell ⟨r, 6, none⟩ z6).setCell ⟨r, 7, none⟩ z7).heap[r]? = some (.cells #[z0, z1, z2, z3, z4, z5, z6, z7, y8, y9] ty) := by
  have h0 := set1 (i := 0) (z := z0) (D := #[z0, y1, y2, y3, y4, y5, y6, y7, y8, y9]) hV (by simp)
  have h1 := set1 (i := 1) (z := z1) (D := #[z0, z1, y2, y3, y4, y5, y6, y7, y8, y9]) h0 (by simp)
  have h2 := set1 (i := 2) (z := z2) (D := #[z0, z1, z2, y3, y4, y5, y6, y7, y8, y9]) h1 (by simp)
  have h3 := set1 (i := 3) (z := z3) (D := #[z0, z1, z2, z3, y4, y5, y6, y7, y8, y9]) h2 (by simp)
  have h4 := set1 (i := 4) (z := z4) (D := #[z0, z1, z2, z3, z4, y5, y6, y7, y8, y9]) h3 (by simp)
  have h5 := set1 (i := 5) (z := z5) (D := #[z0, z1, z2, z3, z4, z5, y6, y7, y8, y9]) h4 (by simp)
  have h6 := set1 (i := 6) (z := z6) (D := #[z0, z1, z2, z3, z4, z5, z6, y7, y8, y9]) h5 (by simp)
  exact set1 (i := 7) (z := z7) (D := #[z0, z1, z2, z3, z4, z5, z6, z7, y8, y9]) h6 (by simp)
theorem below_set8 {w W : World} {B r : Nat} (h : Below B w W) (hr : B ≤ r) (z0 z1 z2 z3 z4 z5 z6 z7 : Value) :
    Below B w ((((((((W.setCell ⟨r, 0, none⟩ z0).setCell ⟨r, 1, none⟩ z1).setCell ⟨r, 2, none⟩ z2).setCell ⟨r, 3, none⟩ z3).setCell ⟨r, 4, none⟩ z4).setCell ⟨r, 5, none⟩ z5).setCell ⟨r, 6, none⟩ z6).setCell ⟨r, 7, none⟩ z7) :=
  (((((((h.setCell hr z0).setCell hr z1).setCell hr z2).setCell hr z3).setCell hr z4).setCell hr z5).setCell hr z6).setCell hr z7
theorem heap_set8 (W : World) {r k : Nat} (hk : k ≠ r) (z0 z1 z2 z3 z4 z5 z6 z7 : Value) :
    ((((((((W.setCell ⟨r, 0, none⟩ z0).setCell ⟨r, 1, none⟩ z1).setCell ⟨r, 2, none⟩ z2).setCell ⟨r, 3, none⟩ z3).setCell ⟨r, 4, none⟩ z4).setCell ⟨r, 5, none⟩ z5).setCell ⟨r, 6, none⟩ z6).setCell ⟨r, 7, none⟩ z7).heap[k]? = W.heap[k]? := by
  iterate 8 rw [heap_setCell_other _ _ _ _ hk]
theorem keysAt_heap {b : Nat} {w w' : World} (hK : KeysAt b w) (h : w'.heap[b]? = w.heap[b]?) : KeysAt b w' := by
  have hlt : b < w'.heap.size := by
    rcases Nat.lt_or_ge b w'.heap.size with h' | h'
    · exact h'
    · rw [Array.getElem?_eq_none h', Array.getElem?_eq_getElem hK.1] at h; cases h
  exact ⟨hlt, fun j hj => by rw [World.cell?_of_block (w := w) h]; exact hK.2 j hj⟩
theorem wv_lit (a b c d e f g i : Nat) : (wv (hvs a b c d e f g i)).toArray = #[.int .u64 (a : Nat), .int .u64 (b : Nat), .int .u64 (c : Nat), .int .u64 (d : Nat), .int .u64 (e : Nat), .int .u64 (f : Nat), .int .u64 (g : Nat), .int .u64 (i : Nat)] := rfl
theorem rmix_c (H : List Nat) (s : ByteArray) (Kb : Nat) (w : World) (hl : H.length = 8) (hx : ∀ x ∈ H, x < 18446744073709551616) (hs : 128 ≤ s.size) (hK : KeysAt Kb w) :
    Calls Tryd.prog 28 #[.agg (wv H).toArray, .string (s.extract 0 128), .slice (some ⟨Kb, 0, none⟩) 80 80] w fun e w' =>
      e = .returned (.agg (wv (Sh.comp H s.data.toList)).toArray) ∧ Below w.heap.size w w' := by
  obtain ⟨a, b, c, d, e, f, g, i, rfl⟩ := eight H hl
  have := rmix_any a b c d e f g i (s.extract 0 128) Kb w (by rw [ByteArray.size_extract]; omega) (hx _ (by simp [hvs])) (hx _ (by simp [hvs])) (hx _ (by simp [hvs])) (hx _ (by simp [hvs])) (hx _ (by simp [hvs])) (hx _ (by simp [hvs])) (hx _ (by simp [hvs])) (hx _ (by simp [hvs])) hK
  rw [show (s.extract 0 128).data.toList = s.data.toList.take 128 from by simp, Sh.comp_take] at this
  exact this
attribute [local irreducible] Sh.sched Sh.rr Sh.ad Sh.sg0 Sh.sg1 S.num Sh.kw Sh.t1 Sh.t2 Sh.nt Sh.comp Sh.blocks Sh.take Sh.tail p2 dv
set_option maxHeartbeats 4000000 in
set_option maxRecDepth 100000 in
theorem rwrite_any (H : List Nat) (buf : ByteArray) (n : Nat) (s : ByteArray) (w : World) (hl : H.length = 8) (hx : ∀ x ∈ H, x < 18446744073709551616)
    (hn : n + s.size < 18446744073709551616) (hsz : buf.size + s.size < 1000000000) :
    Calls Tryd.prog 23 #[.agg (sumCells H buf n).toArray, .string s] w fun e w' =>
      e = .returned (.agg (sumCells (Sh.take H buf.data.toList s.data.toList).1 (mkB (Sh.take H buf.data.toList s.data.toList).2) (n + s.size)).toArray) ∧ Below w.heap.size w w' := by
  have hz28 : ∀ W, (zeroValue 28).run Tryd.prog W = .ok (.agg #[.int .u64 0, .int .u64 0, .int .u64 0, .int .u64 0, .int .u64 0, .int .u64 0, .int .u64 0, .int .u64 0, .string ⟨#[]⟩, .int .u64 0]) W := fun W => by kernel_rfl
  have hi28 : (Tryd.prog.info? 28).map (·.size) = some 10 := by kernel_rfl
  have g8 := sumCells_8 H buf n hl
  have HC0 : Hid (∃ C, C = (sumCells H buf n).toArray) := Lib.hid ⟨_, rfl⟩
  generalize hC : (sumCells H buf n).toArray = C at *
  have HC := Lib.hid hC
  clear hC HC0
  go_enter Tryd.func23, Tryd.ntmps23
  go_wp2_with fail
  refine (keys_any _).mono ?_
  rintro e w1 ⟨rfl, hk1, hb1⟩
  have hm0 := Lib.hid (row_keep (heap_alloc2_old w _ _) hb1)
  have hm1 := Lib.hid (row_keep (heap_alloc2_new w _ _) hb1)
  have HB1 := Lib.hid (below_step (((Below.refl _ _).alloc (Nat.le_refl _) _).alloc (by simp) _) hb1)
  have hsb : w.heap.size + 2 = ((w.alloc (.cells C 28)).alloc (.cells #[.int .u64 0, .int .u64 0, .int .u64 0, .int .u64 0, .int .u64 0, .int .u64 0, .int .u64 0, .int .u64 0, .string ⟨#[]⟩, .int .u64 0] 28)).heap.size := by simp
  rw [← hsb] at hk1 ⊢
  have HK1 := Lib.hid (keysAt_row hk1)
  have c8 : w1.cell? ⟨w.heap.size, 8, none⟩ = some (.string buf) := (cell_of_row _ _ _ _ _ _ hm0.out).trans g8
  clear hk1 hb1 hsb
  go_wp2_with fail
  clear c8 g8
  rw [← HC.out] at hm0
  go_loopw [6] (fun v wr => ∃ (r : ByteArray) (H1 : List Nat), v = .string r ∧ H1.length = 8 ∧ Hid (∀ x ∈ H1, x < 18446744073709551616) ∧ r.size ≤ buf.size + s.size ∧ Hid (Sh.blocks r.data.toList.length H1 r.data.toList = Sh.take H buf.data.toList s.data.toList) ∧
      Hid (wr.heap[w.heap.size]? = some (.cells (sumCells H1 buf n).toArray 28)) ∧ Hid (wr.heap[w.heap.size + 1]? = some (.cells zsum 28)) ∧ Hid (Below w.heap.size w wr) ∧ Hid (KeysAt (w.heap.size + 2) wr)) (fun v _ => match v with | .string r => r.size | _ => 0)
  case atStart => exact ⟨buf ++ s, H, rfl, hl, Lib.hid hx, by rw [ByteArray.size_append]; omega, Lib.hid (take_eq _ _ _), hm0, hm1, HB1, HK1⟩
  case round =>
    obtain ⟨r, H1, rfl, hl1, hx1, hr, hbl, hrow, hrow1, hB, hKr⟩ := hrel
    by_cases hlt : 128 ≤ r.size
    · have hM := fun W hK => rmix_c H1 r (w.heap.size + 2) W hl1 hx1.out hlt hK
      have hcl := Sh.comp_length H1 r.data.toList
      have hclt := Sh.comp_lt H1 r.data.toList
      have hstep := Sh.blocks_step H1 r.data.toList (by simpa using hlt)
      rw [← extract_dat, hbl.out] at hstep
      have HST := Lib.hid hstep.symm
      have HCL := Lib.hid hclt
      clear hstep hbl hclt
      generalize Sh.comp H1 r.data.toList = H2 at *
      rw [hl1] at hcl
      obtain ⟨z0, z1, z2, z3, z4, z5, z6, z7, rfl⟩ := eight H2 hcl
      obtain ⟨y0, y1, y2, y3, y4, y5, y6, y7, rfl⟩ := eight H1 hl1
      rw [wv_lit, wv_lit] at hM
      rw [cells_lit] at hrow
      have HM := Lib.hid hM
      clear hM
      obtain ⟨k0, k1, k2, k3, k4, k5, k6, k7, k8, k9⟩ := row10 hrow.out
      go_wp2_with fail
      go_still_tail 5, (by kernel_rfl)
      change wpList _ _ _ _ _ wr.drew
      have hrow2 : wr.drew.heap[w.heap.size]? = _ := hrow.out
      have hrow12 : wr.drew.heap[w.heap.size + 1]? = _ := hrow1.out
      have hB2 := below_drew hB.out
      have hK2 : KeysAt (w.heap.size + 2) wr.drew := hKr.out
      generalize wr.drew = wd at *
      have HB2 := Lib.hid hB2
      have HK2 := Lib.hid hK2
      clear hB2 hK2 k0 k1 k2 k3 k4 k5 k6 k7 k8 k9 hrow hrow1
      go_wp2_with (go_at_call 28; (with_reducible refine (HM.out _ HK2.out).mono ?_); rintro e w2 ⟨rfl, hb2⟩
                   have hr2 := row_keep hrow2 hb2
                   have HR2 := Lib.hid hr2
                   have HR12 := Lib.hid (row_keep hrow12 hb2)
                   have HB3 := Lib.hid (below_step HB2.out hb2)
                   have HK3 := Lib.hid (keysAt_below hb2 HK2.out)
                   obtain ⟨k0, k1, k2, k3, k4, k5, k6, k7, k8, k9, f0, f1, f2, f3, f4, f5, f6, f7, f8, f9⟩ := row20 hr2
                   clear hr2 hb2)
      go_roundw
      case rel =>
        refine ⟨r.extract 128 r.size, hvs z0 z1 z2 z3 z4 z5 z6 z7, rfl, rfl, HCL, by rw [ByteArray.size_extract]; omega, HST, Lib.hid ?_, Lib.hid ?_, Lib.hid ?_, Lib.hid ?_⟩
        · rw [cells_lit]
          with_reducible exact set8_row10 _ _ _ HR2.out _ _ _ _ _ _ _ _
        · rw [heap_set8 _ (by omega)]
          exact HR12.out
        · exact below_set8 HB3.out (Nat.le_refl _) _ _ _ _ _ _ _ _
        · exact keysAt_heap HK3.out (heap_set8 _ (by omega) _ _ _ _ _ _ _ _)
      case measure => simp [ByteArray.size_extract]; omega
    · have hd := Sh.blocks_done r.data.toList.length H1 r.data.toList (by simp; omega)
      rw [hbl.out] at hd
      have HD := Lib.hid hd
      clear hd
      have d8 : wr.cell? ⟨w.heap.size, 8, none⟩ = some (.string buf) := (cell_of_row _ _ _ _ _ _ hrow.out).trans (sumCells_8 _ _ _ hl1)
      have d9 : wr.cell? ⟨w.heap.size, 9, none⟩ = some (.int .u64 (n : Nat)) := (cell_of_row _ _ _ _ _ _ hrow.out).trans (sumCells_9 _ _ _ hl1)
      have d8z : wr.frozen? ⟨w.heap.size, 8, none⟩ = false := frozen_of_row _ _ _ _ _ hrow.out
      have d9z : wr.frozen? ⟨w.heap.size, 9, none⟩ = false := frozen_of_row _ _ _ _ _ hrow.out
      have hs8 := set1 hrow.out (sumCells_buf H1 buf r n hl1)
      have hs9 := set1 hs8 (sumCells_n H1 r n (n + s.size) hl1)
      rw [show ((n + s.size : Nat) : Int) = (n : Int) + (s.size : Int) from by omega] at hs9
      have hsz9 := (cells_size H1 r (n + s.size) hl1).1
      have hone := (cells_size H1 r (n + s.size) hl1).2
      have hrz : (((wr.setCell ⟨w.heap.size, 8, none⟩ (.string r)).setCell ⟨w.heap.size, 9, none⟩ (.int .u64 ((n : Int) + (s.size : Int))))).heap[w.heap.size + 1]? = some (.cells zsum 28) := by
        iterate 2 rw [heap_setCell_other _ _ _ _ (by simp)]
        exact hrow1.out
      have hbz : Below w.heap.size w (((wr.setCell ⟨w.heap.size, 8, none⟩ (.string r)).setCell ⟨w.heap.size, 9, none⟩ (.int .u64 ((n : Int) + (s.size : Int))))) := (hB.out.setCell (Nat.le_refl _) _).setCell (Nat.le_refl _) _
      have HS9 := Lib.hid hs9
      have HRZ := Lib.hid hrz
      have HBZ := Lib.hid hbz
      have HSZ := Lib.hid hsz9
      have HON := Lib.hid hone
      clear hs8 hs9 hrz hbz hsz9 hone hrow hrow1
      go_wp2_with (first
        | (refine wpList_load_row rfl 28 _ rfl w.heap.size rfl 28 _ (0, 0) _ HS9.out Tryd.underlying28 rfl (by rw [hi28, HSZ.out]) ?_)
        | (refine wpList_store_row rfl 28 _ _ rfl (w.heap.size + 1) _ rfl rfl 28 _ HRZ.out (by rw [hi28, HSZ.out]) (by rw [HSZ.out]; rfl) HON.out ?_))
      refine bodyPost_ret (results_cell_row rfl _ _ (w.heap.size + 1) 28 _ (0, 0) _ rfl (setRow_heap _ _ _ _ _ _ HRZ.out) Tryd.underlying28 rfl (by rw [hi28, HSZ.out])) rfl ?_
      refine ⟨?_, below_setRow HBZ.out (by omega) _⟩
      rw [HD.out, S.mkB_data]
end Go.Proofs.YtjlmhndfpfgfkaaDoor.E
