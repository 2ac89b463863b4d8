import Derived.Test.YtjlmhndfpfgfkaaDoorT2
set_option linter.unusedVariables false
set_option linter.unusedSimpArgs false
namespace Go.Proofs.YtjlmhndfpfgfkaaDoor.E
open Go.RowKit Go.Proofs.YtjlmhndfpfgfkaaDoorW.PrintWords Go.Proofs.YtjlmhndfpfgfkaaDoorW.PrintLast Go.Proofs.YtjlmhndfpfgfkaaDoorW.PrintMore
attribute [local go_sem] max2_int min2_int max_two min_two
open S (mkB be num)
theorem kw_length : Sh.kw.length = 80 := by decide +kernel
theorem kw_all : ∀ x ∈ Sh.kw, x < 18446744073709551616 := by decide +kernel
theorem kw_lt (t : Nat) : Sh.kw.getD t 0 < 18446744073709551616 := by
  by_cases h : t < Sh.kw.length
  · rw [List.getD_eq_getElem?_getD, List.getElem?_eq_getElem h]
    exact kw_all _ (List.getElem_mem _)
  · rw [List.getD_eq_getElem?_getD, List.getElem?_eq_none (by omega)]; exact Nat.succ_pos _
theorem not_eq (e : Nat) (h : e < 18446744073709551616) : bits .xor .u64 (if IntKind.u64.signed = true then -1 else IntKind.u64.max) (e : Int) = ((Sh.nt e : Nat) : Int) := by
  rw [if_neg (by decide), show IntKind.u64.max = ((18446744073709551615 : Nat) : Int) from by decide, u64_xor_nat _ _ (by decide) h]
  congr 1
  have : (BitVec.allOnes 64 ^^^ BitVec.ofNat 64 e).toNat = (~~~ (BitVec.ofNat 64 e)).toNat := by rw [BitVec.allOnes_xor]
  rw [BitVec.toNat_xor, BitVec.toNat_not, BitVec.toNat_ofNat, BitVec.toNat_allOnes, Nat.mod_eq_of_lt (show e < 2 ^ 64 from h)] at this
  exact this
theorem t1_eq (e f g h k w : Nat) (he : e < 18446744073709551616) (hf : f < 18446744073709551616) (hg : g < 18446744073709551616) :
    IntKind.u64.wrap (IntKind.u64.wrap (IntKind.u64.wrap (IntKind.u64.wrap ((h : Int) + bits .xor .u64 (bits .xor .u64 (Sh.rr e 14 : Nat) (Sh.rr e 18 : Nat)) (Sh.rr e 41 : Nat)) +
      bits .xor .u64 (bits .and .u64 (e : Int) (f : Int)) (bits .and .u64 (bits .xor .u64 (if IntKind.u64.signed = true then -1 else IntKind.u64.max) (e : Int)) (g : Int))) + (k : Int)) + (w : Int)) = ((Sh.t1 e f g h k w : Nat) : Int) := by
  rw [not_eq e he, u64_and_nat _ _ he hf, u64_and_nat _ _ (Sh.nt_lt e) hg, xor_eq _ _ (Sh.and_lt _ _ he) (Sh.and_lt _ _ (Sh.nt_lt e)), xor_eq _ _ (Sh.rr_lt e 14 he) (Sh.rr_lt e 18 he),
    xor_eq _ _ (Sh.xor_lt _ _ (Sh.rr_lt e 14 he) (Sh.rr_lt e 18 he)) (Sh.rr_lt e 41 he), ad_eq, ad_eq, ad_eq, ad_eq]
  unfold Sh.t1; rfl
theorem t2_eq (a b c : Nat) (ha : a < 18446744073709551616) (hb : b < 18446744073709551616) (hc : c < 18446744073709551616) :
    IntKind.u64.wrap (bits .xor .u64 (bits .xor .u64 (Sh.rr a 28 : Nat) (Sh.rr a 34 : Nat)) (Sh.rr a 39 : Nat) +
      bits .xor .u64 (bits .xor .u64 (bits .and .u64 (a : Int) (b : Int)) (bits .and .u64 (a : Int) (c : Int))) (bits .and .u64 (b : Int) (c : Int))) = ((Sh.t2 a b c : Nat) : Int) := by
  rw [u64_and_nat _ _ ha hb, u64_and_nat _ _ ha hc, u64_and_nat _ _ hb hc, xor_eq _ _ (Sh.and_lt _ _ ha) (Sh.and_lt _ _ ha), xor_eq _ _ (Sh.xor_lt _ _ (Sh.and_lt _ _ ha) (Sh.and_lt _ _ ha)) (Sh.and_lt _ _ hb),
    xor_eq _ _ (Sh.rr_lt a 28 ha) (Sh.rr_lt a 34 ha), xor_eq _ _ (Sh.xor_lt _ _ (Sh.rr_lt a 28 ha) (Sh.rr_lt a 34 ha)) (Sh.rr_lt a 39 ha), ad_eq]
  unfold Sh.t2; rfl
theorem t1_lt (e f g h k w : Nat) : Sh.t1 e f g h k w < 18446744073709551616 := by unfold Sh.t1; exact Sh.ad_lt _ _
theorem t2_lt (a b c : Nat) : Sh.t2 a b c < 18446744073709551616 := by unfold Sh.t2; exact Sh.ad_lt _ _
attribute [local irreducible] Sh.sched Sh.rr Sh.ad Sh.sg0 Sh.sg1 S.num Sh.kw Sh.t1 Sh.t2 Sh.nt
/-- the constants lie where the program reads them. -/
def Keys (w : World) : Prop := 0 < w.heap.size ∧ ∀ j, j < 80 → w.cell? ⟨0, j, none⟩ = some (.int .u64 (Sh.kw.getD j 0 : Nat))
/-- a sum's block. -/
def sumCells (H : List Nat) (buf : ByteArray) (n : Nat) : List Value := wv H ++ [.string buf, .int .u64 (n : Nat)]
def hvs (a b c d e f g h : Nat) : List Nat := [a, b, c, d, e, f, g, h]
theorem set1 {w : World} {r i : Nat} {ty : TypeId} {C D : Array Value} {z : Value} (hV : w.heap[r]? = some (.cells C ty)) (e : C.setIfInBounds i z = D) : (w.setCell ⟨r, i, none⟩ z).heap[r]? = some (.cells D ty) := by
  rw [← e]; exact heap_setCell_same _ _ _ _ _ _ hV
theorem set8_row (w : World) (r : Nat) (ty : TypeId) {y0 y1 y2 y3 y4 y5 y6 y7 : Value} (hV : w.heap[r]? = some (.cells #[y0, y1, y2, y3, y4, y5, y6, y7] ty)) (z0 z1 z2 z3 z4 z5 z6 z7 : Value) :
    ((((((((w.setCell ⟨r, 0, none⟩ z0).setCell ⟨r, 1, none⟩ z1).setCell ⟨r, 2, none⟩ z2).setCell ⟨r, 3, none⟩ z3).setCell ⟨r, 4, none⟩ z4).setCell ⟨r, 5, none⟩ z5).setCell ⟨r, 6, none⟩ z6).setCell ⟨r, 7, none⟩ z7).heap[r]? = some (.cells #[z0, z1, z2, z3, z4, z5, z6, z7] ty) := by
  have h0 := set1 (i := 0) (z := z0) (D := #[z0, y1, y2, y3, y4, y5, y6, y7]) hV (by simp)
  have h1 := set1 (i := 1) (z := z1) (D := #[z0, z1, y2, y3, y4, y5, y6, y7]) h0 (by simp)
  have h2 := set1 (i := 2) (z := z2) (D := #[z0, z1, z2, y3, y4, y5, y6, y7]) h1 (by simp)
  have h3 := set1 (i := 3) (z := z3) (D := #[z0, z1, z2, z3, y4, y5, y6, y7]) h2 (by simp)
  have h4 := set1 (i := 4) (z := z4) (D := #[z0, z1, z2, z3, z4, y5, y6, y7]) h3 (by simp)
  have h5 := set1 (i := 5) (z := z5) (D := #[z0, z1, z2, z3, z4, z5, y6, y7]) h4 (by simp)
  have h6 := set1 (i := 6) (z := z6) (D := #[z0, z1, z2, z3, z4, z5, z6, y7]) h5 (by simp)
  exact set1 (i := 7) (z := z7) (D := #[z0, z1, z2, z3, z4, z5, z6, z7]) h6 (by simp)
def zs (H V : List Nat) (i : Nat) : List Nat := (List.zipWith Sh.ad H V).take i ++ H.drop i
theorem zs_zero (H V : List Nat) : zs H V 0 = H := by simp [zs]
theorem zs_end (H V : List Nat) (h : V.length = H.length) : zs H V H.length = List.zipWith Sh.ad H V := by
  unfold zs
  rw [List.drop_length, List.append_nil, List.take_of_length_le (by simp; omega)]
theorem zs_length (H V : List Nat) (h : V.length = H.length) (i : Nat) (hi : i ≤ H.length) : (zs H V i).length = H.length := by
  simp [zs, h]; omega
theorem zs_get (H V : List Nat) (h : V.length = H.length) (i : Nat) (hi : i < H.length) : (zs H V i)[i]? = some (H.getD i 0) := by
  unfold zs
  have e : (List.take i (List.zipWith Sh.ad H V)).length = i := by simp [h]; omega
  rw [List.getElem?_append_right (by omega), e, Nat.sub_self, List.getElem?_drop, Nat.add_zero, List.getD_eq_getElem?_getD, List.getElem?_eq_getElem hi]; rfl
theorem zs_step (H V : List Nat) (h : V.length = H.length) (i : Nat) (hi : i < H.length) : (zs H V i).set i (Sh.ad (H.getD i 0) (V.getD i 0)) = zs H V (i + 1) := by
  unfold zs
  have e : (List.take i (List.zipWith Sh.ad H V)).length = i := by simp [h]; omega
  rw [List.set_append, if_neg (by omega), e, Nat.sub_self, List.drop_eq_getElem_cons hi, List.set_cons_zero, List.take_succ_eq_append_getElem (by simp [h]; exact hi), List.append_assoc]
  simp [List.getD_eq_getElem?_getD, hi, h]
theorem sumCells_set (H : List Nat) (i x : Nat) (buf : ByteArray) (n : Nat) (hi : i < H.length) : (sumCells H buf n).toArray.setIfInBounds i (.int .u64 (x : Nat)) = (sumCells (H.set i x) buf n).toArray := by
  simp only [List.setIfInBounds_toArray, sumCells]
  rw [List.set_append, if_pos (by simpa [wv] using hi)]
  simp [wv, List.map_set]
theorem sumCells_get (H : List Nat) (i x : Nat) (buf : ByteArray) (n : Nat) (hi : H[i]? = some x) : (sumCells H buf n).toArray[i]? = some (.int .u64 (x : Nat)) := by
  have hl := (List.getElem?_eq_some_iff.1 hi).1
  simp only [List.getElem?_toArray, sumCells]
  rw [List.getElem?_append_left (by simpa [wv] using hl), wv, List.getElem?_map, hi]; rfl
theorem grown_of_below {w w' : World} (h : Below w.heap.size w w') (r : Option Nat) : w.grownBy w' r := ⟨h.os, h.tape, h.output, h.size, fun k hk _ => h.block k hk⟩
theorem grown_set {w w' : World} {b : Nat} (h : w.grownBy w' (some b)) (o : Nat) (v : Value) : w.grownBy (w'.setCell ⟨b, o, none⟩ v) (some b) :=
  ⟨h.os, h.tape, h.output, by simp; exact h.size, fun k hk hne => (heap_setCell_other _ _ _ _ (by intro e; exact hne (by rw [e]))).trans (h.block k hk hne)⟩
theorem grown_drewN {w w' : World} {r : Option Nat} (h : w.grownBy w' r) (n : Nat) : w.grownBy (w'.drewN n) r := ⟨h.os, h.tape, h.output, h.size, h.block⟩
set_option maxHeartbeats 4000000 in
set_option maxRecDepth 100000 in
theorem mix_any (B : Nat) (x0 x1 x2 x3 x4 x5 x6 x7 : Nat) (buf : ByteArray) (n : Nat) (s : ByteArray) (w : World) (hs : 128 ≤ s.size)
    (hx0 : x0 < 18446744073709551616) (hx1 : x1 < 18446744073709551616) (hx2 : x2 < 18446744073709551616) (hx3 : x3 < 18446744073709551616)
    (hx4 : x4 < 18446744073709551616) (hx5 : x5 < 18446744073709551616) (hx6 : x6 < 18446744073709551616) (hx7 : x7 < 18446744073709551616)
    (hB : 0 < B) (hBw : B < w.heap.size) (hK : Keys w) (hw : w.heap[B]? = some (.cells (sumCells (hvs x0 x1 x2 x3 x4 x5 x6 x7) buf n).toArray 51)) :
    Calls Tryd.prog 29 #[.pointer (some ⟨B, 0, none⟩), .string s] w fun e w' => e = .returned (.tuple #[]) ∧
      w'.heap[B]? = some (.cells (sumCells (Sh.comp (hvs x0 x1 x2 x3 x4 x5 x6 x7) (s.data.toList.take 128)) buf n).toArray 51) ∧ w.grownBy w' (some B) := by
  have hz : ∀ W, (zeroValue 64).run Tryd.prog W = .ok (.agg Z80) W := fun W => by kernel_rfl
  have hz8 : ∀ W, (zeroValue 26).run Tryd.prog W = .ok (.agg (#[.int .u64 0, .int .u64 0, .int .u64 0, .int .u64 0, .int .u64 0, .int .u64 0, .int .u64 0, .int .u64 0] : Array Value)) W := fun W => by kernel_rfl
  have hL := Sh.sched_length (s.data.toList.take 128)
  have hLt := Sh.sched_lt (s.data.toList.take 128)
  have hsp := spread_any s w hs
  unfold Sh.comp
  generalize hLL : Sh.sched (s.data.toList.take 128) = L at *
  clear hLL
  go_enter Tryd.func29, Tryd.ntmps29
  go_wp2_with fail
  refine hsp.mono ?_
  rintro e w1 ⟨rfl, hb1⟩
  have hK1 := Lib.hid hK
  clear hK
  have hi64 : (Tryd.prog.info? 64).map (·.size) = some 80 := by kernel_rfl
  have hi26 : (Tryd.prog.info? 26).map (·.size) = some 8 := by kernel_rfl
  have hlw : (wv L).toArray.size = 80 := by simp [wv, hL]
  have hC1 : (Tryd.prog.info? 64).map (·.size) = some (wv L).toArray.size := by rw [hi64, hlw]
  have hC2 : Z80.size = (wv L).toArray.size := by rw [hlw]; simp [Z80]
  have hC3 : (wv L).toArray.all (·.oneCell') = true := by simp [wv]; intro _ _; rfl
  have f1 : ((w1.alloc (.cells Z80 64)).setRow w1.heap.size (wv L).toArray).heap.size = w1.heap.size + 1 := by simp
  have f2 : ((w1.alloc (.cells Z80 64)).setRow w1.heap.size (wv L).toArray).heap[w1.heap.size]? = some (.cells (wv L).toArray 64) := setRow_heap _ _ _ _ _ _ (heap_alloc_new _ _)
  have f3 : Below w.heap.size w ((w1.alloc (.cells Z80 64)).setRow w1.heap.size (wv L).toArray) := below_setRow (hb1.alloc hb1.size _) hb1.size _
  have f4 : ((w1.alloc (.cells Z80 64)).setRow w1.heap.size (wv L).toArray).rangeAt B 0 (wv (hvs x0 x1 x2 x3 x4 x5 x6 x7)) := by
    intro j v hv
    rw [f3.cell (by exact hBw), cell_of_row _ _ _ _ _ _ hw]
    simp only [Nat.zero_add, sumCells, List.getElem?_toArray]
    rw [List.getElem?_append_left (by have := (List.getElem?_eq_some_iff.1 hv).1; exact this)]
    exact hv
  have hD1 : (Tryd.prog.info? 26).map (·.size) = some (wv (hvs x0 x1 x2 x3 x4 x5 x6 x7)).length := by rw [hi26]; rfl
  have hD2 : (#[.int .u64 0, .int .u64 0, .int .u64 0, .int .u64 0, .int .u64 0, .int .u64 0, .int .u64 0, .int .u64 0] : Array Value).size = (wv (hvs x0 x1 x2 x3 x4 x5 x6 x7)).toArray.size := by simp [wv, hvs]
  have hD3 : (wv (hvs x0 x1 x2 x3 x4 x5 x6 x7)).toArray.all (·.oneCell') = true := by simp [wv]; intro _ _; rfl
  have hu26 : Tryd.prog.underlying 26 = some (.array 8 25) := by kernel_rfl
  have HB1 := Lib.hid hb1.size
  clear hb1
  go_wp2_with (first
    | (refine wpList_store_row rfl 64 _ _ rfl w1.heap.size (wv L).toArray rfl rfl 64 Z80 (heap_alloc_new _ _) hC1 hC2 hC3 ?_; generalize hW2 : (w1.alloc (.cells Z80 64)).setRow w1.heap.size (wv L).toArray = W2 at *; clear hW2; generalize w1.heap.size = m at *)
    | (refine wpList_load_mid rfl 26 _ rfl B 0 rfl (wv (hvs x0 x1 x2 x3 x4 x5 x6 x7)) (.array 8 25) f4 hu26 rfl hD1 ?_)
    | (refine wpList_store_row rfl 26 _ _ rfl (m + 1) (wv (hvs x0 x1 x2 x3 x4 x5 x6 x7)).toArray rfl rfl 26 (#[.int .u64 0, .int .u64 0, .int .u64 0, .int .u64 0, .int .u64 0, .int .u64 0, .int .u64 0, .int .u64 0] : Array Value) (by rw [← f1]; exact heap_alloc_new _ _) (by rw [hi26]; rfl) hD2 hD3 ?_
       obtain ⟨W3, hW3, g1, g2, g3⟩ : ∃ W3, (W2.alloc (.cells (#[.int .u64 0, .int .u64 0, .int .u64 0, .int .u64 0, .int .u64 0, .int .u64 0, .int .u64 0, .int .u64 0] : Array Value) 26)).setRow (m + 1) (wv (hvs x0 x1 x2 x3 x4 x5 x6 x7)).toArray = W3 ∧ Below w.heap.size w W3 ∧ W3.heap[m]? = some (.cells (wv L).toArray 64) ∧ W3.heap[m + 1]? = some (.cells (wv (hvs x0 x1 x2 x3 x4 x5 x6 x7)).toArray 26) :=
         ⟨_, rfl, below_setRow (f3.alloc f3.size _) (by have := HB1.out; omega) _, (setRow_other _ _ _ _ (by omega)).trans ((heap_alloc_old _ _ (by omega)).trans f2), setRow_heap _ _ _ _ _ _ (by rw [← f1]; exact heap_alloc_new _ _)⟩
       rw [hW3]
       clear hW3 f1 f2 f3 f4 W2))
  clear hC1 hC2 hC3 hD1 hD2 hD3
  have hl0 : L.length = 80 := hL
  clear hL
  go_loopw [19] (fun i wr => ∃ (t a b c d e f g h : Nat), t ≤ 80 ∧ i = .int .i64 t ∧ Hid (Below w.heap.size w wr) ∧ Hid (Sh.rnds L t (hvs x0 x1 x2 x3 x4 x5 x6 x7) = hvs a b c d e f g h) ∧
      (a < 18446744073709551616 ∧ b < 18446744073709551616 ∧ c < 18446744073709551616 ∧ d < 18446744073709551616 ∧ e < 18446744073709551616 ∧ f < 18446744073709551616 ∧ g < 18446744073709551616 ∧ h < 18446744073709551616) ∧
      Hid (wr.heap[m]? = some (.cells (wv L).toArray 64)) ∧ Hid (wr.heap[m + 1]? = some (.cells (wv (hvs a b c d e f g h)).toArray 26))) (fun i _ => 80 - (intOf i).toNat)
  case atStart => exact ⟨0, x0, x1, x2, x3, x4, x5, x6, x7, by omega, rfl, Lib.hid g1, Lib.hid rfl, ⟨hx0, hx1, hx2, hx3, hx4, hx5, hx6, hx7⟩, Lib.hid g2, Lib.hid g3⟩
  case round =>
    obtain ⟨t, a, b, c, d, e, f, g, h, ht, rfl, hBe, hR, ⟨ha, hb, hc, hd, he, hf, hg, hh⟩, hW, hV⟩ := hrel
    by_cases hlt : t < 80
    · have c0 : wr.cell? ⟨m + 1, 0, none⟩ = some (.int .u64 (a : Nat)) := (cell_of_row _ _ _ _ _ _ hV.out).trans rfl
      have c1 : wr.cell? ⟨m + 1, 1, none⟩ = some (.int .u64 (b : Nat)) := (cell_of_row _ _ _ _ _ _ hV.out).trans rfl
      have c2 : wr.cell? ⟨m + 1, 2, none⟩ = some (.int .u64 (c : Nat)) := (cell_of_row _ _ _ _ _ _ hV.out).trans rfl
      have c3 : wr.cell? ⟨m + 1, 3, none⟩ = some (.int .u64 (d : Nat)) := (cell_of_row _ _ _ _ _ _ hV.out).trans rfl
      have c4 : wr.cell? ⟨m + 1, 4, none⟩ = some (.int .u64 (e : Nat)) := (cell_of_row _ _ _ _ _ _ hV.out).trans rfl
      have c5 : wr.cell? ⟨m + 1, 5, none⟩ = some (.int .u64 (f : Nat)) := (cell_of_row _ _ _ _ _ _ hV.out).trans rfl
      have c6 : wr.cell? ⟨m + 1, 6, none⟩ = some (.int .u64 (g : Nat)) := (cell_of_row _ _ _ _ _ _ hV.out).trans rfl
      have c7 : wr.cell? ⟨m + 1, 7, none⟩ = some (.int .u64 (h : Nat)) := (cell_of_row _ _ _ _ _ _ hV.out).trans rfl
      have ck : wr.cell? ⟨0, t, none⟩ = some (.int .u64 (Sh.kw.getD t 0 : Nat)) := (hBe.out.cell (by exact hK1.out.1)).trans (hK1.out.2 t hlt)
      have cw : wr.cell? ⟨m, t, none⟩ = some (.int .u64 (L.getD t 0 : Nat)) := (cell_of_row _ _ _ _ _ _ hW.out).trans (by simp [wv, hlt, hl0])
      have hwt := hLt t
      have hkt := kw_lt t
      have hN : Sh.rnds L (t + 1) (hvs x0 x1 x2 x3 x4 x5 x6 x7) = hvs (Sh.ad (Sh.t1 e f g h (Sh.kw.getD t 0) (L.getD t 0)) (Sh.t2 a b c)) a b c (Sh.ad d (Sh.t1 e f g h (Sh.kw.getD t 0) (L.getD t 0))) e f g := by
        rw [Sh.rnds, hR.out]; rfl
      have HN := Lib.hid hN
      clear hN
      generalize L.getD t 0 = wt at *
      generalize Sh.kw.getD t 0 = kt at *
      have R1 : ∀ W, Calls Tryd.prog 37 #[.int .u64 (e : Nat), .int .i64 (-14)] W fun e' w' => e' = .returned (.int .u64 ((Sh.rr e 14 : Nat) : Int)) ∧ w' = W := fun W => rot_any e 14 W he (by omega) (by omega)
      have R2 : ∀ W, Calls Tryd.prog 37 #[.int .u64 (e : Nat), .int .i64 (-18)] W fun e' w' => e' = .returned (.int .u64 ((Sh.rr e 18 : Nat) : Int)) ∧ w' = W := fun W => rot_any e 18 W he (by omega) (by omega)
      have R3 : ∀ W, Calls Tryd.prog 37 #[.int .u64 (e : Nat), .int .i64 (-41)] W fun e' w' => e' = .returned (.int .u64 ((Sh.rr e 41 : Nat) : Int)) ∧ w' = W := fun W => rot_any e 41 W he (by omega) (by omega)
      have R4 : ∀ W, Calls Tryd.prog 37 #[.int .u64 (a : Nat), .int .i64 (-28)] W fun e' w' => e' = .returned (.int .u64 ((Sh.rr a 28 : Nat) : Int)) ∧ w' = W := fun W => rot_any a 28 W ha (by omega) (by omega)
      have R5 : ∀ W, Calls Tryd.prog 37 #[.int .u64 (a : Nat), .int .i64 (-34)] W fun e' w' => e' = .returned (.int .u64 ((Sh.rr a 34 : Nat) : Int)) ∧ w' = W := fun W => rot_any a 34 W ha (by omega) (by omega)
      have R6 : ∀ W, Calls Tryd.prog 37 #[.int .u64 (a : Nat), .int .i64 (-39)] W fun e' w' => e' = .returned (.int .u64 ((Sh.rr a 39 : Nat) : Int)) ∧ w' = W := fun W => rot_any a 39 W ha (by omega) (by omega)
      have RR1 := Lib.hid R1
      have RR2 := Lib.hid R2
      have RR3 := Lib.hid R3
      have RR4 := Lib.hid R4
      have RR5 := Lib.hid R5
      have RR6 := Lib.hid R6
      clear R1 R2 R3 R4 R5 R6
      go_wp2_with fail
      go_quiet (fail)
      go_wp2_with fail
      go_quiet ((go_at_call 37; with_reducible (first | refine (RR1.out _).mono ?_ | refine (RR2.out _).mono ?_ | refine (RR3.out _).mono ?_ | refine (RR4.out _).mono ?_ | refine (RR5.out _).mono ?_ | refine (RR6.out _).mono ?_); rintro _ _ ⟨rfl, rfl⟩; exact ⟨rfl, _, rfl⟩))
      rw [t1_eq e f g h kt wt he hf hg]
      have hT1 := t1_lt e f g h kt wt
      generalize Sh.t1 e f g h kt wt = T1 at *
      go_wp2_with fail
      go_quiet ((go_at_call 37; with_reducible (first | refine (RR1.out _).mono ?_ | refine (RR2.out _).mono ?_ | refine (RR3.out _).mono ?_ | refine (RR4.out _).mono ?_ | refine (RR5.out _).mono ?_ | refine (RR6.out _).mono ?_); rintro _ _ ⟨rfl, rfl⟩; exact ⟨rfl, _, rfl⟩))
      rw [t2_eq a b c ha hb hc]
      have hT2 := t2_lt a b c
      generalize Sh.t2 a b c = T2 at *
      have z0 : wr.frozen? ⟨m + 1, 0, none⟩ = false := frozen_of_row _ _ _ _ _ hV.out
      have z1 : wr.frozen? ⟨m + 1, 1, none⟩ = false := frozen_of_row _ _ _ _ _ hV.out
      have z2 : wr.frozen? ⟨m + 1, 2, none⟩ = false := frozen_of_row _ _ _ _ _ hV.out
      have z3 : wr.frozen? ⟨m + 1, 3, none⟩ = false := frozen_of_row _ _ _ _ _ hV.out
      have z4 : wr.frozen? ⟨m + 1, 4, none⟩ = false := frozen_of_row _ _ _ _ _ hV.out
      have z5 : wr.frozen? ⟨m + 1, 5, none⟩ = false := frozen_of_row _ _ _ _ _ hV.out
      have z6 : wr.frozen? ⟨m + 1, 6, none⟩ = false := frozen_of_row _ _ _ _ _ hV.out
      have z7 : wr.frozen? ⟨m + 1, 7, none⟩ = false := frozen_of_row _ _ _ _ _ hV.out
      go_wp2_with fail
      go_roundw
      case rel =>
        have hmB : w.heap.size ≤ m + 1 := by have := HB1.out; omega
        refine ⟨t + 1, Sh.ad T1 T2, a, b, c, Sh.ad d T1, e, f, g, by omega, by go_num, Lib.hid ?_, HN, ⟨Sh.ad_lt _ _, ha, hb, hc, Sh.ad_lt _ _, he, hf, hg⟩, Lib.hid ?_, Lib.hid ?_⟩
        · repeat (refine Below.setCell ?_ hmB _)
          exact drewN_below hBe.out _
        · iterate 8 rw [heap_setCell_other _ _ _ _ (by simp)]
          exact hW.out
        · rw [ad_eq, ad_eq]
          exact set8_row _ (m + 1) 26 hV.out _ _ _ _ _ _ _ _
      case measure => simp [intOf]; omega
    · go_wp2_with fail
      obtain rfl : t = 80 := by omega
      have hl2 : (hvs a b c d e f g h).length = (hvs x0 x1 x2 x3 x4 x5 x6 x7).length := rfl
      go_loopw [99] (fun i w2 => ∃ t : Nat, t ≤ 8 ∧ i = .int .i64 t ∧ Hid (w.grownBy w2 (some B)) ∧ Hid (w2.heap[B]? = some (.cells (sumCells (zs (hvs x0 x1 x2 x3 x4 x5 x6 x7) (hvs a b c d e f g h) t) buf n).toArray 51)) ∧
        Hid (w2.heap[m + 1]? = some (.cells (wv (hvs a b c d e f g h)).toArray 26))) (fun i _ => 8 - (intOf i).toNat)
      case atStart => exact ⟨0, by omega, rfl, Lib.hid (grown_of_below hBe.out _), Lib.hid (by rw [zs_zero]; exact (hBe.out.block B hBw).trans hw), hV⟩
      case round =>
        obtain ⟨t, ht, rfl, hG, hX, hV2⟩ := hrel
        by_cases hlt : t < 8
        · have cx : wr.cell? ⟨B, t, none⟩ = some (.int .u64 ((hvs x0 x1 x2 x3 x4 x5 x6 x7).getD t 0 : Nat)) := (cell_of_row _ _ _ _ _ _ hX.out).trans (sumCells_get _ _ _ _ _ (zs_get _ _ hl2 t hlt))
          have cv : wr.cell? ⟨m + 1, t, none⟩ = some (.int .u64 ((hvs a b c d e f g h).getD t 0 : Nat)) := (cell_of_row _ _ _ _ _ _ hV2.out).trans (by
            simp only [List.getElem?_toArray, wv, List.getElem?_map]
            rw [List.getD_eq_getElem?_getD, List.getElem?_eq_getElem (show t < (hvs a b c d e f g h).length from hlt)]; rfl)
          have cz : wr.frozen? ⟨B, t, none⟩ = false := frozen_of_row _ _ _ _ _ hX.out
          have hs1 := sumCells_set (zs (hvs x0 x1 x2 x3 x4 x5 x6 x7) (hvs a b c d e f g h) t) t (Sh.ad ((hvs x0 x1 x2 x3 x4 x5 x6 x7).getD t 0) ((hvs a b c d e f g h).getD t 0)) buf n (by rw [zs_length _ _ hl2 t (by exact ht)]; exact hlt)
          rw [zs_step _ _ hl2 t hlt] at hs1
          have HS := Lib.hid hs1
          clear hs1
          generalize (hvs x0 x1 x2 x3 x4 x5 x6 x7).getD t 0 = p at *
          generalize (hvs a b c d e f g h).getD t 0 = q at *
          go_wp2_with fail
          go_region
          rw [ad_eq]
          go_wp2_with fail
          go_roundw
          case rel =>
            refine ⟨t + 1, by omega, by go_num, Lib.hid (grown_set (grown_drewN hG.out _) _ _), Lib.hid ?_, Lib.hid ?_⟩
            · exact set1 hX.out HS.out
            · have hne : m + 1 ≠ B := by have := HB1.out; omega
              exact (heap_setCell_other wr ⟨B, t, none⟩ (m + 1) _ hne).trans hV2.out
          case measure => simp [intOf]; omega
        · go_wp2_with fail
          obtain rfl : t = 8 := by omega
          refine bodyPost_end (results_none rfl _ _ _) rfl ?_
          refine ⟨rfl, ?_, hG.out⟩
          rw [hR.out, hX.out, ← zs_end _ _ hl2]; rfl
end Go.Proofs.YtjlmhndfpfgfkaaDoor.E
