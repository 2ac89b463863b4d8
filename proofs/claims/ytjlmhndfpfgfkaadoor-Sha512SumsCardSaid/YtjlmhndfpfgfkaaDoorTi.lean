import Derived.Test.YtjlmhndfpfgfkaaDoorTh
import Derived.Test.YtjlmhndfpfgfkaaDoorWEqStruct
set_option linter.unusedVariables false
set_option linter.unusedSimpArgs false
namespace Go.Proofs.YtjlmhndfpfgfkaaDoor.E
open Go.RowKit Go.Proofs.YtjlmhndfpfgfkaaDoorW.PrintWords Go.Proofs.YtjlmhndfpfgfkaaDoorW.PrintLast Go.Proofs.YtjlmhndfpfgfkaaDoorW.PrintMore
attribute [local go_sem] max2_int min2_int max_two min_two
open S (mkB be num)
theorem eqd_step (d : Nat) (w : World) (xs : Array Value) (j : Nat) (is : List Nat) (v : Int) (h : xs[j]? = some (.int .u64 v)) :
    (Op.eqItems (d + 1) 25 1 xs xs (j :: is)).run Tryd.prog w = (Op.eqItems (d + 1) 25 1 xs xs is).run Tryd.prog w := by
  have hp : (part 25 xs (j * 1)).run Tryd.prog w = .ok (.int .u64 v) w := by
    have ha : (isAgg 25).run Tryd.prog w = .ok false w := by kernel_rfl
    unfold part
    simp [Sem.run_bind, ha, h]
  have he : (Op.equalIn (d + 1) 25 (.int .u64 v) (.int .u64 v)).run Tryd.prog w = .ok (v == v) w := run_equalIn_int (P := Tryd.prog) (w := w) d 25 .u64 .u64 v v Tryd.underlying25
  rw [Nat.mul_one] at hp
  simp [Op.eqItems, Sem.run_bind, hp, he]
theorem eqd8 (d : Nat) (w : World) (v0 v1 v2 v3 v4 v5 v6 v7 : Int) : (Op.equalIn (d + 2) 26 (.agg #[.int .u64 v0, .int .u64 v1, .int .u64 v2, .int .u64 v3, .int .u64 v4, .int .u64 v5, .int .u64 v6, .int .u64 v7]) (.agg #[.int .u64 v0, .int .u64 v1, .int .u64 v2, .int .u64 v3, .int .u64 v4, .int .u64 v5, .int .u64 v6, .int .u64 v7])).run Tryd.prog w = .ok true w := by
  have hu26 : Tryd.prog.underlying 26 = some (.array 8 25) := by kernel_rfl
  obtain ⟨i, hi⟩ : ∃ i, Tryd.prog.info? 25 = some i := ⟨_, rfl⟩
  have hc : Tryd.prog.cellsOf 25 = 1 := by kernel_rfl
  rw [run_equalIn_array w (d + 1) _ _ hu26 hi, hc, show List.range 8 = [0, 1, 2, 3, 4, 5, 6, 7] from rfl,
    eqd_step d w _ 0 _ v0 rfl, eqd_step d w _ 1 _ v1 rfl, eqd_step d w _ 2 _ v2 rfl, eqd_step d w _ 3 _ v3 rfl, eqd_step d w _ 4 _ v4 rfl, eqd_step d w _ 5 _ v5 rfl, eqd_step d w _ 6 _ v6 rfl, eqd_step d w _ 7 _ v7 rfl]
  simp [Op.eqItems]
theorem eq10 (w : World) (v0 v1 v2 v3 v4 v5 v6 v7 n : Int) (s : ByteArray) : (Op.equalIn 10000 28 (.agg #[.int .u64 v0, .int .u64 v1, .int .u64 v2, .int .u64 v3, .int .u64 v4, .int .u64 v5, .int .u64 v6, .int .u64 v7, .string s, .int .u64 n]) (.agg #[.int .u64 v0, .int .u64 v1, .int .u64 v2, .int .u64 v3, .int .u64 v4, .int .u64 v5, .int .u64 v6, .int .u64 v7, .string s, .int .u64 n])).run Tryd.prog w = .ok true w := by
  refine eqA_of (d := 9999) Tryd.underlying28 (by kernel_rfl) ?_
  refine eqf_end (a := .agg #[.int .u64 v0, .int .u64 v1, .int .u64 v2, .int .u64 v3, .int .u64 v4, .int .u64 v5, .int .u64 v6, .int .u64 v7]) (b := .agg #[.int .u64 v0, .int .u64 v1, .int .u64 v2, .int .u64 v3, .int .u64 v4, .int .u64 v5, .int .u64 v6, .int .u64 v7]) (by kernel_rfl) (by kernel_rfl) (by kernel_rfl) (eqd8 9997 w _ _ _ _ _ _ _ _) ?_
  refine eqf_end (a := .string s) (b := .string s) (by kernel_rfl) (by kernel_rfl) (by kernel_rfl) ?_ ?_
  · rw [run_equalIn_string w 9998 9 s s Tryd.underlying9]; simp
  refine eqf_last (a := .int .u64 n) (b := .int .u64 n) (by kernel_rfl) (by kernel_rfl) (by kernel_rfl) ?_
  rw [run_equalIn_int w 9998 25 .u64 .u64 n n Tryd.underlying25]; simp
theorem eqC (w : World) (H : List Nat) (buf : ByteArray) (n : Nat) (hl : H.length = 8) : (Op.equalIn 10000 28 (.agg (sumCells H buf n).toArray) (.agg (sumCells H buf n).toArray)).run Tryd.prog w = .ok true w := by
  obtain ⟨a, b, c, d, e, f, g, i, rfl⟩ := eight H hl
  rw [cells_lit]
  exact eq10 w _ _ _ _ _ _ _ _ _ _
def cut200 (b : ByteArray) : ByteArray := b.extract 0 (min b.size 200)
theorem cut200_size (b : ByteArray) : (cut200 b).size ≤ 200 := by unfold cut200; rw [ByteArray.size_extract]; omega
set_option maxHeartbeats 4000000 in
set_option maxRecDepth 100000 in
theorem few_any (H : List Nat) (buf : ByteArray) (n : Nat) (w : World) (hl : H.length = 8) (hb : buf.size ≤ 9223372036854775807) :
    Calls Tryd.prog 18 #[.agg (sumCells H buf n).toArray] w fun e w' => e = .returned (.agg (sumCells H (cut200 buf) n).toArray) ∧ Below w.heap.size w w' := by
  have hz28 : ∀ W, (zeroValue 28).run Tryd.prog W = .ok (.agg #[.int .u64 0, .int .u64 0, .int .u64 0, .int .u64 0, .int .u64 0, .int .u64 0, .int .u64 0, .int .u64 0, .string ⟨#[]⟩, .int .u64 0]) W := fun W => by kernel_rfl
  have hi28 : (Tryd.prog.info? 28).map (·.size) = some 10 := by kernel_rfl
  have g8 := sumCells_8 H buf n hl
  have hs8 : (sumCells H buf n).toArray.setIfInBounds 8 (.string (buf.extract 0 (min buf.size 200))) = (sumCells H (cut200 buf) n).toArray := by
    rw [sumCells_buf H buf _ n hl]; rfl
  obtain ⟨h1, h2⟩ := cells_size H (cut200 buf) n hl
  have hmin : (if (200 : Int) < (buf.size : Int) then (200 : Int) else (buf.size : Int)) = ((min buf.size 200 : Nat) : Int) := by
    split <;> omega
  have hk : min buf.size 200 ≤ buf.size := Nat.min_le_left _ _
  generalize min buf.size 200 = k at *
  generalize (sumCells H (cut200 buf) n).toArray = C2 at *
  generalize (sumCells H buf n).toArray = C at *
  have HS8 := Lib.hid hs8
  have H1 := Lib.hid h1
  have H2 := Lib.hid h2
  clear hs8 h1 h2
  have HRa : Hid (((w.alloc (.cells (C.setIfInBounds 8 (.string (buf.extract 0 k))) 28)).alloc (.cells zsum 28)).heap[w.heap.size]? = some (.cells C2 28)) := Lib.hid (by rw [HS8.out]; exact heap_alloc2_old w _ _)
  have HR2 : Hid (((w.alloc (.cells (C.setIfInBounds 8 (.string (buf.extract 0 k))) 28)).alloc (.cells zsum 28)).heap[w.heap.size + 1]? = some (.cells zsum 28)) := Lib.hid (heap_alloc2_new w _ _)
  go_enter Tryd.func18, Tryd.ntmps18
  go_wp2_with (first
    | (refine wpList_load_row rfl 28 _ rfl w.heap.size rfl 28 _ (0, 0) _ HRa.out Tryd.underlying28 rfl (by rw [hi28, H1.out]) ?_)
    | (refine wpList_store_row rfl 28 _ _ rfl (w.heap.size + 1) _ rfl rfl 28 _ HR2.out (by rw [hi28, H1.out]) (by rw [H1.out]; rfl) H2.out ?_))
  refine bodyPost_ret (results_cell_row rfl _ _ (w.heap.size + 1) 28 C2 (0, 0) _ rfl (setRow_heap _ _ _ _ _ _ HR2.out) Tryd.underlying28 rfl (by rw [hi28, H1.out])) rfl ?_
  exact ⟨rfl, below_setRow (((Below.refl _ _).alloc (Nat.le_refl _) _).alloc (by simp) _) (by omega) _⟩
end Go.Proofs.YtjlmhndfpfgfkaaDoor.E
