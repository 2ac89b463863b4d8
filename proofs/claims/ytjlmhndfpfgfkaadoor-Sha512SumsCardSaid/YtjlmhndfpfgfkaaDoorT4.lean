import Derived.Test.YtjlmhndfpfgfkaaDoorT3
set_option linter.unusedVariables false
set_option linter.unusedSimpArgs false
namespace Go.Proofs.YtjlmhndfpfgfkaaDoor.E
open Go.RowKit Go.Proofs.YtjlmhndfpfgfkaaDoorW.PrintWords Go.Proofs.YtjlmhndfpfgfkaaDoorW.PrintLast Go.Proofs.YtjlmhndfpfgfkaaDoorW.PrintMore
attribute [local go_sem] max2_int min2_int max_two min_two
open S (mkB be num)
theorem eight (H : List Nat) (h : H.length = 8) : ∃ a b c d e f g i, H = hvs a b c d e f g i := by
  match H, h with
  | [a, b, c, d, e, f, g, i], _ => exact ⟨a, b, c, d, e, f, g, i, rfl⟩
/-- a block mixed in, the words as a list. -/
theorem mix_c (B : Nat) (H : List Nat) (buf : ByteArray) (n : Nat) (s : ByteArray) (w : World) (hs : 128 ≤ s.size) (hl : H.length = 8) (hx : ∀ x ∈ H, x < 18446744073709551616)
    (hB : 0 < B) (hBw : B < w.heap.size) (hK : Keys w) (hw : w.heap[B]? = some (.cells (sumCells H buf n).toArray 51)) :
    Calls Tryd.prog 29 #[.pointer (some ⟨B, 0, none⟩), .string s] w fun e w' => e = .returned (.tuple #[]) ∧
      w'.heap[B]? = some (.cells (sumCells (Sh.comp H s.data.toList) buf n).toArray 51) ∧ w.grownBy w' (some B) := by
  obtain ⟨a, b, c, d, e, f, g, i, rfl⟩ := eight H hl
  rw [← Sh.comp_take]
  exact mix_any B a b c d e f g i buf n s w hs (hx _ (by simp [hvs])) (hx _ (by simp [hvs])) (hx _ (by simp [hvs])) (hx _ (by simp [hvs])) (hx _ (by simp [hvs])) (hx _ (by simp [hvs])) (hx _ (by simp [hvs])) (hx _ (by simp [hvs])) hB hBw hK hw
theorem keys_grown {w w' : World} {B : Nat} (h : w.grownBy w' (some B)) (hB : 0 < B) (hK : Keys w) : Keys w' := by
  refine ⟨Nat.lt_of_lt_of_le hK.1 h.size, fun j hj => ?_⟩
  rw [World.cell?_of_block (w := w) (h.block 0 hK.1 (by intro e; injection e with e; omega))]
  exact hK.2 j hj
theorem sumCells_buf (H : List Nat) (buf buf' : ByteArray) (n : Nat) (hl : H.length = 8) : (sumCells H buf n).toArray.setIfInBounds 8 (.string buf') = (sumCells H buf' n).toArray := by
  obtain ⟨a, b, c, d, e, f, g, i, rfl⟩ := eight H hl
  simp [sumCells, wv, hvs]
theorem sumCells_n (H : List Nat) (buf : ByteArray) (n n' : Nat) (hl : H.length = 8) : (sumCells H buf n).toArray.setIfInBounds 9 (.int .u64 (n' : Nat)) = (sumCells H buf n').toArray := by
  obtain ⟨a, b, c, d, e, f, g, i, rfl⟩ := eight H hl
  simp [sumCells, wv, hvs]
theorem sumCells_8 (H : List Nat) (buf : ByteArray) (n : Nat) (hl : H.length = 8) : (sumCells H buf n).toArray[8]? = some (.string buf) := by
  obtain ⟨a, b, c, d, e, f, g, i, rfl⟩ := eight H hl
  rfl
theorem sumCells_9 (H : List Nat) (buf : ByteArray) (n : Nat) (hl : H.length = 8) : (sumCells H buf n).toArray[9]? = some (.int .u64 (n : Nat)) := by
  obtain ⟨a, b, c, d, e, f, g, i, rfl⟩ := eight H hl
  rfl
theorem take_eq (H : List Nat) (buf s : ByteArray) : Sh.blocks (buf ++ s).data.toList.length H (buf ++ s).data.toList = Sh.take H buf.data.toList s.data.toList := by
  unfold Sh.take
  have e : (buf ++ s).data.toList = buf.data.toList ++ s.data.toList := by simp
  rw [e, List.length_append]
attribute [local irreducible] Sh.sched Sh.rr Sh.ad Sh.sg0 Sh.sg1 S.num Sh.kw Sh.t1 Sh.t2 Sh.nt Sh.comp Sh.blocks Sh.take
set_option maxHeartbeats 4000000 in
set_option maxRecDepth 100000 in
theorem take_any (B : Nat) (H : List Nat) (buf : ByteArray) (n : Nat) (s : ByteArray) (w : World) (hl : H.length = 8) (hx : ∀ x ∈ H, x < 18446744073709551616)
    (hn : n + s.size < 18446744073709551616) (hsz : buf.size + s.size < 1000000000) (hB : 0 < B) (hBw : B < w.heap.size) (hK : Keys w) (hw : w.heap[B]? = some (.cells (sumCells H buf n).toArray 51)) :
    Calls Tryd.prog 24 #[.pointer (some ⟨B, 0, none⟩), .string s] w fun e w' => e = .returned (.tuple #[]) ∧
      w'.heap[B]? = some (.cells (sumCells (Sh.take H buf.data.toList s.data.toList).1 (mkB (Sh.take H buf.data.toList s.data.toList).2) (n + s.size)).toArray 51) ∧ w.grownBy w' (some B) := by
  have c8 : w.cell? ⟨B, 8, none⟩ = some (.string buf) := (cell_of_row _ _ _ _ _ _ hw).trans (sumCells_8 _ _ _ hl)
  have c9 : w.cell? ⟨B, 9, none⟩ = some (.int .u64 (n : Nat)) := (cell_of_row _ _ _ _ _ _ hw).trans (sumCells_9 _ _ _ hl)
  have z8 : w.frozen? ⟨B, 8, none⟩ = false := frozen_of_row _ _ _ _ _ hw
  have z9 : w.frozen? ⟨B, 9, none⟩ = false := frozen_of_row _ _ _ _ _ hw
  have hKH := Lib.hid hK
  have hWH := Lib.hid hw
  clear hK hw
  go_enter Tryd.func24, Tryd.ntmps24
  go_wp2_with fail
  go_loopw [1] (fun v wr => ∃ (r : ByteArray) (H1 : List Nat), v = .string r ∧ H1.length = 8 ∧ Hid (∀ x ∈ H1, x < 18446744073709551616) ∧ r.size ≤ buf.size + s.size ∧ Hid (Sh.blocks r.data.toList.length H1 r.data.toList = Sh.take H buf.data.toList s.data.toList) ∧
      Hid (wr.heap[B]? = some (.cells (sumCells H1 buf (n + s.size)).toArray 51)) ∧ Hid (w.grownBy wr (some B))) (fun v _ => match v with | .string r => r.size | _ => 0)
  case atStart =>
    refine ⟨buf ++ s, H, rfl, hl, Lib.hid hx, by rw [ByteArray.size_append]; omega, Lib.hid (take_eq _ _ _), Lib.hid ?_, Lib.hid ?_⟩
    · have := set1 hWH.out (sumCells_n H buf n (n + s.size) hl)
      rw [show ((n + s.size : Nat) : Int) = (n : Int) + (s.size : Int) from by omega] at this
      exact this
    · exact grown_set ⟨rfl, rfl, rfl, Nat.le_refl _, fun _ _ _ => rfl⟩ _ _
  case round =>
    obtain ⟨r, H1, rfl, hl1, hx1, hr, hbl, hrow, hg⟩ := hrel
    have hKr := Lib.hid (keys_grown hg.out hB hKH.out)
    have hBr : B < wr.heap.size := Nat.lt_of_lt_of_le hBw hg.out.size
    by_cases hlt : 128 ≤ r.size
    · have hstep := Sh.blocks_step H1 r.data.toList (by simpa using hlt)
      rw [← extract_dat] at hstep
      have hst := Lib.hid hstep
      clear hstep
      go_wp2_with fail
      refine (mix_c B H1 buf (n + s.size) r wr hlt hl1 hx1.out hB hBr hKr.out hrow.out).mono ?_
      rintro e w1 ⟨rfl, hrow1, hg1⟩
      have hrow1' := Lib.hid hrow1
      have hg1' := Lib.hid (hg.out.trans hg1)
      clear hrow1 hg1
      go_wp2_with fail
      go_roundw
      case rel =>
        refine ⟨r.extract 128 r.size, Sh.comp H1 r.data.toList, rfl, by rw [Sh.comp_length, hl1], Lib.hid (Sh.comp_lt _ _), by rw [ByteArray.size_extract]; omega, Lib.hid (hst.out.symm.trans hbl.out), hrow1', hg1'⟩
      case measure => simp [ByteArray.size_extract]; omega
    · have d8 : wr.cell? ⟨B, 8, none⟩ = some (.string buf) := (cell_of_row _ _ _ _ _ _ hrow.out).trans (sumCells_8 _ _ _ hl1)
      have d8z : wr.frozen? ⟨B, 8, none⟩ = false := frozen_of_row _ _ _ _ _ hrow.out
      go_wp2_with fail
      refine bodyPost_end (results_none rfl _ _ _) rfl ?_
      have hd := Sh.blocks_done r.data.toList.length H1 r.data.toList (by simp; omega)
      rw [hbl.out] at hd
      refine ⟨rfl, ?_, grown_set hg.out _ _⟩
      rw [hd]
      exact set1 hrow.out (by rw [S.mkB_data]; exact sumCells_buf _ _ _ _ hl1)
end Go.Proofs.YtjlmhndfpfgfkaaDoor.E
