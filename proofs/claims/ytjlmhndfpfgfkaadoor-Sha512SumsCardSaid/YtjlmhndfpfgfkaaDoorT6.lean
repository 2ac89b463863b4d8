import Derived.Test.YtjlmhndfpfgfkaaDoorT5
set_option linter.unusedVariables false
set_option linter.unusedSimpArgs false
namespace Go.Proofs.YtjlmhndfpfgfkaaDoor.E
open Go.RowKit Go.Proofs.YtjlmhndfpfgfkaaDoorW.PrintWords Go.Proofs.YtjlmhndfpfgfkaaDoorW.PrintLast Go.Proofs.YtjlmhndfpfgfkaaDoorW.PrintMore
attribute [local go_sem] max2_int min2_int max_two min_two
open S (mkB be num)
attribute [local irreducible] Sh.sched Sh.rr Sh.ad Sh.sg0 Sh.sg1 S.num Sh.kw Sh.t1 Sh.t2 Sh.nt Sh.comp Sh.blocks Sh.take Sh.tail
set_option maxHeartbeats 4000000 in
set_option maxRecDepth 100000 in
theorem new_c (w : World) : Calls Tryd.prog 10 #[] w fun e w' => e = .returned (.agg (sumCells Sh.h0 ⟨#[]⟩ 0).toArray) ∧ Below w.heap.size w w' := by
  have hz26 : ∀ W, (zeroValue 26).run Tryd.prog W = .ok (.agg #[.int .u64 0, .int .u64 0, .int .u64 0, .int .u64 0, .int .u64 0, .int .u64 0, .int .u64 0, .int .u64 0]) W := fun W => by kernel_rfl
  have hz28 : ∀ W, (zeroValue 28).run Tryd.prog W = .ok (.agg #[.int .u64 0, .int .u64 0, .int .u64 0, .int .u64 0, .int .u64 0, .int .u64 0, .int .u64 0, .int .u64 0, .string ⟨#[]⟩, .int .u64 0]) W := fun W => by kernel_rfl
  go_enter Tryd.func10, Tryd.ntmps10
  go_wp2_with fail
  refine bodyPost_ret (results_cell_row rfl _ _ w.heap.size 28 _ (0, 0) _ rfl (heap_alloc_new _ _) Tryd.underlying28 rfl (by kernel_rfl)) rfl ?_
  exact ⟨rfl, (Below.refl _ _).alloc (Nat.le_refl _) _⟩
def rightB (buf : ByteArray) (n : Nat) : Bool := decide (buf.size < 128 ∧ n ≤ 1099511627776 ∧ n % 128 = buf.size)
set_option maxHeartbeats 4000000 in
set_option maxRecDepth 100000 in
theorem right_c (H : List Nat) (buf : ByteArray) (n : Nat) (hl : H.length = 8) (hn : n < 18446744073709551616) (hb : buf.size < 1000000000) (w : World) :
    Calls Tryd.prog 20 #[.agg (sumCells H buf n).toArray] w fun e w' => e = .returned (.bool (rightB buf n)) ∧ Below w.heap.size w w' := by
  have g1 := sumCells_8 H buf n hl
  have g2 := sumCells_9 H buf n hl
  generalize (sumCells H buf n).toArray = C at *
  go_enter Tryd.func20, Tryd.ntmps20
  go_wp2_with fail
  all_goals
    go_ret
    refine ⟨?_, (Below.refl _ _).alloc (Nat.le_refl _) _⟩
    refine congrArg (fun b => Ending.returned (.bool b)) ?_
    unfold rightB
    rw [Bool.eq_iff_iff]
    simp
    omega
set_option maxHeartbeats 4000000 in
set_option maxRecDepth 100000 in
theorem rright_c (H : List Nat) (buf : ByteArray) (n : Nat) (hl : H.length = 8) (hn : n < 18446744073709551616) (hb : buf.size < 1000000000) (w : World) :
    Calls Tryd.prog 21 #[.agg (sumCells H buf n).toArray] w fun e w' => e = .returned (.bool (rightB buf n)) ∧ Below w.heap.size w w' := by
  have g1 := sumCells_8 H buf n hl
  have g2 := sumCells_9 H buf n hl
  generalize (sumCells H buf n).toArray = C at *
  go_enter Tryd.func21, Tryd.ntmps21
  go_wp2_with fail
  all_goals
    go_ret
    refine ⟨?_, (Below.refl _ _).alloc (Nat.le_refl _) _⟩
    refine congrArg (fun b => Ending.returned (.bool b)) ?_
    unfold rightB
    rw [Bool.eq_iff_iff]
    simp
    omega
theorem cells_lit (a b c d e f g i : Nat) (buf : ByteArray) (n : Nat) : (sumCells (hvs a b c d e f g i) buf n).toArray = #[.int .u64 (a : Nat), .int .u64 (b : Nat), .int .u64 (c : Nat), .int .u64 (d : Nat), .int .u64 (e : Nat), .int .u64 (f : Nat), .int .u64 (g : Nat), .int .u64 (i : Nat), .string buf, .int .u64 (n : Nat)] := rfl
theorem row10 {w : World} {r : Nat} {t : TypeId} {v0 v1 v2 v3 v4 v5 v6 v7 v8 v9 : Value} (h : w.heap[r]? = some (.cells #[v0, v1, v2, v3, v4, v5, v6, v7, v8, v9] t)) :
    w.cell? ⟨r, 0, none⟩ = some v0 ∧ w.cell? ⟨r, 1, none⟩ = some v1 ∧ w.cell? ⟨r, 2, none⟩ = some v2 ∧ w.cell? ⟨r, 3, none⟩ = some v3 ∧ w.cell? ⟨r, 4, none⟩ = some v4 ∧ w.cell? ⟨r, 5, none⟩ = some v5 ∧ w.cell? ⟨r, 6, none⟩ = some v6 ∧ w.cell? ⟨r, 7, none⟩ = some v7 ∧ w.cell? ⟨r, 8, none⟩ = some v8 ∧ w.cell? ⟨r, 9, none⟩ = some v9 :=
  ⟨cell_of_row _ _ _ _ _ _ h, cell_of_row _ _ _ _ _ _ h, cell_of_row _ _ _ _ _ _ h, cell_of_row _ _ _ _ _ _ h, cell_of_row _ _ _ _ _ _ h, cell_of_row _ _ _ _ _ _ h, cell_of_row _ _ _ _ _ _ h, cell_of_row _ _ _ _ _ _ h, cell_of_row _ _ _ _ _ _ h, cell_of_row _ _ _ _ _ _ h⟩
theorem keys_below {w w' : World} (h : Below w.heap.size w w') (hK : Keys w) : Keys w' := by
  refine ⟨Nat.lt_of_lt_of_le hK.1 h.size, fun j hj => ?_⟩
  rw [h.cell (by exact hK.1)]; exact hK.2 j hj
theorem rightB_true {buf : ByteArray} {n : Nat} (h : rightB buf n = true) : buf.size < 128 ∧ n ≤ 1099511627776 ∧ n % 128 = buf.size := of_decide_eq_true h
set_option maxHeartbeats 4000000 in
set_option maxRecDepth 100000 in
theorem End_not (H : List Nat) (buf : ByteArray) (n : Nat) (hl : H.length = 8) (hn : n < 18446744073709551616) (hb : buf.size < 1000000000) (hr : rightB buf n = false) (w : World) :
    Calls Tryd.prog 19 #[.agg (sumCells H buf n).toArray] w fun e w' => e = .returned (.tuple #[.string ⟨#[]⟩, .int .i64 1]) ∧ Below w.heap.size w w' := by
  have R := fun w => right_c H buf n hl hn hb w
  rw [hr] at R
  obtain ⟨a, b, c, d, e, f, g, i, rfl⟩ := eight H hl
  rw [cells_lit] at *
  go_enter Tryd.func19, Tryd.ntmps19
  go_wp2_with (go_at_call 20; with_reducible refine (R _).mono ?_; rintro e w' ⟨rfl, hb1⟩)
  go_ret2
  exact ⟨rfl, below_step ((Below.refl _ _).alloc (Nat.le_refl _) _) hb1⟩
set_option maxHeartbeats 4000000 in
set_option maxRecDepth 100000 in
theorem End_ok (H : List Nat) (buf : ByteArray) (n : Nat) (hl : H.length = 8) (hx : ∀ x ∈ H, x < 18446744073709551616) (hr : rightB buf n = true) (w : World) (hK : Keys w) :
    Calls Tryd.prog 19 #[.agg (sumCells H buf n).toArray] w fun e w' => e = .returned (.tuple #[.string (mkB (Sh.fin H buf.data.toList n)), .int .i64 0]) ∧ Below w.heap.size w w' := by
  obtain ⟨hb, hn, hm⟩ := rightB_true hr
  have R := fun w => right_c H buf n hl (by omega) (by omega) w
  rw [hr] at R
  have E := fun B w h1 h2 h3 h4 => end_any B H buf n w hl hx (by omega) hb h1 h2 h3 h4
  have hi28 : (Tryd.prog.info? 28).map (·.size) = some 10 := by kernel_rfl
  obtain ⟨a, b, c, d, e, f, g, i, rfl⟩ := eight H hl
  rw [cells_lit] at *
  have hKH := Lib.hid hK
  have HE := Lib.hid E
  clear hK E hr
  go_enter Tryd.func19, Tryd.ntmps19
  go_wp2_with (go_at_call 20; with_reducible refine (R _).mono ?_; rintro e w1 ⟨rfl, hb1⟩
               have hrow := (hb1.block w.heap.size (by simp)).trans (heap_alloc_new w _)
               have HB1 := Lib.hid (below_step ((Below.refl _ _).alloc (Nat.le_refl _) _) hb1)
               obtain ⟨k0, k1, k2, k3, k4, k5, k6, k7, k8, k9⟩ := row10 hrow
               clear hb1)
  have hpos : 0 < w1.heap.size := Nat.lt_of_lt_of_le hKH.out.1 HB1.out.size
  have hbw := HB1.out.alloc HB1.out.size (.cells #[.int .u64 (a : Nat), .int .u64 (b : Nat), .int .u64 (c : Nat), .int .u64 (d : Nat), .int .u64 (e : Nat), .int .u64 (f : Nat), .int .u64 (g : Nat), .int .u64 (i : Nat), .string buf, .int .u64 (n : Nat)] 51)
  refine (HE.out w1.heap.size _ hpos (by simp) (keys_below hbw hKH.out) (heap_alloc_new _ _)).mono ?_
  rintro e w2 ⟨rfl, hg⟩
  have hb2 := Lib.hid (hbw.grown hg hbw.size (fun k hk => by cases hk; exact HB1.out.size))
  clear hg hbw
  go_wp2_with fail
  go_ret2
  exact ⟨rfl, hb2.out⟩
end Go.Proofs.YtjlmhndfpfgfkaaDoor.E
