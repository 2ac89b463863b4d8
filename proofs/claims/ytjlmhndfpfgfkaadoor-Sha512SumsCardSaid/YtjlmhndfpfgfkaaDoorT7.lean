import Derived.Test.YtjlmhndfpfgfkaaDoorT6
import Derived.Laws.ResultCell
set_option linter.unusedVariables false
set_option linter.unusedSimpArgs false
namespace Go.Proofs.YtjlmhndfpfgfkaaDoor.E
open Go.RowKit Go.Proofs.YtjlmhndfpfgfkaaDoorW.PrintWords Go.Proofs.YtjlmhndfpfgfkaaDoorW.PrintLast Go.Proofs.YtjlmhndfpfgfkaaDoorW.PrintMore
attribute [local go_sem] max2_int min2_int max_two min_two
open S (mkB be num)
attribute [local irreducible] Sh.sched Sh.rr Sh.ad Sh.sg0 Sh.sg1 S.num Sh.kw Sh.t1 Sh.t2 Sh.nt Sh.comp Sh.blocks Sh.take Sh.tail
theorem results_row_tmp {P : Program} {fn : Func} {p u : Tmp} {ty : TypeId} (h : fn.results = #[.cell p ty, .tmp u]) (tmps : Array Value) (w : World) (g : Nat) (t : TypeId) (cs : Array Value) (fr : Nat × Nat) (d : TypeDesc)
    (hp : tmps.getD p undef = .pointer (some ⟨g, 0, none⟩)) (hg : w.heap[g]? = some (.cells cs t fr))
    (hu : P.underlying ty = some d) (hd : (match d with | .struct _ | .array _ _ => true | _ => false) = true) (hi : (P.info? ty).map (·.size) = some cs.size) :
    (results fn tmps).run P w = .ok (.tuple #[.agg cs, tmps.getD u undef]) w := by
  have hp' : tmps[p]?.getD undef = .pointer (some ⟨g, 0, none⟩) := by simpa using hp
  simp [results, h, hp', asAddr, run_loadVar_row w g t ty cs fr d hg hu hd hi]
def zsum : Array Value := #[.int .u64 0, .int .u64 0, .int .u64 0, .int .u64 0, .int .u64 0, .int .u64 0, .int .u64 0, .int .u64 0, .string ⟨#[]⟩, .int .u64 0]
set_option maxHeartbeats 4000000 in
set_option maxRecDepth 100000 in
theorem Write_not (H : List Nat) (buf : ByteArray) (n : Nat) (s : ByteArray) (hl : H.length = 8) (hn : n < 18446744073709551616) (hb : buf.size < 1000000000) (hr : rightB buf n = false) (w : World) :
    Calls Tryd.prog 17 #[.agg (sumCells H buf n).toArray, .string s] w fun e w' => e = .returned (.tuple #[.agg zsum, .int .i64 1]) ∧ Below w.heap.size w w' := by
  have R := fun w => right_c H buf n hl hn hb w
  rw [hr] at R
  have hz28 : ∀ W, (zeroValue 28).run Tryd.prog W = .ok (.agg #[.int .u64 0, .int .u64 0, .int .u64 0, .int .u64 0, .int .u64 0, .int .u64 0, .int .u64 0, .int .u64 0, .string ⟨#[]⟩, .int .u64 0]) W := fun W => by kernel_rfl
  obtain ⟨a, b, c, d, e, f, g, i, rfl⟩ := eight H hl
  rw [cells_lit] at *
  go_enter Tryd.func17, Tryd.ntmps17
  have hall : zsum.all (·.oneCell') = true := by simp [zsum, Value.oneCell']
  go_wp2_with (first
    | (go_at_call 20; with_reducible refine (R _).mono ?_; rintro e w1 ⟨rfl, hb1⟩
       have hrow := (hb1.block (w.heap.size + 1) (by simp)).trans (heap_alloc2_new w _ _)
       have HB1 := Lib.hid (below_step (((Below.refl _ _).alloc (Nat.le_refl _) _).alloc (by simp) _) hb1)
       clear hb1)
    | (refine wpList_store_row rfl 28 _ _ rfl (w.heap.size + 1) zsum rfl rfl 28 _ hrow (by kernel_rfl) rfl hall ?_))
  refine bodyPost_ret (results_row_tmp rfl _ _ (w.heap.size + 1) 28 zsum (0, 0) _ rfl (setRow_heap _ _ _ _ _ _ hrow) Tryd.underlying28 rfl (by kernel_rfl)) rfl ?_
  exact ⟨rfl, below_setRow HB1.out (by omega) _⟩
set_option maxHeartbeats 4000000 in
set_option maxRecDepth 100000 in
theorem Write_long (H : List Nat) (buf : ByteArray) (n : Nat) (s : ByteArray) (hl : H.length = 8) (hr : rightB buf n = true) (hs : s.size < 1000000) (hlong : 1099511627776 < n + s.size) (w : World) :
    Calls Tryd.prog 17 #[.agg (sumCells H buf n).toArray, .string s] w fun e w' => e = .returned (.tuple #[.agg zsum, .int .i64 2]) ∧ Below w.heap.size w w' := by
  obtain ⟨hb, hn, hm⟩ := rightB_true hr
  have R := fun w => right_c H buf n hl (by omega) (by omega) w
  rw [hr] at R
  have hz28 : ∀ W, (zeroValue 28).run Tryd.prog W = .ok (.agg #[.int .u64 0, .int .u64 0, .int .u64 0, .int .u64 0, .int .u64 0, .int .u64 0, .int .u64 0, .int .u64 0, .string ⟨#[]⟩, .int .u64 0]) W := fun W => by kernel_rfl
  obtain ⟨a, b, c, d, e, f, g, i, rfl⟩ := eight H hl
  rw [cells_lit] at *
  clear hr
  go_enter Tryd.func17, Tryd.ntmps17
  have hall : zsum.all (·.oneCell') = true := by simp [zsum, Value.oneCell']
  go_wp2_with (first
    | (go_at_call 20; with_reducible refine (R _).mono ?_; rintro e w1 ⟨rfl, hb1⟩
       have hrow := (hb1.block (w.heap.size + 1) (by simp)).trans (heap_alloc2_new w _ _)
       have hbox := (hb1.block w.heap.size (by simp; omega)).trans (heap_alloc2_old w _ _)
       obtain ⟨k0, k1, k2, k3, k4, k5, k6, k7, k8, k9⟩ := row10 hbox
       have HB1 := Lib.hid (below_step (((Below.refl _ _).alloc (Nat.le_refl _) _).alloc (by simp) _) hb1)
       clear hb1)
    | (refine wpList_store_row rfl 28 _ _ rfl (w.heap.size + 1) zsum rfl rfl 28 _ hrow (by kernel_rfl) rfl hall ?_))
  refine bodyPost_ret (results_row_tmp rfl _ _ (w.heap.size + 1) 28 zsum (0, 0) _ rfl (setRow_heap _ _ _ _ _ _ hrow) Tryd.underlying28 rfl (by kernel_rfl)) rfl ?_
  exact ⟨rfl, below_setRow HB1.out (by omega) _⟩
set_option maxHeartbeats 4000000 in
set_option maxRecDepth 100000 in
theorem Write_ok (H : List Nat) (buf : ByteArray) (n : Nat) (s : ByteArray) (hl : H.length = 8) (hx : ∀ x ∈ H, x < 18446744073709551616) (hr : rightB buf n = true) (hs : s.size < 1000000) (hlong : n + s.size ≤ 1099511627776) (w : World) (hK : Keys w) :
    Calls Tryd.prog 17 #[.agg (sumCells H buf n).toArray, .string s] w fun e w' => e = .returned (.tuple #[.agg (sumCells (Sh.take H buf.data.toList s.data.toList).1 (mkB (Sh.take H buf.data.toList s.data.toList).2) (n + s.size)).toArray, .int .i64 0]) ∧ Below w.heap.size w w' := by
  obtain ⟨hb, hn, hm⟩ := rightB_true hr
  have R := fun w => right_c H buf n hl (by omega) (by omega) w
  rw [hr] at R
  have hz28 : ∀ W, (zeroValue 28).run Tryd.prog W = .ok (.agg #[.int .u64 0, .int .u64 0, .int .u64 0, .int .u64 0, .int .u64 0, .int .u64 0, .int .u64 0, .int .u64 0, .string ⟨#[]⟩, .int .u64 0]) W := fun W => by kernel_rfl
  have T := fun B w h1 h2 h3 h4 => take_any B H buf n s w hl hx (by omega) (by omega) h1 h2 h3 h4
  obtain ⟨hl2, hx2⟩ := Sh.blocks_ok (buf.data.toList.length + s.data.toList.length) H (buf.data.toList ++ s.data.toList) hl hx
  rw [show Sh.blocks (buf.data.toList.length + s.data.toList.length) H (buf.data.toList ++ s.data.toList) = Sh.take H buf.data.toList s.data.toList from by unfold Sh.take; rfl] at hl2 hx2
  generalize (Sh.take H buf.data.toList s.data.toList).1 = H2 at *
  generalize (mkB (Sh.take H buf.data.toList s.data.toList).2) = buf2 at *
  obtain ⟨a2, b2, c2, d2, e2, f2, g2, i2, rfl⟩ := eight H2 hl2
  obtain ⟨a, b, c, d, e, f, g, i, rfl⟩ := eight H hl
  rw [cells_lit] at *
  rw [cells_lit] at *
  clear hr
  generalize hNN : n + s.size = N at *
  have hN1 : n + s.size ≤ N := by omega
  clear hNN
  have HT := Lib.hid T
  have hKH := Lib.hid hK
  clear T hK
  go_enter Tryd.func17, Tryd.ntmps17
  go_wp2_with (first
    | (go_at_call 20; with_reducible refine (R _).mono ?_; rintro e w1 ⟨rfl, hb1⟩
       have hrow := (hb1.block (w.heap.size + 1) (by simp)).trans (heap_alloc2_new w _ _)
       have hbox := (hb1.block w.heap.size (by simp; omega)).trans (heap_alloc2_old w _ _)
       obtain ⟨k0, k1, k2, k3, k4, k5, k6, k7, k8, k9⟩ := row10 hbox
       have HB1 := Lib.hid (below_step (((Below.refl _ _).alloc (Nat.le_refl _) _).alloc (by simp) _) hb1)
       clear hb1))
  have hpos : 0 < w1.heap.size := Nat.lt_of_lt_of_le hKH.out.1 HB1.out.size
  have hbw := HB1.out.alloc HB1.out.size (.cells #[.int .u64 (a : Nat), .int .u64 (b : Nat), .int .u64 (c : Nat), .int .u64 (d : Nat), .int .u64 (e : Nat), .int .u64 (f : Nat), .int .u64 (g : Nat), .int .u64 (i : Nat), .string buf, .int .u64 (n : Nat)] 51)
  have hlt1 : w.heap.size + 1 < w1.heap.size := by
    rcases Nat.lt_or_ge (w.heap.size + 1) w1.heap.size with h' | h'
    · exact h'
    · simp [Array.getElem?_eq_none h'] at hrow
  refine (HT.out w1.heap.size _ hpos (by simp) (keys_below hbw hKH.out) (heap_alloc_new _ _)).mono ?_
  rintro e w2 ⟨rfl, hrow2, hg⟩
  have hb2 := Lib.hid (hbw.grown hg hbw.size (fun k hk => by cases hk; exact HB1.out.size))
  have hrw := Lib.hid ((hg.block (w.heap.size + 1) (by simp; omega) (by intro e; injection e with e; omega)).trans ((heap_alloc_old _ _ hlt1).trans hrow))
  clear hg hbw hrow hbox k0 k1 k2 k3 k4 k5 k6 k7 k8 k9
  obtain ⟨k0, k1, k2, k3, k4, k5, k6, k7, k8, k9⟩ := row10 hrow2
  clear hrow2
  have hall : (#[.int .u64 (a2 : Nat), .int .u64 (b2 : Nat), .int .u64 (c2 : Nat), .int .u64 (d2 : Nat), .int .u64 (e2 : Nat), .int .u64 (f2 : Nat), .int .u64 (g2 : Nat), .int .u64 (i2 : Nat), .string buf2, .int .u64 (N : Nat)] : Array Value).all (·.oneCell') = true := by simp [Value.oneCell']
  go_wp2_with (refine wpList_store_row rfl 28 _ _ rfl (w.heap.size + 1) #[.int .u64 (a2 : Nat), .int .u64 (b2 : Nat), .int .u64 (c2 : Nat), .int .u64 (d2 : Nat), .int .u64 (e2 : Nat), .int .u64 (f2 : Nat), .int .u64 (g2 : Nat), .int .u64 (i2 : Nat), .string buf2, .int .u64 (N : Nat)] rfl rfl 28 _ hrw.out (by kernel_rfl) rfl hall ?_)
  refine bodyPost_ret (results_row_tmp rfl _ _ (w.heap.size + 1) 28 _ (0, 0) _ rfl (setRow_heap _ _ _ _ _ _ hrw.out) Tryd.underlying28 rfl (by kernel_rfl)) rfl ?_
  exact ⟨rfl, below_setRow hb2.out (by omega) _⟩
end Go.Proofs.YtjlmhndfpfgfkaaDoor.E
