import Derived.Test.YtjlmhndfpfgfkaaDoorTb
import Derived.Test.YtjlmhndfpfgfkaaDoorWMore
set_option linter.unusedVariables false
set_option linter.unusedSimpArgs false
namespace Go.Proofs.YtjlmhndfpfgfkaaDoor.E
open Go.RowKit Go.Proofs.YtjlmhndfpfgfkaaDoorW.PrintWords Go.Proofs.YtjlmhndfpfgfkaaDoorW.PrintLast Go.Proofs.YtjlmhndfpfgfkaaDoorW.PrintMore
attribute [local go_sem] max2_int min2_int max_two min_two
open S (mkB be num)
theorem info3 : (Tryd.prog.info? 3).map (fun i => (i.zero, i.size, i.bytes)) = some (some (.int .i64 0), 1, 8) := by kernel_rfl
theorem info9 : (Tryd.prog.info? 9).map (fun i => (i.zero, i.size, i.bytes)) = some (some (.string ⟨#[]⟩), 1, 16) := by kernel_rfl
theorem cut_to {P : Program} (t e : TypeId) (kh : IntKind) (ht : P.underlying t = some (.slice e)) {size : Nat} (hi : (P.info? e).map (·.size) = some size) (A : Option Addr) (n c hi' : Nat) (h2 : hi' ≤ c) :
    ∀ W : World, (Instr.slice t (.slice A n c) none (some (.int kh (hi' : Int))) none).run P W = .ok (.slice A hi' c) W := by
  intro W
  obtain ⟨i, hi, hs⟩ := Option.map_eq_some_iff.1 hi
  have hel : P.elem t = e := by simp [Program.elem, ht]
  have hu : P.underlying t = some (.slice (P.elem t)) := by rw [hel]; exact ht
  rw [run_slice_h W t A n c hu kh hi' (by omega) (by omega), hel]
  simp [sizeOf, typeInfo, hi, sliced, Result.andThen]
  intro _
  cases A <;> simp [Addr.add]
theorem R_only {k : IntKind} {e : Nat} {w : World} {base : Nat} {ok : Nat → Prop} {v : Value} {xs : List Int} (h : Kd.R (Kd.int k) e w base ok v xs) : Kd.R (Kd.int k) e w base (fun j => some j = v.ownBlock ∧ ok j) v xs :=
  ⟨fun j hj => ⟨hj.symm, h.1 j hj⟩, h.2⟩
def Pc (w : World) (B N : Nat) (C : Array Value) (v31 : Value) (cl : List Int) (vp : Value) (ps : List ByteArray) (W : World) : Prop :=
  W.heap[B]? = some (.cells C 28) ∧ Kd.R (Kd.int .i64) 3 W w.heap.size (fun k => k ≠ B ∧ k < N) v31 cl ∧ Kd.R Kd.string 9 W w.heap.size (fun k => k ≠ B ∧ k < N) vp ps ∧ Below w.heap.size w W ∧ B < N ∧ w.heap.size ≤ B ∧ N ≤ W.heap.size
section
variable {w W W' : World} {B N : Nat} {C C' : Array Value} {v31 vp vp' : Value} {cl : List Int} {ps ps' : List ByteArray}
theorem pc_step (h : Pc w B N C v31 cl vp ps W) (hb : Below W.heap.size W W') : Pc w B N C v31 cl vp ps W' := by
  obtain ⟨h1, h2, h3, h4, h5, h7, h8⟩ := h
  exact ⟨row_keep h1 hb, Kd.R_below h2 hb, Kd.R_below h3 hb, below_step h4 hb, h5, h7, Nat.le_trans h8 hb.size⟩
theorem pc_alloc (h : Pc w B N C v31 cl vp ps W) (o : Obj) : Pc w B N C v31 cl vp ps (W.alloc o) := pc_step h ((Below.refl _ _).alloc (Nat.le_refl _) _)
theorem pc_drew (h : Pc w B N C v31 cl vp ps W) : Pc w B N C v31 cl vp ps W.drew := pc_step h ⟨rfl, rfl, rfl, Nat.le_refl _, fun _ _ => rfl⟩
theorem pc_drewN (h : Pc w B N C v31 cl vp ps W) (n : Nat) : Pc w B N C v31 cl vp ps (W.drewN n) := pc_step h (drewN_below (Below.refl _ _) n)
theorem pc_move (h : Pc w B N C v31 cl vp ps W) (hb : Below w.heap.size w W') (hm : ∀ k, k < N → W'.heap[k]? = W.heap[k]?) (hs : W.heap.size ≤ W'.heap.size) : Pc w B N C v31 cl vp ps W' := by
  obtain ⟨h1, h2, h3, h4, h5, h7, h8⟩ := h
  exact ⟨(hm _ h5).trans h1, Kd.R_move h2 (fun k hk => hm k hk.2), Kd.R_move h3 (fun k hk => hm k hk.2), hb, h5, h7, Nat.le_trans h8 hs⟩
theorem pc_size (h : Pc w B N C v31 cl vp ps W) : N ≤ W.heap.size ∧ B < N ∧ w.heap.size ≤ B := ⟨h.2.2.2.2.2.2, h.2.2.2.2.1, h.2.2.2.2.2.1⟩
theorem pc_below (h : Pc w B N C v31 cl vp ps W) : Below w.heap.size w W := h.2.2.2.1
theorem pc_setCell (h : Pc w B N C v31 cl vp ps W) {r : Nat} (hr : N ≤ r) (o : Nat) (v : Value) : Pc w B N C v31 cl vp ps (W.setCell ⟨r, o, none⟩ v) :=
  pc_move h ((pc_below h).setCell (by have := pc_size h; simp; omega) v) (fun k hk => heap_setCell_other _ _ _ _ (by simp; omega)) (by simp)
theorem pc_setRow (h : Pc w B N C v31 cl vp ps W) {r : Nat} (hr : N ≤ r) (cs : Array Value) : Pc w B N C v31 cl vp ps (W.setRow r cs) :=
  pc_move h (below_setRow (pc_below h) (by have := pc_size h; omega) cs) (fun k hk => setRow_other W r k cs (by omega)) (by rw [setRow_size]; exact Nat.le_refl _)
theorem pc_row (h : Pc w B N C v31 cl vp ps W) : W.heap[B]? = some (.cells C 28) := h.1
theorem pc_ints (h : Pc w B N C v31 cl vp ps W) : Kd.R (Kd.int .i64) 3 W w.heap.size (fun k => k ≠ B ∧ k < N) v31 cl := h.2.1
theorem pc_parts (h : Pc w B N C v31 cl vp ps W) : Kd.R Kd.string 9 W w.heap.size (fun k => k ≠ B ∧ k < N) vp ps := h.2.2.1
theorem pc_mk (h1 : W.heap[B]? = some (.cells C 28)) (h2 : Kd.R (Kd.int .i64) 3 W w.heap.size (fun k => k ≠ B) v31 cl) (h3 : Kd.R Kd.string 9 W w.heap.size (fun k => k ≠ B) vp ps) (h4 : Below w.heap.size w W) (h5 : B < W.heap.size) (h7 : w.heap.size ≤ B) : Pc w B W.heap.size C v31 cl vp ps W :=
  ⟨h1, Kd.R_mono (Kd.R_bound h2) (fun k hk => ⟨hk.1, hk.2.2.1⟩), Kd.R_mono (Kd.R_bound h3) (fun k hk => ⟨hk.1, hk.2.2.1⟩), h4, h5, h7, Nat.le_refl _⟩
theorem pcS {y0 y1 y2 y3 y4 y5 y6 y7 y8 y9 : Value} (h : Pc w B N #[y0, y1, y2, y3, y4, y5, y6, y7, y8, y9] v31 cl vp ps W) : Pc w B N #[y0, y1, y2, y3, y4, y5, y6, y7, y8, y9] v31 cl vp ps W ∧
    W.cell? ⟨B, 0, none⟩ = some y0 ∧ W.cell? ⟨B, 1, none⟩ = some y1 ∧ W.cell? ⟨B, 2, none⟩ = some y2 ∧ W.cell? ⟨B, 3, none⟩ = some y3 ∧ W.cell? ⟨B, 4, none⟩ = some y4 ∧ W.cell? ⟨B, 5, none⟩ = some y5 ∧ W.cell? ⟨B, 6, none⟩ = some y6 ∧ W.cell? ⟨B, 7, none⟩ = some y7 ∧ W.cell? ⟨B, 8, none⟩ = some y8 ∧ W.cell? ⟨B, 9, none⟩ = some y9 :=
  ⟨h, row10 h.1⟩
/-- the state at a round's head. -/
theorem pc_renew (h : Pc w B N C v31 cl vp ps W) : Pc w B W.heap.size C v31 cl vp ps W := by
  obtain ⟨h1, h2, h3, h4, h5, h7, h8⟩ := h
  exact ⟨h1, Kd.R_mono h2 (fun k hk => ⟨hk.1, Nat.lt_of_lt_of_le hk.2 h8⟩), Kd.R_mono h3 (fun k hk => ⟨hk.1, Nat.lt_of_lt_of_le hk.2 h8⟩), h4, Nat.lt_of_lt_of_le h5 h8, h7, Nat.le_refl _⟩
theorem pc_parts_up (h : Pc w B N C v31 cl vp ps W) (hR : Kd.R Kd.string 9 W' w.heap.size (fun k => k ≠ B) vp' ps') (hb : Below w.heap.size w W') (hg : W.grownBy W' vp.ownBlock) : Pc w B W'.heap.size C v31 cl vp' ps' W' := by
  obtain ⟨h1, h2, h3, h4, h5, h7, h8⟩ := h
  have hsz := hg.size
  refine ⟨?_, Kd.R_mono (Kd.R_grown (R_only h2) hg (fun k hk e => ?_)) (fun k hk => ⟨hk.2.1, by have := hk.2.2; omega⟩), Kd.R_mono (Kd.R_bound hR) (fun k hk => ⟨hk.1, hk.2.2.1⟩), hb, by omega, h7, Nat.le_refl _⟩
  · rw [← h1]
    exact hg.block B (by omega) (fun e => (h3.1 B e.symm).1 rfl)
  · obtain ⟨i1, o1⟩ := Kd.R_own h2
    obtain ⟨i2, o2⟩ := Kd.R_own h3
    rcases own_type_ne o1 o2 (by decide) with h | h
    · rw [h] at hk; exact absurd hk.1 (by simp)
    · exact h (hk.1.symm.trans e)
theorem pc_store (h : Pc w B N C v31 cl vp ps W) : Pc w B N C' v31 cl vp ps (W.setRow B C') := by
  obtain ⟨h1, h2, h3, h4, h5, h7, h8⟩ := h
  exact ⟨setRow_heap _ _ _ _ _ _ h1, Kd.R_move h2 (fun k hk => setRow_other W B k C' hk.1), Kd.R_move h3 (fun k hk => setRow_other W B k C' hk.1), below_setRow h4 h7 _, h5, h7, by rw [setRow_size]; exact h8⟩
end
theorem mkB_toList (l : List UInt8) : (mkB l).data.toList = l := by simp [mkB]
theorem sum_go (s : List UInt8) (a b : Nat) (hab : a ≤ b) (hb : b ≤ s.length) (hlen : s.length ≤ 100000) (r : ByteArray) (hr : r.data.toList = (s.take b).drop a) (W : World) (hK : Keys W) :
    Calls Tryd.prog 17 #[.agg (sumCells (Sh.take Sh.h0 [] (s.take a)).1 (mkB (Sh.take Sh.h0 [] (s.take a)).2) a).toArray, .string r] W fun e w' =>
      e = .returned (.tuple #[.agg (sumCells (Sh.take Sh.h0 [] (s.take b)).1 (mkB (Sh.take Sh.h0 [] (s.take b)).2) b).toArray, .int .i64 0]) ∧ Below W.heap.size W w' := by
  obtain ⟨hl, hx⟩ := take_ok (s.take a)
  have hrl := Sh.take_rest_length Sh.h0 [] (s.take a)
  rw [List.length_nil, Nat.zero_add, List.length_take, Nat.min_eq_left (by omega)] at hrl
  have hrs : r.size = b - a := by
    have : r.data.toList.length = b - a := by rw [hr, List.length_drop, List.length_take]; omega
    simpa using this
  have := Write_ok (Sh.take Sh.h0 [] (s.take a)).1 (mkB (Sh.take Sh.h0 [] (s.take a)).2) a r hl hx (by simp [rightB, S.mkB_size, hrl]; omega) (by omega) (by omega) W hK
  rw [mkB_toList, Sh.take_take, hr, hrs] at this
  have e1 : s.take a ++ (s.take b).drop a = s.take b := by
    conv => rhs; rw [← List.take_append_drop a (s.take b), List.take_take, Nat.min_eq_left hab]
  rw [e1, show a + (b - a) = b from by omega] at this
  exact this
theorem sum_right (s : List UInt8) (b : Nat) (hb : b ≤ s.length) (hlen : s.length ≤ 100000) (W : World) :
    Calls Tryd.prog 20 #[.agg (sumCells (Sh.take Sh.h0 [] (s.take b)).1 (mkB (Sh.take Sh.h0 [] (s.take b)).2) b).toArray] W fun e w' => e = .returned (.bool true) ∧ Below W.heap.size W w' := by
  obtain ⟨hl, hx⟩ := take_ok (s.take b)
  have hrl := Sh.take_rest_length Sh.h0 [] (s.take b)
  rw [List.length_nil, Nat.zero_add, List.length_take, Nat.min_eq_left (by omega)] at hrl
  have := right_c (Sh.take Sh.h0 [] (s.take b)).1 (mkB (Sh.take Sh.h0 [] (s.take b)).2) b hl (by omega) (by rw [S.mkB_size]; omega) W
  rw [show rightB (mkB (Sh.take Sh.h0 [] (s.take b)).2) b = true from by simp [rightB, S.mkB_size, hrl]; omega] at this
  exact this
theorem sum_length (s : List UInt8) : (Sh.sum s).length = 64 := by
  unfold Sh.sum Sh.fin
  obtain ⟨hl, hx⟩ := take_ok s
  rw [bytes_length, Sh.take, (Sh.blocks_ok _ _ _ hl hx).1]
theorem sum_end (s : List UInt8) (hlen : s.length ≤ 100000) (W : World) (hK : Keys W) :
    Calls Tryd.prog 19 #[.agg (sumCells (Sh.take Sh.h0 [] s).1 (mkB (Sh.take Sh.h0 [] s).2) s.length).toArray] W fun e w' => e = .returned (.tuple #[.string (mkB (Sh.sum s)), .int .i64 0]) ∧ Below W.heap.size W w' := by
  obtain ⟨hl, hx⟩ := take_ok s
  have hrl := Sh.take_rest_length Sh.h0 [] s
  rw [List.length_nil, Nat.zero_add] at hrl
  have := End_ok (Sh.take Sh.h0 [] s).1 (mkB (Sh.take Sh.h0 [] s).2) s.length hl hx (by simp [rightB, S.mkB_size, hrl]; omega) W hK
  rw [mkB_toList] at this
  exact this
theorem extract_mid (s : ByteArray) (a b : Nat) : (s.extract a b).data.toList = ((dat s).take b).drop a := by
  simp [dat, List.drop_take]
theorem cells_size (H : List Nat) (buf : ByteArray) (n : Nat) (hl : H.length = 8) : (sumCells H buf n).toArray.size = 10 ∧ (sumCells H buf n).toArray.all (·.oneCell') = true := by
  obtain ⟨a, b, c, d, e, f, g, i, rfl⟩ := eight H hl
  exact ⟨rfl, by simp [cells_lit, Value.oneCell']⟩
attribute [local irreducible] Sh.sched Sh.rr Sh.ad Sh.sg0 Sh.sg1 S.num Sh.kw Sh.t1 Sh.t2 Sh.nt Sh.comp Sh.blocks Sh.take Sh.tail Sh.fin Sh.h0 Sh.sum
attribute [local irreducible] Pc
set_option maxHeartbeats 4000000 in
set_option maxRecDepth 100000 in
theorem pieces_walk (s0 : ByteArray) (A1 : Option Addr) (l1 : List Int) (c1 : Nat) (w : World) (hK : Keys w) (hs0 : s0.size < 9223372036854775807) (hr1 : Kd.C (Kd.int .i64) w A1 l1.length l1) (hc1 : l1.length ≤ c1)
    (hw1 : ∀ x ∈ l1, -9223372036854775808 ≤ x ∧ x ≤ 9223372036854775807) :
    Calls Tryd.prog 6 #[.string s0, .slice A1 l1.length c1] w fun e w' => e = .returned (.bool true) ∧ Below w.heap.size w w' := by
  have hKH := Lib.hid hK
  have HW1 := Lib.hid hw1
  clear hK hw1
  have hi28 : (Tryd.prog.info? 28).map (·.size) = some 10 := by kernel_rfl
  have HN := Lib.hid (new_c w)
  obtain ⟨hC1, hC2⟩ := cells_size Sh.h0 ⟨#[]⟩ 0 h0_len
  have HC2 := Lib.hid hC2
  have HC1 := Lib.hid hC1
  have HC0 : Hid ((sumCells Sh.h0 ⟨#[]⟩ 0).toArray = (sumCells (Sh.take Sh.h0 [] []).1 (mkB (Sh.take Sh.h0 [] []).2) 0).toArray) := Lib.hid (by rw [take_nil]; rfl)
  generalize (sumCells Sh.h0 ⟨#[]⟩ 0).toArray = C0 at *
  obtain ⟨k0, hk0, hk1, hk2⟩ : ∃ k : Nat, (if (2000 : Int) < (s0.size : Int) then (2000 : Int) else (s0.size : Int)) = (k : Int) ∧ k ≤ s0.size ∧ k ≤ 2000 := by
    split
    · exact ⟨2000, rfl, by omega, by omega⟩
    · exact ⟨s0.size, rfl, by omega, by omega⟩
  obtain ⟨m, hm, hm1, hm2⟩ : ∃ m : Nat, (if (20 : Int) < (l1.length : Int) then (20 : Int) else (l1.length : Int)) = (m : Int) ∧ m ≤ l1.length ∧ m ≤ 20 := by
    split
    · exact ⟨20, rfl, by omega, by omega⟩
    · exact ⟨l1.length, rfl, by omega, by omega⟩
  have hcut : ∀ W : World, (Instr.slice 46 (.slice A1 l1.length c1) none (some (.int .i64 (m : Int))) none).run Tryd.prog W = .ok (.slice A1 m c1) W := by
    intro W
    exact cut_to 46 3 .i64 Tryd.underlying46 (by kernel_rfl : (Tryd.prog.info? 3).map (·.size) = some 1) A1 l1.length c1 m (by omega) W
  have hRm := Kd.C_take hr1 hm1
  rw [List.length_take, Nat.min_eq_left hm1] at hRm
  have HRm := Lib.hid hRm
  have hlm : (l1.take m).length = m := by rw [List.length_take, Nat.min_eq_left hm1]
  generalize l1.take m = L at *
  clear hRm
  have hLm : L.length ≤ m := by omega
  have HLm := Lib.hid hlm
  clear hlm
  clear hr1
  go_enter Tryd.func6, Tryd.ntmps6
  go_wp2_with (first
    | (go_at_call 10; with_reducible refine HN.out.mono ?_; rintro e w1 ⟨rfl, hb1⟩)
    | (refine wpList_store_row rfl 28 _ _ rfl w1.heap.size C0 rfl rfl 28 _ (heap_alloc_new _ _) (by rw [HC1.out]; exact hi28) (by rw [HC1.out]; rfl) HC2.out ?_
       obtain ⟨W3, hW3, HR0, HB0, hs3⟩ : ∃ W3, (w1.alloc (.cells zsum 28)).setRow w1.heap.size C0 = W3 ∧ Hid (W3.heap[w1.heap.size]? = some (.cells C0 28)) ∧ Hid (Below w.heap.size w W3) ∧ w1.heap.size < W3.heap.size :=
         ⟨_, rfl, Lib.hid (setRow_heap _ _ _ _ _ _ (heap_alloc_new _ _)), Lib.hid (below_setRow (hb1.alloc hb1.size _) hb1.size _), by simp⟩
       have hsz1 := hb1.size
       unfold zsum at hW3
       rw [hW3]
       clear hW3 hb1)
    | ((with_reducible refine gate_dst (N := 21) rfl ?_)
       (refine Kd.R_lit (Kd.int .i64) w.heap.size 3 ?hg (N := 21) ?hd (xs := ([] : List Int)) (inner := []) (ok := fun k => k ≠ w1.heap.size) (okp := fun _ => False) ?hr ?hp (fun _ hk => hk.elim) (Nat.ne_of_gt hs3) HB0.out HB0.out.size (Nat.zero_le _) ?_)
       (case hd => rfl); (case hg => rfl); (case hr => first | (go_simp; done) | (go_simp; rfl)); (case hp => exact (Reps.none _ _))
       intro v21 w4 hR4 hb4 hg4 hnew4
       have HR4 := Lib.hid hR4
       have HB4 := Lib.hid hb4
       have hs4 := hg4.size
       have hH4 := Lib.hid ((hg4.block w1.heap.size hs3 (by simp)).trans HR0.out)
       clear hR4 hb4 hg4 hnew4)
    | (at_builtin
       (refine Kd.R_append_rows (Kd.int .i64) (w0 := w) w.heap.size rfl (.tmp 21) (.tmp 26) 46 3 (.int .i64 0) 8 rfl Tryd.underlying46 info3 rfl (by decide) (by decide) v21 [] L A1 m c1 (fun k => k ≠ w1.heap.size) (fun _ => False) rfl rfl HR4.out (Kd.C_below HRm.out HB4.out) (fun _ _ h => h) (fun _ h => h.elim) (fun k hk => by show k ≠ _; omega) HB4.out HB4.out.size (by simp; omega) ?_)
       intro v27 w5 hR5 hb5 hg5 hnew5
       rw [List.nil_append] at hR5
       have HR5 := Lib.hid hR5
       have HB5 := Lib.hid hb5
       have hs5 := hg5.size
       have hH5 := Lib.hid ((hg5.block w1.heap.size (by omega) (fun e => HR4.out.1 _ e.symm rfl)).trans hH4.out)
       clear hR5 hb5 hg5 hnew5)
    | (at_builtin
       (refine Kd.R_append (Kd.int .i64) (w0 := w) w.heap.size rfl (.tmp 27) (.tmp 30) 46 3 (.int .i64 0) 8 rfl Tryd.underlying46 info3 rfl (by decide) (by decide) v27 L (k0 : Int) [.int .i64 (k0 : Int)] (fun k => k ≠ w1.heap.size) (fun _ => False) rfl rfl rfl (fun _ h => h.elim) (fun k hk => by show k ≠ _; omega) HR5.out HB5.out HB5.out.size (by omega) ?_)
       intro v31 w6 hR6 hb6 hg6 hnew6
       have HR6 := Lib.hid hR6
       have HB6 := Lib.hid hb6
       have hs6 := hg6.size
       have hH6 := Lib.hid ((hg6.block w1.heap.size (by omega) (fun e => HR5.out.1 _ e.symm rfl)).trans hH5.out)
       obtain ⟨A31, c31, e31⟩ := Kd.R_slice hR6
       subst e31
       clear hR6 hb6 hg6 hnew6)
    )
  have hss : (s0.extract 0 k0).size = k0 := by rw [ByteArray.size_extract]; omega
  generalize s0.extract 0 k0 = s at *
  subst hss
  have HP0 : Hid (Pc w w1.heap.size w6.heap.size C0 (.slice A31 (L.length + 1) c31) (L ++ [(s.size : Int)]) (.slice none 0 0) [] w6) :=
    Lib.hid (pc_mk hH6.out (by have := HR6.out; rw [List.length_append] at this; exact this) (Kd.R_nil _ _ _ _ _) HB6.out (by omega) hsz1)
  clear HR6 hH6 HB6 HR5 hH5 HB5 HR4 hH4 HB4 HR0 HB0 HRm hcut HW1
  generalize hLL : L ++ [(s.size : Int)] = cl at *
  have hLLl : cl.length = L.length + 1 := by rw [← hLL]; simp
  have HLL := Lib.hid hLL
  clear hLL
  have hpos : 0 < w.heap.size := hKH.out.1
  go_loopw [33, 6, 7] (fun i at' vp wr => ∃ (k a : Nat) (ps : List ByteArray) (C : Array Value) (vq : Value), vq = vp ∧ k ≤ L.length + 1 ∧ i = .int .i64 k ∧ at' = .int .i64 a ∧ a ≤ s.size ∧ ps.length ≤ k ∧ (k = L.length + 1 → a = s.size) ∧ Hid (dats ps = (dat s).take a) ∧
      Hid (C = (sumCells (Sh.take Sh.h0 [] ((dat s).take a)).1 (mkB (Sh.take Sh.h0 [] ((dat s).take a)).2) a).toArray) ∧ Hid (Pc w w1.heap.size wr.heap.size C (.slice A31 (L.length + 1) c31) cl vq ps wr)) (fun i _ _ _ => L.length + 1 - (intOf i).toNat)
  case atStart => exact ⟨0, 0, [], C0, _, rfl, by omega, rfl, rfl, by omega, by simp, by omega, Lib.hid (by simp [dats]), HC0, HP0⟩
  case round =>
    obtain ⟨k, a, ps, C, vp, rfl, hk, rfl, rfl, ha, hps, hend, hdats, hC, hP⟩ := hrel
    by_cases hlt : k < L.length + 1
    · obtain ⟨ad, hA, hc⟩ := Kd.at_int (Kd.R_reads' (pc_ints hP.out)).2.2 (k : Int) (by omega) (by omega)
      subst hA
      rw [Int.toNat_natCast] at hc
      go_upto_region 8 with fail
      obtain ⟨b, hb, hb1, hb2, hb3⟩ : ∃ b : Nat, (if (s.size : Int) < (if rd cl (k : Int) < (a : Int) then (a : Int) else rd cl (k : Int)) then (s.size : Int) else (if rd cl (k : Int) < (a : Int) then (a : Int) else rd cl (k : Int))) = (b : Int) ∧ a ≤ b ∧ b ≤ s.size ∧ (k + 1 = L.length + 1 → b = s.size) := by
        have hlast : k + 1 = L.length + 1 → rd cl (k : Int) = (s.size : Int) := by
          intro e
          obtain rfl : k = L.length := by omega
          rw [rd, Int.toNat_natCast, ← HLL.out]
          simp [List.getD_eq_getElem?_getD]
        generalize rd cl (k : Int) = x at *
        by_cases h1 : x < (a : Int)
        · rw [if_pos h1]; exact ⟨a, by rw [if_neg (by omega)], by omega, ha, fun e => by have := hlast e; omega⟩
        · rw [if_neg h1]
          by_cases h2 : (s.size : Int) < x
          · exact ⟨s.size, by rw [if_pos h2], ha, by omega, fun _ => rfl⟩
          · exact ⟨x.toNat, by rw [if_neg h2]; omega, by omega, by omega, fun e => by have := hlast e; omega⟩
      rw [hb]
      clear hb
      generalize (if rd cl (k : Int) < (a : Int) then (a : Int) else rd cl (k : Int)) = mx at *
      generalize rd cl (k : Int) = x at *
      have hGo := fun W hK => sum_go (dat s) a b hb1 (by rw [dat_length]; exact hb2) (by rw [dat_length]; omega) (s.extract a b) (extract_mid s a b) W hK
      rw [← hC.out] at hGo
      have hRt := fun W => sum_right (dat s) b (by rw [dat_length]; exact hb2) (by rw [dat_length]; omega) W
      obtain ⟨hl1, _⟩ := take_ok ((dat s).take a)
      obtain ⟨hl2, _⟩ := take_ok ((dat s).take b)
      obtain ⟨y0, y1, y2, y3, y4, y5, y6, y7, e1⟩ := eight _ hl1
      obtain ⟨z0, z1, z2, z3, z4, z5, z6, z7, e2⟩ := eight _ hl2
      have hC' := hC.out
      generalize mkB (Sh.take Sh.h0 [] ((dat s).take a)).2 = buf1 at *
      generalize hbuf2 : mkB (Sh.take Sh.h0 [] ((dat s).take b)).2 = buf2 at *
      rw [e1, cells_lit] at hC'
      rw [e2, cells_lit] at hGo hRt
      have HC2 : Hid (#[.int .u64 (z0 : Nat), .int .u64 (z1 : Nat), .int .u64 (z2 : Nat), .int .u64 (z3 : Nat), .int .u64 (z4 : Nat), .int .u64 (z5 : Nat), .int .u64 (z6 : Nat), .int .u64 (z7 : Nat), .string buf2, .int .u64 (b : Nat)] = (sumCells (Sh.take Sh.h0 [] ((dat s).take b)).1 (mkB (Sh.take Sh.h0 [] ((dat s).take b)).2) b).toArray) := Lib.hid (by rw [hbuf2, e2, cells_lit])
      clear hl1 hl2 e1 e2 hbuf2 hC
      subst hC'
      have HGo := Lib.hid hGo
      have HRt := Lib.hid hRt
      clear hGo hRt
      have hP1 := hP.out
      have hPN := pc_size hP1
      generalize hN : wr.heap.size = N at *
      have hNle : N ≤ wr.heap.size := by omega
      clear hN
      go_cut [11, 12] (fun v11 v12 wx => ∃ B11 : Nat, v11 = .pointer (some ⟨B11, 0, none⟩) ∧ v12 = .int .i64 0 ∧ N ≤ B11 ∧ Hid (Pc w w1.heap.size N #[.int .u64 (y0 : Nat), .int .u64 (y1 : Nat), .int .u64 (y2 : Nat), .int .u64 (y3 : Nat), .int .u64 (y4 : Nat), .int .u64 (y5 : Nat), .int .u64 (y6 : Nat), .int .u64 (y7 : Nat), .string buf1, .int .u64 (a : Nat)] (.slice (some ad) (L.length + 1) c31) cl vp ps wx) ∧
          wx.heap[B11]? = some (.cells #[.int .u64 (z0 : Nat), .int .u64 (z1 : Nat), .int .u64 (z2 : Nat), .int .u64 (z3 : Nat), .int .u64 (z4 : Nat), .int .u64 (z5 : Nat), .int .u64 (z6 : Nat), .int .u64 (z7 : Nat), .string buf2, .int .u64 (b : Nat)] 28))
      case first =>
        go_region_held3 (fun W => Pc w w1.heap.size N #[.int .u64 (y0 : Nat), .int .u64 (y1 : Nat), .int .u64 (y2 : Nat), .int .u64 (y3 : Nat), .int .u64 (y4 : Nat), .int .u64 (y5 : Nat), .int .u64 (y6 : Nat), .int .u64 (y7 : Nat), .string buf1, .int .u64 (a : Nat)] (.slice (some ad) (L.length + 1) c31) cl vp ps W ∧
            W.cell? ⟨w1.heap.size, 0, none⟩ = some (.int .u64 (y0 : Nat)) ∧ W.cell? ⟨w1.heap.size, 1, none⟩ = some (.int .u64 (y1 : Nat)) ∧ W.cell? ⟨w1.heap.size, 2, none⟩ = some (.int .u64 (y2 : Nat)) ∧ W.cell? ⟨w1.heap.size, 3, none⟩ = some (.int .u64 (y3 : Nat)) ∧ W.cell? ⟨w1.heap.size, 4, none⟩ = some (.int .u64 (y4 : Nat)) ∧ W.cell? ⟨w1.heap.size, 5, none⟩ = some (.int .u64 (y5 : Nat)) ∧ W.cell? ⟨w1.heap.size, 6, none⟩ = some (.int .u64 (y6 : Nat)) ∧ W.cell? ⟨w1.heap.size, 7, none⟩ = some (.int .u64 (y7 : Nat)) ∧ W.cell? ⟨w1.heap.size, 8, none⟩ = some (.string buf1) ∧ W.cell? ⟨w1.heap.size, 9, none⟩ = some (.int .u64 (a : Nat)))
          ((refine pcS ?_; (repeat (first | with_reducible exact hT2 | with_reducible exact hP1 | with_reducible refine pc_drew ?_ | with_reducible refine pc_alloc ?_ _ | with_reducible refine pc_setCell ?_ ?_ _ _)); all_goals omega))
          (first
            | (go_at_call 17
               refine (HGo.out _ ?_).mono ?_
               · first | (with_reducible exact keys_below (pc_below (pc_drew hP1)) hKH.out) | (with_reducible exact keys_below (pc_below (pc_alloc (pc_drew hP1) _)) hKH.out) | (with_reducible exact keys_below (pc_below (pc_drew (pc_alloc hP1 _))) hKH.out)
               rintro e w' ⟨rfl, hb⟩
               try
                 with_reducible (first | have hk := row_after3 hb | have hk := row_after2 hb | have hk := row_after hb)
                 obtain ⟨k0, k1, k2, k3, k4, k5, k6, k7, k8, k9, k10, k11, k12, k13, k14, k15, k16, k17, k18, k19⟩ := row20 hk
               first | (with_reducible have hT2 := pc_step (pc_drew hP1) hb) | (with_reducible have hT2 := pc_step (pc_alloc (pc_drew hP1) _) hb) | (with_reducible have hT2 := pc_step (pc_drew (pc_alloc hP1 _)) hb)
               have hsz2 := pc_size hT2))
        all_goals (go_wp2_with fail; go_meet)
        all_goals
          refine ⟨_, rfl, rfl, ?_, Lib.hid ?_, ?_⟩
          · omega
          · repeat (first | with_reducible exact hT2 | with_reducible exact hP1 | with_reducible refine pc_drew ?_ | with_reducible refine pc_alloc ?_ _ | with_reducible refine pc_setCell ?_ ?_ _ _)
            all_goals omega
          · with_reducible (first | exact heap_alloc_new _ _ | exact set10_row _ _ _ hk _ _ _ _ _ _ _ _ _ _)
      case rest =>
        obtain ⟨B11, rfl, rfl, hB11, hPx, hrow11⟩ := hcut
        have hlt11 := (Array.getElem?_eq_some_iff.1 hrow11).1
        have hR11 := Lib.hid hrow11
        obtain ⟨k0, k1, k2, k3, k4, k5, k6, k7, k8, k9⟩ := row10 hrow11
        clear hrow11
        go_upto_region 11 with ((go_at_call 20; refine (HRt.out _).mono ?_; rintro e w2 ⟨rfl, hb2⟩
                                 have hP2 := Lib.hid (pc_step hPx.out hb2)
                                 have hR2 := Lib.hid (row_keep hR11.out hb2)
                                 obtain ⟨j0, j1, j2, j3, j4, j5, j6, j7, j8, j9⟩ := row10 hR2.out
                                 have hs2 := hb2.size
                                 clear hb2))
        clear k0 k1 k2 k3 k4 k5 k6 k7 k8 k9 j0 j1 j2 j3 j4 j5 j6 j7 j8 j9
        have hs3 := pc_size hP2.out
        go_wp2_with (first
          | (at_builtin
             refine Kd.R_append Kd.string (w0 := w) w.heap.size rfl (.tmp 66) (.tmp 71) 47 9 (.string ⟨#[]⟩) 16 rfl Tryd.underlying47 info9 rfl (by decide) (by decide) vp ps (s.extract a b) [.string (s.extract a b)] (fun k => k ≠ w1.heap.size) (fun _ => False) rfl rfl rfl (fun _ h => h.elim) (fun k hk => by show k ≠ _; omega) (Kd.R_mono (pc_parts hP2.out) (fun k hk => hk.1)) (pc_below hP2.out) (pc_below hP2.out).size (by omega) ?_
             intro v7 w3 hR3 hb3 hg3 hnew3
             have hP3 := Lib.hid (pc_parts_up hP2.out hR3 hb3 hg3)
             have hrow3 := Lib.hid ((hg3.block B11 (by omega) (fun e => absurd ((pc_parts hP2.out).1 B11 e.symm).2 (by omega))).trans hR2.out)
             clear hR3 hb3 hg3 hnew3)
          | (refine wpList_load_row rfl 28 _ rfl B11 rfl 28 _ (0, 0) _ hrow3.out Tryd.underlying28 rfl (by rw [hi28]; rfl) ?_)
          | (refine wpList_store_row rfl 28 _ _ rfl w1.heap.size _ rfl rfl 28 _ (pc_row hP3.out) (by rw [hi28]; rfl) rfl (by simp [Value.oneCell']) ?_))
        go_roundw
        case rel =>
          refine ⟨k + 1, b, ps ++ [s.extract a b], _, _, rfl, by omega, by go_num, rfl, hb2, by simp; omega, hb3, Lib.hid ?_, HC2, Lib.hid (pc_renew (pc_store hP3.out))⟩
          have e : dats (ps ++ [s.extract a b]) = dats ps ++ (s.extract a b).data.toList := by simp [dats, dat]
          rw [e, hdats.out, extract_mid]
          conv => rhs; rw [← List.take_append_drop a ((dat s).take b), List.take_take, Nat.min_eq_left hb1]
        case measure => simp [intOf]; omega
    · obtain rfl : k = L.length + 1 := by omega
      obtain rfl : a = s.size := hend rfl
      have htk : (dat s).take s.size = dat s := List.take_of_length_le (by rw [dat_length]; exact Nat.le_refl _)
      rw [htk] at hdats hC
      have hEn := fun W hK => sum_end (dat s) (by rw [dat_length]; omega) W hK
      rw [dat_length, ← hC.out] at hEn
      have hsl := sum_length (dat s)
      have hP1 := hP.out
      obtain ⟨Ap, cp, rfl, hcp, hCp⟩ := Kd.R_reads (pc_parts hP1)
      have hS1 : ∀ W, Keys W → Calls Tryd.prog 8 #[.slice (some ⟨W.heap.size, 0, none⟩) 1 1] (W.alloc (.cells #[.string s] 9)) fun e w' => e = .returned (.string (mkB (Sh.sum (dat s)))) ∧ Below (W.alloc (.cells #[.string s] 9)).heap.size (W.alloc (.cells #[.string s] 9)) w' := by
        intro W hKW
        have := Sum_any (some ⟨W.heap.size, 0, none⟩) 1 [s] (W.alloc (.cells #[.string s] 9)) (one_str s W) (by simp) (by simp) (by simp [dats, dat]; omega) (keys_below ((Below.refl _ _).alloc (Nat.le_refl _) _) hKW)
        rw [show dats [s] = dat s from by simp [dats]] at this
        exact this
      have hS2 : ∀ W, Below wr.heap.size wr W → Keys W → Calls Tryd.prog 8 #[.slice Ap ps.length cp] W fun e w' => e = .returned (.string (mkB (Sh.sum (dat s)))) ∧ Below W.heap.size W w' := by
        intro W hbW hKW
        have := Sum_any Ap cp ps W (Kd.C_below hCp hbW) hcp (by omega) (by rw [hdats.out, dat_length]; omega) hKW
        rw [hdats.out] at this
        exact this
      have hKr := Lib.hid (keys_below (pc_below hP1) hKH.out)
      have hmk := S.mkB_size (Sh.sum (dat s))
      rw [hsl] at hmk
      generalize hSS : mkB (Sh.sum (dat s)) = S at *
      clear hSS hsl
      have hS3 : (S.size : Int) = 64 := by omega
      have HS1 := Lib.hid hS1
      have HS2 := Lib.hid hS2
      have HEn := Lib.hid hEn
      have hCsz : C.size = 10 := by rw [hC.out]; exact (cells_size _ _ _ (take_ok (dat s)).1).1
      have HCs := Lib.hid hCsz
      clear hS1 hS2 hEn hCsz hCp hcp htk
      go_upto_region 15 with (first
        | (refine wpList_load_row rfl 28 _ rfl w1.heap.size rfl 28 _ (0, 0) _ (pc_row hP1) Tryd.underlying28 rfl (by rw [hi28, HCs.out]) ?_)
        | (go_at_call 19; refine (HEn.out _ hKr.out).mono ?_; rintro e w2 ⟨rfl, hb2⟩))
      have hK2 := Lib.hid (keys_below hb2 hKr.out)
      have HB2 := Lib.hid hb2
      clear hb2
      go_wp2_with (first
        | (go_at_call 7; (with_reducible refine (alive_c _ hK2.out).mono ?_); rintro e w3 ⟨rfl, hb3⟩
           have hK3 := Lib.hid (keys_below hb3 hK2.out)
           have HB3 := Lib.hid (below_step HB2.out hb3)
           clear hb3)
        | (go_at_call 8; (with_reducible refine (HS1.out _ hK3.out).mono ?_); rintro e w4 ⟨rfl, hb4⟩
           have hba := (Below.refl w3.heap.size w3).alloc (Nat.le_refl _) (.cells #[.string s] 9)
           have HB4 := Lib.hid (below_step (below_step HB3.out hba) hb4)
           have hK4 := Lib.hid (keys_below (below_step hba hb4) hK3.out)
           clear hb4 hba)
        | (go_at_call 8; (with_reducible refine (HS2.out _ HB4.out hK4.out).mono ?_); rintro e w5 ⟨rfl, hb5⟩
           have HB5 := Lib.hid (below_step HB4.out hb5)
           clear hb5))
      go_ret
      exact ⟨rfl, below_step (pc_below hP1) HB5.out⟩
end Go.Proofs.YtjlmhndfpfgfkaaDoor.E
