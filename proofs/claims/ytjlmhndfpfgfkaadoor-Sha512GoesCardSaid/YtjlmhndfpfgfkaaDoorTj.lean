import Derived.Test.YtjlmhndfpfgfkaaDoorTi
set_option linter.unusedVariables false
set_option linter.unusedSimpArgs false
namespace Go.Proofs.YtjlmhndfpfgfkaaDoor.E
open Go.RowKit Go.Proofs.YtjlmhndfpfgfkaaDoorW.PrintWords Go.Proofs.YtjlmhndfpfgfkaaDoorW.PrintLast Go.Proofs.YtjlmhndfpfgfkaaDoorW.PrintMore
attribute [local go_sem] max2_int min2_int max_two min_two
open S (mkB be num)
theorem below_set10 {w W : World} {B r : Nat} (h : Below B w W) (hr : B ≤ r) (z0 z1 z2 z3 z4 z5 z6 z7 z8 z9 : Value) :
    Below B w ((((((((((W.setCell ⟨r, 0, none⟩ z0).setCell ⟨r, 1, none⟩ z1).setCell ⟨r, 2, none⟩ z2).setCell ⟨r, 3, none⟩ z3).setCell ⟨r, 4, none⟩ z4).setCell ⟨r, 5, none⟩ z5).setCell ⟨r, 6, none⟩ z6).setCell ⟨r, 7, none⟩ z7).setCell ⟨r, 8, none⟩ z8).setCell ⟨r, 9, none⟩ z9) :=
  (((((((((h.setCell hr z0).setCell hr z1).setCell hr z2).setCell hr z3).setCell hr z4).setCell hr z5).setCell hr z6).setCell hr z7).setCell hr z8).setCell hr z9
def Gs (w : World) (g : Nat) (C A : Array Value) (W : World) : Prop := W.heap[w.heap.size]? = some (.cells C 28) ∧ W.heap[g]? = some (.cells A 28) ∧ Below w.heap.size w W
theorem gs_step {w W W' : World} {g : Nat} {C A : Array Value} (h : Gs w g C A W) (hb : Below W.heap.size W W') : Gs w g C A W' := ⟨row_keep h.1 hb, row_keep h.2.1 hb, below_step h.2.2 hb⟩
theorem gs_drew {w W : World} {g : Nat} {C A : Array Value} (h : Gs w g C A W) : Gs w g C A W.drew := ⟨h.1, h.2.1, below_drew h.2.2⟩
theorem gs_keys {w W : World} {g : Nat} {C A : Array Value} (hK : Keys w) (h : Gs w g C A W) : Keys W := keys_below h.2.2 hK
theorem gs_below {w W : World} {g : Nat} {C A : Array Value} (h : Gs w g C A W) : Below w.heap.size w W := h.2.2
theorem gs_m {w W : World} {g : Nat} {C A : Array Value} (h : Gs w g C A W) : W.heap[w.heap.size]? = some (.cells C 28) := h.1
theorem gs_g {w W : World} {g : Nat} {C A : Array Value} (h : Gs w g C A W) : W.heap[g]? = some (.cells A 28) := h.2.1
theorem gs_mk {w W : World} {g : Nat} {C A : Array Value} (h1 : W.heap[w.heap.size]? = some (.cells C 28)) (h2 : W.heap[g]? = some (.cells A 28)) (h3 : Below w.heap.size w W) : Gs w g C A W := ⟨h1, h2, h3⟩
theorem gsS {w W : World} {g : Nat} {A : Array Value} {y0 y1 y2 y3 y4 y5 y6 y7 y8 y9 : Value} (h : Gs w g #[y0, y1, y2, y3, y4, y5, y6, y7, y8, y9] A W) : Gs w g #[y0, y1, y2, y3, y4, y5, y6, y7, y8, y9] A W ∧
    W.cell? ⟨w.heap.size, 0, none⟩ = some y0 ∧ W.cell? ⟨w.heap.size, 1, none⟩ = some y1 ∧ W.cell? ⟨w.heap.size, 2, none⟩ = some y2 ∧ W.cell? ⟨w.heap.size, 3, none⟩ = some y3 ∧ W.cell? ⟨w.heap.size, 4, none⟩ = some y4 ∧ W.cell? ⟨w.heap.size, 5, none⟩ = some y5 ∧ W.cell? ⟨w.heap.size, 6, none⟩ = some y6 ∧ W.cell? ⟨w.heap.size, 7, none⟩ = some y7 ∧ W.cell? ⟨w.heap.size, 8, none⟩ = some y8 ∧ W.cell? ⟨w.heap.size, 9, none⟩ = some y9 :=
  ⟨h, row10 h.1⟩
theorem gsS2 {w W : World} {g : Nat} {y0 y1 y2 y3 y4 y5 y6 y7 y8 y9 a0 a1 a2 a3 a4 a5 a6 a7 a8 a9 : Value} (h : Gs w g #[y0, y1, y2, y3, y4, y5, y6, y7, y8, y9] #[a0, a1, a2, a3, a4, a5, a6, a7, a8, a9] W) : Gs w g #[y0, y1, y2, y3, y4, y5, y6, y7, y8, y9] #[a0, a1, a2, a3, a4, a5, a6, a7, a8, a9] W ∧
    W.cell? ⟨w.heap.size, 0, none⟩ = some y0 ∧ W.cell? ⟨w.heap.size, 1, none⟩ = some y1 ∧ W.cell? ⟨w.heap.size, 2, none⟩ = some y2 ∧ W.cell? ⟨w.heap.size, 3, none⟩ = some y3 ∧ W.cell? ⟨w.heap.size, 4, none⟩ = some y4 ∧ W.cell? ⟨w.heap.size, 5, none⟩ = some y5 ∧ W.cell? ⟨w.heap.size, 6, none⟩ = some y6 ∧ W.cell? ⟨w.heap.size, 7, none⟩ = some y7 ∧ W.cell? ⟨w.heap.size, 8, none⟩ = some y8 ∧ W.cell? ⟨w.heap.size, 9, none⟩ = some y9 ∧
    W.cell? ⟨g, 0, none⟩ = some a0 ∧ W.cell? ⟨g, 1, none⟩ = some a1 ∧ W.cell? ⟨g, 2, none⟩ = some a2 ∧ W.cell? ⟨g, 3, none⟩ = some a3 ∧ W.cell? ⟨g, 4, none⟩ = some a4 ∧ W.cell? ⟨g, 5, none⟩ = some a5 ∧ W.cell? ⟨g, 6, none⟩ = some a6 ∧ W.cell? ⟨g, 7, none⟩ = some a7 ∧ W.cell? ⟨g, 8, none⟩ = some a8 ∧ W.cell? ⟨g, 9, none⟩ = some a9 := by
  obtain ⟨c0, c1, c2, c3, c4, c5, c6, c7, c8, c9⟩ := row10 h.1
  obtain ⟨d0, d1, d2, d3, d4, d5, d6, d7, d8, d9⟩ := row10 h.2.1
  exact ⟨h, c0, c1, c2, c3, c4, c5, c6, c7, c8, c9, d0, d1, d2, d3, d4, d5, d6, d7, d8, d9⟩
attribute [local irreducible] Sh.sched Sh.rr Sh.ad Sh.sg0 Sh.sg1 S.num Sh.kw Sh.t1 Sh.t2 Sh.nt Sh.comp Sh.blocks Sh.take Sh.tail Sh.fin Sh.h0 Sh.sum p2 dv dq fillB cut200 Gs
set_option maxHeartbeats 4000000 in
set_option maxRecDepth 100000 in
theorem goes_walk (H : List Nat) (buf : ByteArray) (n : Nat) (s0 : ByteArray) (w : World) (hK : Keys w) (hl : H.length = 8) (hx : ∀ x ∈ H, x < 18446744073709551616) (hn : n < 18446744073709551616)
    (hb : buf.size ≤ 9223372036854775807) (hs0 : s0.size < 9223372036854775807) :
    Calls Tryd.prog 5 #[.agg (sumCells H buf n).toArray, .string s0] w fun e w' => e = .returned (.bool true) ∧ Below w.heap.size w w' := by
  have hKH := Lib.hid hK
  have hX := Lib.hid hx
  clear hK hx
  have hFew := fun W => few_any H buf n W hl hb
  have hb2 := cut200_size buf
  generalize cut200 buf = bf at *
  obtain ⟨x0, x1, x2, x3, x4, x5, x6, x7, rfl⟩ := eight H hl
  rw [cells_lit] at hFew
  rw [cells_lit] at hFew
  rw [cells_lit]
  have HFew := Lib.hid hFew
  clear hFew
  obtain ⟨k0, hk0, hk1, hk2⟩ : ∃ k : Nat, (if (300 : Int) < (s0.size : Int) then (300 : Int) else (s0.size : Int)) = (k : Int) ∧ k ≤ s0.size ∧ k ≤ 300 := by
    split
    · exact ⟨300, rfl, by omega, by omega⟩
    · exact ⟨s0.size, rfl, by omega, by omega⟩
  go_enter Tryd.func5, Tryd.ntmps5
  go_upto_region 1 with fail
  go_cut [1] (fun v1 wx => v1 = .string (s0.extract 0 k0) ∧ Hid (wx.heap[w.heap.size]? = some (.cells (sumCells (hvs x0 x1 x2 x3 x4 x5 x6 x7) bf n).toArray 28)) ∧ Hid (Below w.heap.size w wx))
  case first =>
    go_region_with ((go_at_call 18; refine (HFew.out _).mono ?_; rintro e w' ⟨rfl, hb1⟩; have hk := row_after2 hb1; obtain ⟨c0, c1, c2, c3, c4, c5, c6, c7, c8, c9, f0, f1, f2, f3, f4, f5, f6, f7, f8, f9⟩ := row20 hk))
    all_goals (go_wp2_with fail; go_meet)
    all_goals
      refine ⟨rfl, Lib.hid ?_, Lib.hid ?_⟩
      · rw [cells_lit]
        with_reducible exact set10_row _ _ _ hk _ _ _ _ _ _ _ _ _ _
      · refine below_set10 ?_ (Nat.le_refl _) _ _ _ _ _ _ _ _ _ _
        exact below_step (below_drew ((Below.refl _ _).alloc (Nat.le_refl _) _)) hb1
  case rest =>
    obtain ⟨rfl, hrow, hB⟩ := hcut
    have hss : (s0.extract 0 k0).size ≤ 300 := by rw [ByteArray.size_extract]; omega
    generalize s0.extract 0 k0 = s at *
    clear HFew
    have hcases : ∃ (r : Bool) (a0 a1 a2 a3 a4 a5 a6 a7 an : Nat) (ab st : ByteArray) (ea ef : Int),
        Hid (∀ W, Keys W → Calls Tryd.prog 17 #[.agg #[.int .u64 (x0 : Nat), .int .u64 (x1 : Nat), .int .u64 (x2 : Nat), .int .u64 (x3 : Nat), .int .u64 (x4 : Nat), .int .u64 (x5 : Nat), .int .u64 (x6 : Nat), .int .u64 (x7 : Nat), .string bf, .int .u64 (n : Nat)], .string s] W fun e w' => e = .returned (.tuple #[.agg #[.int .u64 (a0 : Nat), .int .u64 (a1 : Nat), .int .u64 (a2 : Nat), .int .u64 (a3 : Nat), .int .u64 (a4 : Nat), .int .u64 (a5 : Nat), .int .u64 (a6 : Nat), .int .u64 (a7 : Nat), .string ab, .int .u64 (an : Nat)], .int .i64 ea]) ∧ Below W.heap.size W w') ∧
        Hid (∀ W, Keys W → Calls Tryd.prog 19 #[.agg #[.int .u64 (x0 : Nat), .int .u64 (x1 : Nat), .int .u64 (x2 : Nat), .int .u64 (x3 : Nat), .int .u64 (x4 : Nat), .int .u64 (x5 : Nat), .int .u64 (x6 : Nat), .int .u64 (x7 : Nat), .string bf, .int .u64 (n : Nat)]] W fun e w' => e = .returned (.tuple #[.string st, .int .i64 ef]) ∧ Below W.heap.size W w') ∧
        Hid (∀ W, Calls Tryd.prog 20 #[.agg #[.int .u64 (x0 : Nat), .int .u64 (x1 : Nat), .int .u64 (x2 : Nat), .int .u64 (x3 : Nat), .int .u64 (x4 : Nat), .int .u64 (x5 : Nat), .int .u64 (x6 : Nat), .int .u64 (x7 : Nat), .string bf, .int .u64 (n : Nat)]] W fun e w' => e = .returned (.bool r) ∧ Below W.heap.size W w') ∧
        Hid (∀ W, Calls Tryd.prog 21 #[.agg #[.int .u64 (x0 : Nat), .int .u64 (x1 : Nat), .int .u64 (x2 : Nat), .int .u64 (x3 : Nat), .int .u64 (x4 : Nat), .int .u64 (x5 : Nat), .int .u64 (x6 : Nat), .int .u64 (x7 : Nat), .string bf, .int .u64 (n : Nat)]] W fun e w' => e = .returned (.bool r) ∧ Below W.heap.size W w') ∧
        ((r = false ∧ ea = 1 ∧ ef = 1 ∧ st = ⟨#[]⟩ ∧ a0 = 0 ∧ a1 = 0 ∧ a2 = 0 ∧ a3 = 0 ∧ a4 = 0 ∧ a5 = 0 ∧ a6 = 0 ∧ a7 = 0 ∧ an = 0 ∧ ab = ⟨#[]⟩) ∨
         (r = true ∧ n ≤ 1099511627776 ∧ 1099511627776 < n + s.size ∧ ea = 2 ∧ ef = 0 ∧ Hid (∀ W, Calls Tryd.prog 22 #[.agg #[.int .u64 (x0 : Nat), .int .u64 (x1 : Nat), .int .u64 (x2 : Nat), .int .u64 (x3 : Nat), .int .u64 (x4 : Nat), .int .u64 (x5 : Nat), .int .u64 (x6 : Nat), .int .u64 (x7 : Nat), .string bf, .int .u64 (n : Nat)]] W fun e w' => e = .returned (.string st) ∧ Below W.heap.size W w') ∧ a0 = 0 ∧ a1 = 0 ∧ a2 = 0 ∧ a3 = 0 ∧ a4 = 0 ∧ a5 = 0 ∧ a6 = 0 ∧ a7 = 0 ∧ an = 0 ∧ ab = ⟨#[]⟩) ∨
         (r = true ∧ n ≤ 1099511627776 ∧ n + s.size ≤ 1099511627776 ∧ ea = 0 ∧ ef = 0 ∧ Hid (∀ W, Calls Tryd.prog 22 #[.agg #[.int .u64 (x0 : Nat), .int .u64 (x1 : Nat), .int .u64 (x2 : Nat), .int .u64 (x3 : Nat), .int .u64 (x4 : Nat), .int .u64 (x5 : Nat), .int .u64 (x6 : Nat), .int .u64 (x7 : Nat), .string bf, .int .u64 (n : Nat)]] W fun e w' => e = .returned (.string st) ∧ Below W.heap.size W w') ∧
            Hid (∀ W, Calls Tryd.prog 23 #[.agg #[.int .u64 (x0 : Nat), .int .u64 (x1 : Nat), .int .u64 (x2 : Nat), .int .u64 (x3 : Nat), .int .u64 (x4 : Nat), .int .u64 (x5 : Nat), .int .u64 (x6 : Nat), .int .u64 (x7 : Nat), .string bf, .int .u64 (n : Nat)], .string s] W fun e w' => e = .returned (.agg #[.int .u64 (a0 : Nat), .int .u64 (a1 : Nat), .int .u64 (a2 : Nat), .int .u64 (a3 : Nat), .int .u64 (a4 : Nat), .int .u64 (a5 : Nat), .int .u64 (a6 : Nat), .int .u64 (a7 : Nat), .string ab, .int .u64 (an : Nat)]) ∧ Below W.heap.size W w'))) := by
      have hR := fun W => right_c (hvs x0 x1 x2 x3 x4 x5 x6 x7) bf n hl hn (by omega) W
      have hRr := fun W => rright_c (hvs x0 x1 x2 x3 x4 x5 x6 x7) bf n hl hn (by omega) W
      rw [cells_lit] at hR hRr
      cases hr : rightB bf n with
      | false =>
        have hW := fun W (hK : Keys W) => Write_not (hvs x0 x1 x2 x3 x4 x5 x6 x7) bf n s hl hn (by omega) hr W
        have hE := fun W (hK : Keys W) => End_not (hvs x0 x1 x2 x3 x4 x5 x6 x7) bf n hl hn (by omega) hr W
        rw [cells_lit] at hW hE
        rw [hr] at hR hRr
        exact ⟨false, 0, 0, 0, 0, 0, 0, 0, 0, 0, ⟨#[]⟩, ⟨#[]⟩, 1, 1, Lib.hid hW, Lib.hid hE, Lib.hid hR, Lib.hid hRr, .inl ⟨rfl, rfl, rfl, rfl, rfl, rfl, rfl, rfl, rfl, rfl, rfl, rfl, rfl, rfl⟩⟩
      | true =>
        obtain ⟨hb128, hn40, hmod⟩ := rightB_true hr
        have hE := fun W (hK : Keys W) => End_ok (hvs x0 x1 x2 x3 x4 x5 x6 x7) bf n hl hX.out hr W hK
        have hRe := fun W => rend_any (hvs x0 x1 x2 x3 x4 x5 x6 x7) bf n W hl hX.out (by omega) hb128
        rw [cells_lit] at hE hRe
        rw [hr] at hR hRr
        by_cases hlong : 1099511627776 < n + s.size
        · have hW := fun W (hK : Keys W) => Write_long (hvs x0 x1 x2 x3 x4 x5 x6 x7) bf n s hl hr (by omega) hlong W
          rw [cells_lit] at hW
          exact ⟨true, 0, 0, 0, 0, 0, 0, 0, 0, 0, ⟨#[]⟩, _, 2, 0, Lib.hid hW, Lib.hid hE, Lib.hid hR, Lib.hid hRr, .inr (.inl ⟨rfl, hn40, hlong, rfl, rfl, Lib.hid hRe, rfl, rfl, rfl, rfl, rfl, rfl, rfl, rfl, rfl, rfl⟩)⟩
        · have hW := fun W (hK : Keys W) => Write_ok (hvs x0 x1 x2 x3 x4 x5 x6 x7) bf n s hl hX.out hr (by omega) (by omega) W hK
          have hRw := fun W => rwrite_any (hvs x0 x1 x2 x3 x4 x5 x6 x7) bf n s W hl hX.out (by omega) (by omega)
          obtain ⟨hl2, _⟩ := Sh.blocks_ok (bf.data.toList.length + s.data.toList.length) (hvs x0 x1 x2 x3 x4 x5 x6 x7) (bf.data.toList ++ s.data.toList) hl hX.out
          rw [show Sh.blocks (bf.data.toList.length + s.data.toList.length) (hvs x0 x1 x2 x3 x4 x5 x6 x7) (bf.data.toList ++ s.data.toList) = Sh.take (hvs x0 x1 x2 x3 x4 x5 x6 x7) bf.data.toList s.data.toList from by unfold Sh.take; rfl] at hl2
          generalize (Sh.take (hvs x0 x1 x2 x3 x4 x5 x6 x7) bf.data.toList s.data.toList).1 = H2 at *
          generalize mkB (Sh.take (hvs x0 x1 x2 x3 x4 x5 x6 x7) bf.data.toList s.data.toList).2 = ab at *
          obtain ⟨a0, a1, a2, a3, a4, a5, a6, a7, rfl⟩ := eight H2 hl2
          rw [cells_lit, cells_lit] at hW hRw
          exact ⟨true, a0, a1, a2, a3, a4, a5, a6, a7, n + s.size, ab, _, 0, 0, Lib.hid hW, Lib.hid hE, Lib.hid hR, Lib.hid hRr, .inr (.inr ⟨rfl, hn40, by omega, rfl, rfl, Lib.hid hRe, Lib.hid hRw⟩)⟩
    obtain ⟨r, a0, a1, a2, a3, a4, a5, a6, a7, an, ab, st, ea, ef, HW, HE, HR, HRr, hcs⟩ := hcases
    rw [cells_lit] at hrow
    have hKr := Lib.hid (keys_below hB.out hKH.out)
    obtain ⟨c0, c1, c2, c3, c4, c5, c6, c7, c8, c9⟩ := row10 hrow.out
    have HCS := Lib.hid hcs
    clear hcs
    go_upto_region 3 with (go_at_call 17; (with_reducible refine (HW.out _ hKr.out).mono ?_); rintro e w2 ⟨rfl, hb2⟩)
    clear c0 c1 c2 c3 c4 c5 c6 c7 c8 c9
    have hm2 := row_keep hrow.out hb2
    have hP3 : Gs w w2.heap.size #[.int .u64 (x0 : Nat), .int .u64 (x1 : Nat), .int .u64 (x2 : Nat), .int .u64 (x3 : Nat), .int .u64 (x4 : Nat), .int .u64 (x5 : Nat), .int .u64 (x6 : Nat), .int .u64 (x7 : Nat), .string bf, .int .u64 (n : Nat)] #[.int .u64 (a0 : Nat), .int .u64 (a1 : Nat), .int .u64 (a2 : Nat), .int .u64 (a3 : Nat), .int .u64 (a4 : Nat), .int .u64 (a5 : Nat), .int .u64 (a6 : Nat), .int .u64 (a7 : Nat), .string ab, .int .u64 (an : Nat)] (w2.alloc (.cells #[.int .u64 (a0 : Nat), .int .u64 (a1 : Nat), .int .u64 (a2 : Nat), .int .u64 (a3 : Nat), .int .u64 (a4 : Nat), .int .u64 (a5 : Nat), .int .u64 (a6 : Nat), .int .u64 (a7 : Nat), .string ab, .int .u64 (an : Nat)] 28)) := gs_mk ((heap_alloc_old _ _ (Array.getElem?_eq_some_iff.1 hm2).1).trans hm2) (heap_alloc_new _ _) ((below_step hB.out hb2).alloc (below_step hB.out hb2).size _)
    clear hm2 hb2 hrow hKr hB HW
    generalize w2.alloc (.cells #[.int .u64 (a0 : Nat), .int .u64 (a1 : Nat), .int .u64 (a2 : Nat), .int .u64 (a3 : Nat), .int .u64 (a4 : Nat), .int .u64 (a5 : Nat), .int .u64 (a6 : Nat), .int .u64 (a7 : Nat), .string ab, .int .u64 (an : Nat)] 28) = w3 at *
    generalize w2.heap.size = g at *
    obtain ⟨c0, c1, c2, c3, c4, c5, c6, c7, c8, c9⟩ := row10 (gs_m hP3)
    go_upto_region 4 with (go_at_call 19; (with_reducible refine (HE.out _ (gs_keys hKH.out hP3)).mono ?_); rintro e w4 ⟨rfl, hb4⟩)
    clear c0 c1 c2 c3 c4 c5 c6 c7 c8 c9 HE
    have hP4 := gs_step hP3 hb4
    clear hP3 hb4
    go_cut [35] (fun v35 wx => v35 = .bool false ∧ Hid (Gs w g #[.int .u64 (x0 : Nat), .int .u64 (x1 : Nat), .int .u64 (x2 : Nat), .int .u64 (x3 : Nat), .int .u64 (x4 : Nat), .int .u64 (x5 : Nat), .int .u64 (x6 : Nat), .int .u64 (x7 : Nat), .string bf, .int .u64 (n : Nat)] #[.int .u64 (a0 : Nat), .int .u64 (a1 : Nat), .int .u64 (a2 : Nat), .int .u64 (a3 : Nat), .int .u64 (a4 : Nat), .int .u64 (a5 : Nat), .int .u64 (a6 : Nat), .int .u64 (a7 : Nat), .string ab, .int .u64 (an : Nat)] wx))
    case first =>
      have hrr : (r != r) = false := by cases r <;> rfl
      go_region_held3 (fun W => Gs w g #[.int .u64 (x0 : Nat), .int .u64 (x1 : Nat), .int .u64 (x2 : Nat), .int .u64 (x3 : Nat), .int .u64 (x4 : Nat), .int .u64 (x5 : Nat), .int .u64 (x6 : Nat), .int .u64 (x7 : Nat), .string bf, .int .u64 (n : Nat)] #[.int .u64 (a0 : Nat), .int .u64 (a1 : Nat), .int .u64 (a2 : Nat), .int .u64 (a3 : Nat), .int .u64 (a4 : Nat), .int .u64 (a5 : Nat), .int .u64 (a6 : Nat), .int .u64 (a7 : Nat), .string ab, .int .u64 (an : Nat)] W ∧ W.cell? ⟨w.heap.size, 0, none⟩ = some (.int .u64 (x0 : Nat)) ∧ W.cell? ⟨w.heap.size, 1, none⟩ = some (.int .u64 (x1 : Nat)) ∧ W.cell? ⟨w.heap.size, 2, none⟩ = some (.int .u64 (x2 : Nat)) ∧ W.cell? ⟨w.heap.size, 3, none⟩ = some (.int .u64 (x3 : Nat)) ∧ W.cell? ⟨w.heap.size, 4, none⟩ = some (.int .u64 (x4 : Nat)) ∧ W.cell? ⟨w.heap.size, 5, none⟩ = some (.int .u64 (x5 : Nat)) ∧ W.cell? ⟨w.heap.size, 6, none⟩ = some (.int .u64 (x6 : Nat)) ∧ W.cell? ⟨w.heap.size, 7, none⟩ = some (.int .u64 (x7 : Nat)) ∧ W.cell? ⟨w.heap.size, 8, none⟩ = some (.string bf) ∧ W.cell? ⟨w.heap.size, 9, none⟩ = some (.int .u64 (n : Nat)))
        (first | (with_reducible exact gsS hC) | (with_reducible exact gsS hB) | (with_reducible exact gsS hA) | (with_reducible exact gsS (gs_drew hP4)))
        (first
          | (go_at_call 20
             refine (HR.out _).mono ?_
             rintro e w' ⟨rfl, hb⟩
             first | (with_reducible have hA := gs_step hB hb) | (with_reducible have hA := gs_step (gs_drew hP4) hb))
          | (go_at_call 21
             refine (HRr.out _).mono ?_
             rintro e w' ⟨rfl, hb⟩
             first | (with_reducible have hB := gs_step hA hb) | (with_reducible have hB := gs_step (gs_drew hP4) hb))
          | (go_at_call 7
             refine (alive_c _ ?_).mono ?_
             · first | (with_reducible exact gs_keys hKH.out hB) | (with_reducible exact gs_keys hKH.out hA)
             rintro e w' ⟨rfl, hb⟩
             first | (with_reducible have hC := gs_step hB hb) | (with_reducible have hC := gs_step hA hb)))
      all_goals (go_wp2_with fail; go_meet)
      all_goals exact ⟨rfl, Lib.hid hC⟩
    case rest =>
      obtain ⟨rfl, hP5⟩ := hcut
      have hz28 : ∀ W, (zeroValue 28).run Tryd.prog W = .ok (.agg #[.int .u64 0, .int .u64 0, .int .u64 0, .int .u64 0, .int .u64 0, .int .u64 0, .int .u64 0, .int .u64 0, .string ⟨#[]⟩, .int .u64 0]) W := fun W => by kernel_rfl
      have hEZ := fun W => eq10 W 0 0 0 0 0 0 0 0 0 ⟨#[]⟩
      have hEA := fun W => eq10 W (a0 : Nat) (a1 : Nat) (a2 : Nat) (a3 : Nat) (a4 : Nat) (a5 : Nat) (a6 : Nat) (a7 : Nat) (an : Nat) ab
      obtain ⟨c0, c1, c2, c3, c4, c5, c6, c7, c8, c9⟩ := row10 (gs_m hP5.out)
      obtain ⟨d0, d1, d2, d3, d4, d5, d6, d7, d8, d9⟩ := row10 (gs_g hP5.out)
      rcases HCS.out with ⟨rfl, rfl, rfl, rfl, rfl, rfl, rfl, rfl, rfl, rfl, rfl, rfl, rfl, rfl⟩ | ⟨rfl, hn40, hlong, rfl, rfl, H22, rfl, rfl, rfl, rfl, rfl, rfl, rfl, rfl, rfl, rfl⟩ | ⟨rfl, hn40, hshort, rfl, rfl, H22, H23⟩
      · clear hEA
        go_upto_region 7 with (go_at_call 21; (with_reducible refine (HRr.out _).mono ?_); rintro e w6 ⟨rfl, hb6⟩)
        have hP6 := gs_step hP5.out hb6
        clear c0 c1 c2 c3 c4 c5 c6 c7 c8 c9 d0 d1 d2 d3 d4 d5 d6 d7 d8 d9 hb6
        obtain ⟨d0, d1, d2, d3, d4, d5, d6, d7, d8, d9⟩ := row10 (gs_g hP6)
        go_wp2_with fail
        go_ret
        exact ⟨rfl, gs_below hP6⟩
      · clear hEA
        have hdl : decide ((1099511627776 : Int) < (n : Int) + (s.size : Int)) = true := by simp; omega
        go_upto_region 8 with (go_at_call 21; (with_reducible refine (HRr.out _).mono ?_); rintro e w6 ⟨rfl, hb6⟩)
        have hP6 := gs_step hP5.out hb6
        clear c0 c1 c2 c3 c4 c5 c6 c7 c8 c9 d0 d1 d2 d3 d4 d5 d6 d7 d8 d9 hb6
        obtain ⟨c0, c1, c2, c3, c4, c5, c6, c7, c8, c9⟩ := row10 (gs_m hP6)
        obtain ⟨d0, d1, d2, d3, d4, d5, d6, d7, d8, d9⟩ := row10 (gs_g hP6)
        go_upto_region 11 with (go_at_call 22; (with_reducible refine (H22.out _).mono ?_); rintro e w7 ⟨rfl, hb7⟩
                                have hP7 := gs_step hP6 hb7
                                clear c0 c1 c2 c3 c4 c5 c6 c7 c8 c9 d0 d1 d2 d3 d4 d5 d6 d7 d8 d9 hb7
                                obtain ⟨c0, c1, c2, c3, c4, c5, c6, c7, c8, c9⟩ := row10 (gs_m hP7)
                                obtain ⟨d0, d1, d2, d3, d4, d5, d6, d7, d8, d9⟩ := row10 (gs_g hP7))
        go_wp2_with fail
        go_ret
        exact ⟨rfl, gs_below hP7⟩
      · clear hEZ
        have hdl : decide ((1099511627776 : Int) < (n : Int) + (s.size : Int)) = false := by simp; omega
        go_upto_region 8 with (go_at_call 21; (with_reducible refine (HRr.out _).mono ?_); rintro e w6 ⟨rfl, hb6⟩)
        have hP6 := gs_step hP5.out hb6
        clear c0 c1 c2 c3 c4 c5 c6 c7 c8 c9 d0 d1 d2 d3 d4 d5 d6 d7 d8 d9 hb6
        obtain ⟨c0, c1, c2, c3, c4, c5, c6, c7, c8, c9⟩ := row10 (gs_m hP6)
        obtain ⟨d0, d1, d2, d3, d4, d5, d6, d7, d8, d9⟩ := row10 (gs_g hP6)
        go_upto_region 12 with (go_at_call 22; (with_reducible refine (H22.out _).mono ?_); rintro e w7 ⟨rfl, hb7⟩
                                have hP7 := gs_step hP6 hb7
                                clear c0 c1 c2 c3 c4 c5 c6 c7 c8 c9 d0 d1 d2 d3 d4 d5 d6 d7 d8 d9 hb7
                                obtain ⟨c0, c1, c2, c3, c4, c5, c6, c7, c8, c9⟩ := row10 (gs_m hP7)
                                obtain ⟨d0, d1, d2, d3, d4, d5, d6, d7, d8, d9⟩ := row10 (gs_g hP7))
        clear c0 c1 c2 c3 c4 c5 c6 c7 c8 c9 d0 d1 d2 d3 d4 d5 d6 d7 d8 d9
        go_region_held3 (fun W => Gs w g #[.int .u64 (x0 : Nat), .int .u64 (x1 : Nat), .int .u64 (x2 : Nat), .int .u64 (x3 : Nat), .int .u64 (x4 : Nat), .int .u64 (x5 : Nat), .int .u64 (x6 : Nat), .int .u64 (x7 : Nat), .string bf, .int .u64 (n : Nat)] #[.int .u64 (a0 : Nat), .int .u64 (a1 : Nat), .int .u64 (a2 : Nat), .int .u64 (a3 : Nat), .int .u64 (a4 : Nat), .int .u64 (a5 : Nat), .int .u64 (a6 : Nat), .int .u64 (a7 : Nat), .string ab, .int .u64 (an : Nat)] W ∧ W.cell? ⟨w.heap.size, 0, none⟩ = some (.int .u64 (x0 : Nat)) ∧ W.cell? ⟨w.heap.size, 1, none⟩ = some (.int .u64 (x1 : Nat)) ∧ W.cell? ⟨w.heap.size, 2, none⟩ = some (.int .u64 (x2 : Nat)) ∧ W.cell? ⟨w.heap.size, 3, none⟩ = some (.int .u64 (x3 : Nat)) ∧ W.cell? ⟨w.heap.size, 4, none⟩ = some (.int .u64 (x4 : Nat)) ∧ W.cell? ⟨w.heap.size, 5, none⟩ = some (.int .u64 (x5 : Nat)) ∧ W.cell? ⟨w.heap.size, 6, none⟩ = some (.int .u64 (x6 : Nat)) ∧ W.cell? ⟨w.heap.size, 7, none⟩ = some (.int .u64 (x7 : Nat)) ∧ W.cell? ⟨w.heap.size, 8, none⟩ = some (.string bf) ∧ W.cell? ⟨w.heap.size, 9, none⟩ = some (.int .u64 (n : Nat)) ∧ W.cell? ⟨g, 0, none⟩ = some (.int .u64 (a0 : Nat)) ∧ W.cell? ⟨g, 1, none⟩ = some (.int .u64 (a1 : Nat)) ∧ W.cell? ⟨g, 2, none⟩ = some (.int .u64 (a2 : Nat)) ∧ W.cell? ⟨g, 3, none⟩ = some (.int .u64 (a3 : Nat)) ∧ W.cell? ⟨g, 4, none⟩ = some (.int .u64 (a4 : Nat)) ∧ W.cell? ⟨g, 5, none⟩ = some (.int .u64 (a5 : Nat)) ∧ W.cell? ⟨g, 6, none⟩ = some (.int .u64 (a6 : Nat)) ∧ W.cell? ⟨g, 7, none⟩ = some (.int .u64 (a7 : Nat)) ∧ W.cell? ⟨g, 8, none⟩ = some (.string ab) ∧ W.cell? ⟨g, 9, none⟩ = some (.int .u64 (an : Nat)))
          (first | (with_reducible exact gsS2 hC) | (with_reducible exact gsS2 (gs_drew hP7)))
          (first
            | (go_at_call 23
               refine (H23.out _).mono ?_
               rintro e w' ⟨rfl, hb⟩
               with_reducible have hC := gs_step (gs_drew hP7) hb))
        all_goals
          go_wp2_with fail
          go_ret
          exact ⟨rfl, gs_below hC⟩
end Go.Proofs.YtjlmhndfpfgfkaaDoor.E
