import Derived.Test.YtjlmhndfpfgfkaaDoorT7
set_option linter.unusedVariables false
set_option linter.unusedSimpArgs false
namespace Go.Proofs.YtjlmhndfpfgfkaaDoor.E
open Go.RowKit Go.Proofs.YtjlmhndfpfgfkaaDoorW.PrintWords Go.Proofs.YtjlmhndfpfgfkaaDoorW.PrintLast Go.Proofs.YtjlmhndfpfgfkaaDoorW.PrintMore
attribute [local go_sem] max2_int min2_int max_two min_two
open S (mkB be num)
def dat (s : ByteArray) : List UInt8 := s.data.toList
theorem dat_length (s : ByteArray) : (dat s).length = s.size := by simp [dat]
def dats (l : List ByteArray) : List UInt8 := l.flatMap dat
theorem take_nil (h : List Nat) : Sh.take h [] [] = (h, []) := rfl
theorem h0_len : Sh.h0.length = 8 := rfl
theorem h0_lt : ∀ x ∈ Sh.h0, x < 18446744073709551616 := by decide
theorem take_ok (s : List UInt8) : (Sh.take Sh.h0 [] s).1.length = 8 ∧ ∀ x ∈ (Sh.take Sh.h0 [] s).1, x < 18446744073709551616 := by
  unfold Sh.take; exact Sh.blocks_ok _ _ _ h0_len h0_lt
theorem dats_take (l : List ByteArray) (k : Nat) (h : k < l.length) : dats (l.take (k + 1)) = dats (l.take k) ++ dat l[k] := by
  unfold dats
  rw [List.take_succ_eq_append_getElem h, List.flatMap_append]; simp
theorem dats_le (l : List ByteArray) (k : Nat) : (dats (l.take k)).length ≤ (dats l).length := by
  have : dats l = dats (l.take k) ++ dats (l.drop k) := by
    unfold dats; rw [← List.flatMap_append, List.take_append_drop]
  rw [this, List.length_append]; omega
attribute [local irreducible] Sh.sched Sh.rr Sh.ad Sh.sg0 Sh.sg1 S.num Sh.kw Sh.t1 Sh.t2 Sh.nt Sh.comp Sh.blocks Sh.take Sh.tail Sh.fin Sh.h0
set_option maxHeartbeats 4000000 in
set_option maxRecDepth 100000 in
theorem Sum_any (A0 : Option Addr) (c0 : Nat) (l0 : List ByteArray) (w : World) (hr0 : Kd.C Kd.string w A0 l0.length l0) (hc0 : l0.length ≤ c0) (hlen : l0.length ≤ 4611686018427387904) (hsz : (dats l0).length < 100000) (hK : Keys w) :
    Calls Tryd.prog 8 #[.slice A0 l0.length c0] w fun e w' => e = .returned (.string (mkB (Sh.sum (dats l0)))) ∧ Below w.heap.size w w' := by
  have hN := new_c w
  obtain ⟨a, b, c, d, e, f, g, i, h0e⟩ := eight Sh.h0 h0_len
  have hl0 := Lib.hid h0e
  rw [h0e, cells_lit] at hN
  clear h0e
  have hKH := Lib.hid hK
  clear hK
  go_enter Tryd.func8, Tryd.ntmps8
  go_wp2_with (go_at_call 10; with_reducible refine hN.mono ?_; rintro e w1 ⟨rfl, hb1⟩)
  have hbw := hb1.alloc hb1.size (.cells #[.int .u64 (a : Nat), .int .u64 (b : Nat), .int .u64 (c : Nat), .int .u64 (d : Nat), .int .u64 (e : Nat), .int .u64 (f : Nat), .int .u64 (g : Nat), .int .u64 (i : Nat), .string ⟨#[]⟩, .int .u64 (0 : Nat)] 51)
  have hpos : 0 < w1.heap.size := Nat.lt_of_lt_of_le hKH.out.1 hb1.size
  have hsz1 := hb1.size
  have hst : ((w1.alloc (.cells #[.int .u64 (a : Nat), .int .u64 (b : Nat), .int .u64 (c : Nat), .int .u64 (d : Nat), .int .u64 (e : Nat), .int .u64 (f : Nat), .int .u64 (g : Nat), .int .u64 (i : Nat), .string ⟨#[]⟩, .int .u64 (0 : Nat)] 51))).heap[w1.heap.size]? =
      some (.cells (sumCells (Sh.take Sh.h0 [] (dats (l0.take 0))).1 (mkB (Sh.take Sh.h0 [] (dats (l0.take 0))).2) (dats (l0.take 0)).length).toArray 51) := by
    rw [show dats (l0.take 0) = [] from rfl, take_nil, hl0.out, cells_lit]; exact heap_alloc_new _ _
  have HST := Lib.hid hst
  have HBW := Lib.hid hbw
  have HR0 := Lib.hid hr0
  clear hst hbw hr0 hb1
  go_loopw [11] (fun i wr => ∃ k : Nat, k ≤ l0.length ∧ i = .int .i64 k ∧ Hid (wr.heap[w1.heap.size]? = some (.cells (sumCells (Sh.take Sh.h0 [] (dats (l0.take k))).1 (mkB (Sh.take Sh.h0 [] (dats (l0.take k))).2) (dats (l0.take k)).length).toArray 51)) ∧ Hid (Below w.heap.size w wr) ∧ w1.heap.size < wr.heap.size) (fun i _ => l0.length - (intOf i).toNat)
  case atStart => exact ⟨0, Nat.zero_le _, rfl, HST, HBW, by simp⟩
  case round =>
    obtain ⟨k, hk, rfl, hrow, hb, hlt1⟩ := hrel
    obtain ⟨hl2, hx2⟩ := take_ok (dats (l0.take k))
    have hrl := Sh.take_rest_length Sh.h0 [] (dats (l0.take k))
    have hdl := dats_le l0 k
    have hmk := S.mkB_size (Sh.take Sh.h0 [] (dats (l0.take k))).2
    by_cases hlt : k < l0.length
    · obtain ⟨ad, hA, hc⟩ := Kd.at_string HR0.out (k : Int) (by omega) (by omega)
      subst hA
      rw [Int.toNat_natCast] at hc
      replace hc := (hb.out.cell (World.block_lt_of_cell? w _ hc)).trans hc
      have hT := dats_take l0 k hlt
      have hdl2 := dats_le l0 (k + 1)
      have hrd : rdOf ByteArray.empty l0 k = l0[k] := by
        rw [rdOf, Int.toNat_natCast, List.getD_eq_getElem?_getD, List.getElem?_eq_getElem hlt]; rfl
      rw [hT, List.length_append, dat_length] at hdl2
      rw [hrd] at hc
      generalize l0[k] = s at *
      have hstep : Sh.take (Sh.take Sh.h0 [] (dats (l0.take k))).1 (Sh.take Sh.h0 [] (dats (l0.take k))).2 (dat s) = Sh.take Sh.h0 [] (dats (l0.take (k + 1))) := by
        rw [Sh.take_take, hT]
      have hlen2 : (dats (l0.take (k + 1))).length = (dats (l0.take k)).length + s.size := by rw [hT, List.length_append, dat_length]
      have hstH := Lib.hid hstep
      have hlnH := Lib.hid hlen2
      clear hstep hlen2 hT hrd
      generalize hG : Sh.take Sh.h0 [] (dats (l0.take k)) = G at *
      generalize (dats (l0.take k)).length = N at *
      clear hG
      have hKr := Lib.hid (keys_below hb.out hKH.out)
      go_wp2_with fail
      refine (take_any w1.heap.size G.1 (mkB G.2) N s wr hl2 hx2 (by omega) (by omega) hpos hlt1 hKr.out hrow.out).mono ?_
      rintro e w2 ⟨rfl, hrow2, hg2⟩
      rw [show (mkB G.2).data.toList = G.2 from by simp [mkB], show s.data.toList = dat s from rfl, hstH.out, ← hlnH.out] at hrow2
      have hrow2' := Lib.hid hrow2
      have hb2 := Lib.hid (hb.out.grown hg2 hb.out.size (fun k hk => by cases hk; exact hsz1))
      have hlt2 : w1.heap.size < w2.heap.size := Nat.lt_of_lt_of_le hlt1 hg2.size
      clear hrow2 hg2
      go_wp2_with fail
      go_roundw
      case rel => exact ⟨k + 1, by omega, by go_num, hrow2', hb2, hlt2⟩
      case measure => simp [intOf]; omega
    · obtain rfl : k = l0.length := by omega
      have hKr := Lib.hid (keys_below hb.out hKH.out)
      go_wp2_with fail
      refine (end_any w1.heap.size _ _ _ wr hl2 hx2 (by omega) (by rw [hmk, hrl]; exact Nat.mod_lt _ (by decide)) hpos hlt1 hKr.out hrow.out).mono ?_
      rintro e w2 ⟨rfl, hg2⟩
      have hb2 := Lib.hid (hb.out.grown hg2 hb.out.size (fun k hk => by cases hk; exact hsz1))
      clear hg2
      go_wp2_with fail
      go_ret
      refine ⟨?_, hb2.out⟩
      rw [show (mkB (Sh.take Sh.h0 [] (dats l0)).2).data.toList = (Sh.take Sh.h0 [] (dats l0)).2 from by simp [mkB]]
      rfl
end Go.Proofs.YtjlmhndfpfgfkaaDoor.E
