import Derived.Test.YtjlmhndfpfgfkaaDoorT9
import Derived.ChangeKeysEq
import Derived.Deep.DeepCutAuto
import Derived.Deep.CutBlock
import Derived.Deep.RegionWith
set_option linter.unusedVariables false
set_option linter.unusedSimpArgs false
namespace Go.Proofs.YtjlmhndfpfgfkaaDoor.E
open Go.RowKit Go.Proofs.YtjlmhndfpfgfkaaDoorW.PrintWords Go.Proofs.YtjlmhndfpfgfkaaDoorW.PrintLast Go.Proofs.YtjlmhndfpfgfkaaDoorW.PrintMore
attribute [local go_sem] max2_int min2_int max_two min_two
open S (mkB be num)
def TailIn (b q : Nat) (xs : List UInt8) (W : World) : Prop := W.ownsRow b 5 1 (.slice (some ⟨b, 0, none⟩) (128 * q) (128 * q)) (128 * q) (Lib.byteCells xs)
theorem tailIn_below {b q : Nat} {xs : List UInt8} {w w1 : World} (h : TailIn b q xs w) (hb : Below w.heap.size w w1) : TailIn b q xs w1 :=
  own_move h (fun k hk => hb.block k (h.lt k hk).2)
theorem tailIn_alloc {b q : Nat} {xs : List UInt8} {w : World} (h : TailIn b q xs w) (o : Obj) : TailIn b q xs (w.alloc o) := tailIn_below h ((Below.refl _ _).alloc (Nat.le_refl _) _)
theorem tailIn_drew {b q : Nat} {xs : List UInt8} {w : World} (h : TailIn b q xs w) : TailIn b q xs w.drew := tailIn_below h ⟨rfl, rfl, rfl, Nat.le_refl _, fun _ _ => rfl⟩
def Near (w : World) (q b : Nat) (xs : List UInt8) (W : World) : Prop := TailIn b q xs W ∧ Below w.heap.size w W
theorem near_step {w W W' : World} {q b : Nat} {xs : List UInt8} (h : Near w q b xs W) (hb : Below W.heap.size W W') : Near w q b xs W' := ⟨tailIn_below h.1 hb, below_step h.2 hb⟩
theorem near_alloc {w W : World} {q b : Nat} {xs : List UInt8} (h : Near w q b xs W) (o : Obj) : Near w q b xs (W.alloc o) := near_step h ((Below.refl _ _).alloc (Nat.le_refl _) _)
theorem near_drew {w W : World} {q b : Nat} {xs : List UInt8} (h : Near w q b xs W) : Near w q b xs W.drew := near_step h ⟨rfl, rfl, rfl, Nat.le_refl _, fun _ _ => rfl⟩
theorem near_keys {w W : World} {q b : Nat} {xs : List UInt8} (hK : Keys w) (h : Near w q b xs W) : Keys W := keys_below h.2 hK
theorem near_lt {w W : World} {q b : Nat} {xs : List UInt8} (h : Near w q b xs W) : b < W.heap.size := (h.1.lt b rfl).2
theorem near_setCell {w W : World} {q b : Nat} {xs : List UInt8} (h : Near w q b xs W) {r : Nat} (hr : b < r) (hw : w.heap.size ≤ b) (o : Nat) (v : Value) : Near w q b xs (W.setCell ⟨r, o, none⟩ v) :=
  ⟨own_move h.1 (fun k hk => by injection hk with hk; subst hk; exact heap_setCell_other _ _ _ _ (by simp; omega)), h.2.setCell (by simp; omega) v⟩
theorem near_own {w W : World} {q b : Nat} {xs : List UInt8} (h : Near w q b xs W) : W.ownsRow b 5 1 (.slice (some ⟨b, 0, none⟩) (128 * q) (128 * q)) (128 * q) (Lib.byteCells xs) := h.1
theorem near_mk {w W : World} {q b : Nat} {xs : List UInt8} (h : W.ownsRow b 5 1 (.slice (some ⟨b, 0, none⟩) (128 * q) (128 * q)) (128 * q) (Lib.byteCells xs)) (hb : Below w.heap.size w W) : Near w q b xs W := ⟨h, hb⟩
theorem near_below {w W : World} {q b : Nat} {xs : List UInt8} (h : Near w q b xs W) : Below w.heap.size w W := h.2
theorem row_after {X W' : World} {o : Obj} (hb : Below (X.alloc o).heap.size (X.alloc o) W') : W'.heap[X.heap.size]? = some o := (hb.block _ (by simp)).trans (heap_alloc_new _ _)
theorem row_after2 {X W' : World} {o : Obj} (hb : Below (X.alloc o).drew.heap.size (X.alloc o).drew W') : W'.heap[X.heap.size]? = some o := (hb.block _ (by simp)).trans (heap_alloc_new _ _)
theorem row_after3 {X W' : World} {o : Obj} (hb : Below (X.drew.alloc o).heap.size (X.drew.alloc o) W') : W'.heap[X.heap.size]? = some o := (hb.block _ (by simp)).trans (heap_alloc_new _ _)
theorem row_keep {W W' : World} {g : Nat} {o : Obj} (h : W.heap[g]? = some o) (hb : Below W.heap.size W W') : W'.heap[g]? = some o := by
  rcases Nat.lt_or_ge g W.heap.size with h' | h'
  · exact (hb.block g h').trans h
  · simp [Array.getElem?_eq_none h'] at h
theorem row20 {w : World} {r : Nat} {t : TypeId} {y0 y1 y2 y3 y4 y5 y6 y7 y8 y9 : Value} (h : w.heap[r]? = some (.cells #[y0, y1, y2, y3, y4, y5, y6, y7, y8, y9] t)) :
    w.cell? ⟨r, 0, none⟩ = some y0 ∧ w.cell? ⟨r, 1, none⟩ = some y1 ∧ w.cell? ⟨r, 2, none⟩ = some y2 ∧ w.cell? ⟨r, 3, none⟩ = some y3 ∧ w.cell? ⟨r, 4, none⟩ = some y4 ∧ w.cell? ⟨r, 5, none⟩ = some y5 ∧ w.cell? ⟨r, 6, none⟩ = some y6 ∧ w.cell? ⟨r, 7, none⟩ = some y7 ∧ w.cell? ⟨r, 8, none⟩ = some y8 ∧ w.cell? ⟨r, 9, none⟩ = some y9 ∧ w.frozen? ⟨r, 0, none⟩ = false ∧ w.frozen? ⟨r, 1, none⟩ = false ∧ w.frozen? ⟨r, 2, none⟩ = false ∧ w.frozen? ⟨r, 3, none⟩ = false ∧ w.frozen? ⟨r, 4, none⟩ = false ∧ w.frozen? ⟨r, 5, none⟩ = false ∧ w.frozen? ⟨r, 6, none⟩ = false ∧ w.frozen? ⟨r, 7, none⟩ = false ∧ w.frozen? ⟨r, 8, none⟩ = false ∧ w.frozen? ⟨r, 9, none⟩ = false :=
  ⟨cell_of_row _ _ _ _ _ _ h, cell_of_row _ _ _ _ _ _ h, cell_of_row _ _ _ _ _ _ h, cell_of_row _ _ _ _ _ _ h, cell_of_row _ _ _ _ _ _ h, cell_of_row _ _ _ _ _ _ h, cell_of_row _ _ _ _ _ _ h, cell_of_row _ _ _ _ _ _ h, cell_of_row _ _ _ _ _ _ h, cell_of_row _ _ _ _ _ _ h, frozen_of_row _ _ _ _ _ h, frozen_of_row _ _ _ _ _ h, frozen_of_row _ _ _ _ _ h, frozen_of_row _ _ _ _ _ h, frozen_of_row _ _ _ _ _ h, frozen_of_row _ _ _ _ _ h, frozen_of_row _ _ _ _ _ h, frozen_of_row _ _ _ _ _ h, frozen_of_row _ _ _ _ _ h, frozen_of_row _ _ _ _ _ h⟩
theorem set10_row (w : World) (r : Nat) (ty : TypeId) {y0 y1 y2 y3 y4 y5 y6 y7 y8 y9 : Value} (hV : w.heap[r]? = some (.cells #[y0, y1, y2, y3, y4, y5, y6, y7, y8, y9] ty)) (z0 z1 z2 z3 z4 z5 z6 z7 z8 z9 : Value) :
    ((((((((((w.setCell ⟨r, 0, none⟩ z0).setCell ⟨r, 1, none⟩ z1).setCell ⟨r, 2, none⟩ z2).setCell ⟨r, 3, none⟩ z3).setCell ⟨r, 4, none⟩ z4).setCell ⟨r, 5, none⟩ z5).setCell ⟨r, 6, none⟩ z6).setCell ⟨r, 7, none⟩ z7).setCell ⟨r, 8, none⟩ z8).setCell ⟨r, 9, none⟩ z9).heap[r]? = some (.cells #[z0, z1, z2, z3, z4, z5, z6, z7, z8, z9] ty) := by
  have h0 := set1 (i := 0) (z := z0) (D := #[z0, y1, y2, y3, y4, y5, y6, y7, y8, y9]) hV (by simp)
  have h1 := set1 (i := 1) (z := z1) (D := #[z0, z1, y2, y3, y4, y5, y6, y7, y8, y9]) h0 (by simp)
  have h2 := set1 (i := 2) (z := z2) (D := #[z0, z1, z2, y3, y4, y5, y6, y7, y8, y9]) h1 (by simp)
  have h3 := set1 (i := 3) (z := z3) (D := #[z0, z1, z2, z3, y4, y5, y6, y7, y8, y9]) h2 (by simp)
  have h4 := set1 (i := 4) (z := z4) (D := #[z0, z1, z2, z3, z4, y5, y6, y7, y8, y9]) h3 (by simp)
  have h5 := set1 (i := 5) (z := z5) (D := #[z0, z1, z2, z3, z4, z5, y6, y7, y8, y9]) h4 (by simp)
  have h6 := set1 (i := 6) (z := z6) (D := #[z0, z1, z2, z3, z4, z5, z6, y7, y8, y9]) h5 (by simp)
  have h7 := set1 (i := 7) (z := z7) (D := #[z0, z1, z2, z3, z4, z5, z6, z7, y8, y9]) h6 (by simp)
  have h8 := set1 (i := 8) (z := z8) (D := #[z0, z1, z2, z3, z4, z5, z6, z7, z8, y9]) h7 (by simp)
  exact set1 (i := 9) (z := z9) (D := #[z0, z1, z2, z3, z4, z5, z6, z7, z8, z9]) h8 (by simp)
theorem eq_step (w : World) (xs : Array Value) (j : Nat) (is : List Nat) (v : Int) (h : xs[j]? = some (.int .u64 v)) :
    (Op.eqItems 9999 25 1 xs xs (j :: is)).run Tryd.prog w = (Op.eqItems 9999 25 1 xs xs is).run Tryd.prog w := by
  have hp : (part 25 xs (j * 1)).run Tryd.prog w = .ok (.int .u64 v) w := by
    have ha : (isAgg 25).run Tryd.prog w = .ok false w := by kernel_rfl
    unfold part
    simp [Sem.run_bind, ha, h]
  have he : (Op.equalIn 9999 25 (.int .u64 v) (.int .u64 v)).run Tryd.prog w = .ok (v == v) w := run_equalIn_int (P := Tryd.prog) (w := w) 9998 25 .u64 .u64 v v Tryd.underlying25
  rw [Nat.mul_one] at hp
  simp [Op.eqItems, Sem.run_bind, hp, he]
theorem eq8 (w : World) (v0 v1 v2 v3 v4 v5 v6 v7 : Int) : (Op.equalIn 10000 26 (.agg #[.int .u64 v0, .int .u64 v1, .int .u64 v2, .int .u64 v3, .int .u64 v4, .int .u64 v5, .int .u64 v6, .int .u64 v7]) (.agg #[.int .u64 v0, .int .u64 v1, .int .u64 v2, .int .u64 v3, .int .u64 v4, .int .u64 v5, .int .u64 v6, .int .u64 v7])).run Tryd.prog w = .ok true w := by
  have hu26 : Tryd.prog.underlying 26 = some (.array 8 25) := by kernel_rfl
  obtain ⟨i, hi⟩ : ∃ i, Tryd.prog.info? 25 = some i := ⟨_, rfl⟩
  have hc : Tryd.prog.cellsOf 25 = 1 := by kernel_rfl
  rw [run_equalIn_array w 9999 _ _ hu26 hi, hc, show List.range 8 = [0, 1, 2, 3, 4, 5, 6, 7] from rfl,
    eq_step w _ 0 _ v0 rfl, eq_step w _ 1 _ v1 rfl, eq_step w _ 2 _ v2 rfl, eq_step w _ 3 _ v3 rfl, eq_step w _ 4 _ v4 rfl, eq_step w _ 5 _ v5 rfl, eq_step w _ 6 _ v6 rfl, eq_step w _ 7 _ v7 rfl]
  simp [Op.eqItems]
theorem byteCells_set (xs : List UInt8) (t : Nat) (c : UInt8) : (Lib.byteCells xs).set t (.int .u8 (c.toNat : Int)) = Lib.byteCells (xs.set t c) := by
  simp [Lib.byteCells, List.map_set]
attribute [local irreducible] Sh.sched Sh.rr Sh.ad Sh.sg0 Sh.sg1 S.num Sh.kw Sh.t1 Sh.t2 Sh.nt Sh.comp Sh.blocks Sh.take Sh.tail Sh.fin Sh.h0 Sh.sum
attribute [local irreducible] Near TailIn
set_option maxHeartbeats 4000000 in
set_option maxRecDepth 100000 in
theorem blocks_walk (nb : Int) (fl : Nat) (r0 : ByteArray) (w : World) (hK : Keys w) (hnb : -9223372036854775808 ≤ nb ∧ nb ≤ 9223372036854775807) (hfl : fl < 256) (hr0 : r0.size < 9223372036854775807) :
    Calls Tryd.prog 4 #[.int .i64 nb, .int .u8 fl, .string r0] w fun e w' => e = .returned (.bool true) ∧ Below w.heap.size w w' := by
  have hKH := Lib.hid hK
  clear hK
  go_enter Tryd.func4, Tryd.ntmps4
  go_wp2_with fail
  go_quiet (fail)
  obtain ⟨q, hq, hq5⟩ : ∃ q : Nat, (if 5 < (if nb < 0 then 0 else nb) then 5 else (if nb < 0 then 0 else nb)) = (q : Int) ∧ q ≤ 5 := by
    by_cases h1 : nb < 0
    · exact ⟨0, by simp [h1], by omega⟩
    · by_cases h2 : 5 < nb
      · exact ⟨5, by simp [h1, h2], by omega⟩
      · exact ⟨nb.toNat, by simp [h1, h2]; omega, by omega⟩
  obtain ⟨k, hk, hk1, hk2⟩ : ∃ k : Nat, (if (127 : Int) < (r0.size : Int) then (127 : Int) else (r0.size : Int)) = (k : Int) ∧ k ≤ r0.size ∧ k ≤ 127 := by
    split
    · exact ⟨127, rfl, by omega, by omega⟩
    · exact ⟨r0.size, rfl, by omega, by omega⟩
  rw [hq, hk, Int.toNat_natCast]
  clear hq hk
  generalize (if nb < 0 then 0 else nb) = nb0 at *
  have hrs : (r0.extract 0 k).size ≤ 127 := by rw [ByteArray.size_extract]; omega
  generalize r0.extract 0 k = r at *
  obtain ⟨i0, hi, hzz0, hzz1, hzz2⟩ := info_parts _root_.Go.Proofs.YtjlmhndfpfgfkaaDoor.B.infoByte
  have hb0 := drewN_below (Below.refl w.heap.size w) nq
  generalize w.drewN nq = w0 at *
  go_wp2_with (refine wpList_make_full _ rfl _ _ 34 rfl w0.heap.size 5 i0 (.int .u8 0) 1 Tryd.underlying34 hi hzz0 hzz1 .i64 .i64 _ _ (128 * q) rfl rfl (by omega) (by omega) (by rw [hzz2]; omega) (by unfold maxLen; omega) (Nat.le_refl _) ?_)
  intro w1 hown hgrow
  rw [toList_madeCells_one] at hown
  have hb1 := Lib.hid (hb0.grown hgrow hb0.size (fun k hk => by cases hk))
  have HW : Hid (w1.ownsRow w0.heap.size 5 1 (.slice (some ⟨w0.heap.size, 0, none⟩) (128 * q) (128 * q)) (128 * q) (Lib.byteCells (List.replicate (128 * q) 0))) := by
    rw [show Lib.byteCells (List.replicate (128 * q) 0) = List.replicate (128 * q) (Value.int .u8 0) from by simp [Lib.byteCells]]
    exact Lib.hid hown
  have hs0 := hb0.size
  clear hown hgrow hb0
  go_wp2_with fail
  go_loopw [26] (fun i wr => ∃ (t : Nat) (xs : List UInt8), t ≤ 128 * q ∧ i = .int .i64 t ∧ xs.length = 128 * q ∧ Hid (wr.ownsRow w0.heap.size 5 1 (.slice (some ⟨w0.heap.size, 0, none⟩) (128 * q) (128 * q)) (128 * q) (Lib.byteCells xs)) ∧ Hid (Below w.heap.size w wr)) (fun i _ => 128 * q - (intOf i).toNat)
  case atStart => exact ⟨0, _, Nat.zero_le _, rfl, List.length_replicate, HW, hb1⟩
  case round =>
    obtain ⟨t, xs, ht, rfl, hxl, hO, hb⟩ := hrel
    by_cases hlt : t < 128 * q
    · obtain ⟨v0, hc⟩ : ∃ v0, wr.cell? ⟨w0.heap.size, t, none⟩ = some v0 := by
        rw [hO.out.cellAt t (by omega)]
        exact ⟨_, List.getElem?_eq_getElem (by simp [Lib.byteCells]; omega)⟩
      have hz := hO.out.frozenAt t
      go_wp2_with fail
      have hv : ((fl : Int) + (t : Int)) % 256 = ((UInt8.ofNat ((fl + t) % 256)).toNat : Int) := by
        rw [UInt8.toNat_ofNat']; omega
      rw [hv]
      have hsto := (hO.out.stored t (.int .u8 ((UInt8.ofNat ((fl + t) % 256)).toNat : Int))).1
      rw [byteCells_set] at hsto
      go_roundw
      case rel => exact ⟨t + 1, xs.set t (UInt8.ofNat ((fl + t) % 256)), by omega, by go_num, by rw [List.length_set, hxl], Lib.hid hsto, Lib.hid (hb.out.setCell hs0 _)⟩
      case measure => simp [intOf]; omega
    · have hcv : ∀ W, Near w q w0.heap.size xs W → (convert 34 9 (.slice (some ⟨w0.heap.size, 0, none⟩) (128 * q) (128 * q))).run Tryd.prog W = .ok (.string (mkB xs)) W := by
        intro W hW
        have hO3 : W.ownsRow w0.heap.size 5 1 (.slice (some ⟨w0.heap.size, 0, none⟩) (128 * q) (128 * q)) (xs.map fun c => (c.toNat : Int)).length (nums .u8 (xs.map fun c => (c.toNat : Int))) := by
          rw [nums_bytes, List.length_map, hxl]; exact near_own hW
        have := own_string (P := Tryd.prog) (src := 34) (dst := 9) (e := 5) Tryd.underlying34 Tryd.underlying5 Tryd.underlying9 hO3
        rw [this, strOfNums_bytes]
      have hN := fun W => new_c W
      have hWr1 := fun W hKW => Write_ok Sh.h0 ⟨#[]⟩ 0 (mkB xs) h0_len h0_lt (by decide) (by rw [S.mkB_size]; omega) (by rw [S.mkB_size]; omega) W hKW
      rw [show (⟨#[]⟩ : ByteArray).data.toList = [] from rfl, show (mkB xs).data.toList = xs from by simp [mkB], S.mkB_size, hxl, Nat.zero_add] at hWr1
      have hrl := Sh.take_rest_length Sh.h0 [] xs
      rw [hxl, List.length_nil, Nat.zero_add, Nat.mul_mod_right] at hrl
      rw [List.length_eq_zero_iff.1 hrl] at hWr1
      obtain ⟨hl1, hx1⟩ := take_ok xs
      have hWr2 := fun W hKW => Write_ok (Sh.take Sh.h0 [] xs).1 (mkB []) (128 * q) r hl1 hx1 (by simp [rightB, S.mkB_size]; omega) (by omega) (by omega) W hKW
      clear hrl
      generalize (Sh.take Sh.h0 [] xs).1 = H1 at *
      have htk : Sh.take H1 (mkB []).data.toList r.data.toList = (H1, r.data.toList) := by
        unfold Sh.take
        rw [show (mkB []).data.toList = [] from rfl, List.nil_append]
        exact Sh.blocks_done _ _ _ (by simp; omega)
      rw [htk, S.mkB_data] at hWr2
      obtain ⟨a, b, c, d, e, f, g, i, h0e⟩ := eight Sh.h0 h0_len
      obtain ⟨a1, b1, c1, d1, e1, f1, g1, i1, rfl⟩ := eight H1 hl1
      rw [h0e] at hN hWr1
      rw [show (mkB [] : ByteArray) = ⟨#[]⟩ from rfl] at hWr1 hWr2
      simp only [cells_lit] at hN hWr1 hWr2
      clear h0e htk hl1 hx1
      have HN := Lib.hid hN
      have HW1 := Lib.hid hWr1
      have HW2 := Lib.hid hWr2
      clear hN hWr1 hWr2
      have hz28 : ∀ W, (zeroValue 28).run Tryd.prog W = .ok (.agg #[.int .u64 0, .int .u64 0, .int .u64 0, .int .u64 0, .int .u64 0, .int .u64 0, .int .u64 0, .int .u64 0, .string ⟨#[]⟩, .int .u64 0]) W := fun W => by kernel_rfl
      go_upto_region 8 with fail
      go_cut [9, 10] (fun v9 v10 wx => ∃ B9 : Nat, v9 = .pointer (some ⟨B9, 0, none⟩) ∧ v10 = .int .i64 0 ∧ w.heap.size ≤ B9 ∧ Hid (Below w.heap.size w wx) ∧ wx.heap[B9]? = some (.cells #[.int .u64 (a1 : Nat), .int .u64 (b1 : Nat), .int .u64 (c1 : Nat), .int .u64 (d1 : Nat), .int .u64 (e1 : Nat), .int .u64 (f1 : Nat), .int .u64 (g1 : Nat), .int .u64 (i1 : Nat), .string ⟨#[]⟩, .int .u64 ((128 * q : Nat) : Int)] 28))
      case first =>
        have hT00 : Near w q w0.heap.size xs wr := near_mk hO.out hb.out
        have hT1 : Near w q w0.heap.size xs wr.drew := near_drew hT00
        have hlt0 := near_lt hT1
        simp only [heap_drew] at hlt0
        go_region_held3 (fun W => Near w q w0.heap.size xs W) (first | with_reducible assumption | (with_reducible refine near_alloc ?_ _; with_reducible assumption) | (with_reducible exact near_drew (near_alloc hT00 _)) | ((repeat (with_reducible refine near_setCell ?_ ?_ hs0 _ _)); with_reducible assumption; all_goals omega))
          (first
            | (go_at_call 10
               refine (HN.out _).mono ?_
               rintro e w' ⟨rfl, hb⟩
               try with_reducible (first | have hk := row_after3 hb | have hk := row_after2 hb | have hk := row_after hb)
               have hT2 := near_step (by first | with_reducible assumption | (with_reducible refine near_alloc ?_ _; with_reducible assumption)) hb)
            | (go_at_call 17
               refine (HW1.out _ ?_).mono ?_
               · refine near_keys (hK := hKH.out) (q := q) (b := w0.heap.size) (xs := xs) ?_
                 first | with_reducible assumption | (with_reducible refine near_alloc ?_ _; with_reducible assumption)
               rintro e w' ⟨rfl, hb⟩
               have hT3 := near_step (by first | with_reducible assumption | (with_reducible refine near_alloc ?_ _; with_reducible assumption)) hb
               have hlt1 := near_lt hT2
               have hsz3 := (near_below hT3).size
               try
                 with_reducible (first | have hk2 := row_keep hk hb | have hk2 := row_after3 hb | have hk2 := row_after2 hb | have hk2 := row_after hb)
                 obtain ⟨k0, k1, k2, k3, k4, k5, k6, k7, k8, k9, k10, k11, k12, k13, k14, k15, k16, k17, k18, k19⟩ := row20 hk2))
        all_goals (go_wp2_with fail; go_meet)
        all_goals
          refine ⟨_, rfl, rfl, ?_, Lib.hid (near_below (q := q) (b := w0.heap.size) (xs := xs) ?_), ?_⟩
          rotate_left 1
          with_reducible assumption
          rotate_left 1
        all_goals first
          | (rw [show ((128 * q : Nat) : Int) = 128 * (q : Int) from by omega]; with_reducible (first | exact heap_alloc_new _ _ | exact set10_row _ _ _ hk2 _ _ _ _ _ _ _ _ _ _))
          | omega
      case rest =>
        obtain ⟨B9, rfl, rfl, hB9, hbc, hrow9⟩ := hcut
        have hKc := Lib.hid (keys_below hbc.out hKH.out)
        obtain ⟨k0, k1, k2, k3, k4, k5, k6, k7, k8, k9⟩ := row10 hrow9
        have hall : (#[.int .u64 (a1 : Nat), .int .u64 (b1 : Nat), .int .u64 (c1 : Nat), .int .u64 (d1 : Nat), .int .u64 (e1 : Nat), .int .u64 (f1 : Nat), .int .u64 (g1 : Nat), .int .u64 (i1 : Nat), .string r, .int .u64 ((128 * q + r.size : Nat) : Int)] : Array Value).all (·.oneCell') = true := by simp [Value.oneCell']
        clear hcv hO
        go_wp2_with (go_at_call 17; refine (HW2.out _ hKc.out).mono ?_; rintro e w2 ⟨rfl, hb2⟩)
        have hbA := (Below.refl w2.heap.size w2).alloc (Nat.le_refl _) (.cells #[.int .u64 (a1 : Nat), .int .u64 (b1 : Nat), .int .u64 (c1 : Nat), .int .u64 (d1 : Nat), .int .u64 (e1 : Nat), .int .u64 (f1 : Nat), .int .u64 (g1 : Nat), .int .u64 (i1 : Nat), .string r, .int .u64 (128 * (q : Int) + (r.size : Int))] 28)
        have hbB := below_step (below_step hbc.out hb2) hbA
        refine (alive_c _ (keys_below hbB hKH.out)).mono ?_
        rintro e w3 ⟨rfl, hb3⟩
        have hrX := row_keep (row_keep (row_keep hrow9 hb2) hbA) hb3
        have hrY := row_after hb3
        have hbE := Lib.hid (below_step hbB hb3)
        clear k0 k1 k2 k3 k4 k5 k6 k7 k8 k9 hbA hbB hb3 hb2 hrow9
        obtain ⟨k0, k1, k2, k3, k4, k5, k6, k7, k8, k9⟩ := row10 hrX
        obtain ⟨j0, j1, j2, j3, j4, j5, j6, j7, j8, j9⟩ := row10 hrY
        clear hrX hrY hall
        have hEQ := fun W => eq8 W a1 b1 c1 d1 e1 f1 g1 i1
        go_wp2_with fail
        go_ret
        exact ⟨rfl, hbE.out⟩
end Go.Proofs.YtjlmhndfpfgfkaaDoor.E
