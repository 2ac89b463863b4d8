import Derived.Test.YtjlmhndfpfgfkaaDoorT4
set_option linter.unusedVariables false
set_option linter.unusedSimpArgs false
namespace Go.Proofs.YtjlmhndfpfgfkaaDoor.E
open Go.RowKit Go.Proofs.YtjlmhndfpfgfkaaDoorW.PrintWords Go.Proofs.YtjlmhndfpfgfkaaDoorW.PrintLast Go.Proofs.YtjlmhndfpfgfkaaDoorW.PrintMore
attribute [local go_sem] max2_int min2_int max_two min_two
open S (mkB be num)
theorem nums_bytes (l : List UInt8) : nums .u8 (l.map fun c => (c.toNat : Int)) = Lib.byteCells l := by simp [nums, Lib.byteCells, Function.comp_def]
theorem strOfNums_bytes (l : List UInt8) : strOfNums (l.map fun c => (c.toNat : Int)) = mkB l := by simp [strOfNums, mkB, Function.comp_def]
theorem byteCells_snoc1 (l : List UInt8) (x : UInt8) : Lib.byteCells l ++ [Value.int .u8 (x.toNat : Int)] = Lib.byteCells (l ++ [x]) := by
  simp [Lib.byteCells]
theorem tail_step (z n k : Nat) (h : k < 8) : (Value.int .u8 128 :: (List.replicate (z + 16 - k) (Value.int .u8 0) ++ Lib.byteCells (be k n))).set (z + 16 - k) (.int .u8 ((n / 256 ^ k % 256 : Nat) : Int)) =
    Value.int .u8 128 :: (List.replicate (z + 16 - (k + 1)) (Value.int .u8 0) ++ Lib.byteCells (be (k + 1) n)) := by
  rw [show z + 16 - k = (z + 16 - (k + 1)) + 1 from by omega, List.set_cons_succ, S.be_top, List.replicate_succ', List.append_assoc, List.set_append, if_neg (by simp)]
  rw [show z + 16 - (k + 1) - (List.replicate (z + 16 - (k + 1)) (Value.int .u8 0)).length = 0 from by simp]
  simp [Lib.byteCells]
theorem tail_cells (n m : Nat) (z : Nat) (hz : z = (239 - m) % 128) : Value.int .u8 128 :: (List.replicate (z + 16 - 8) (Value.int .u8 0) ++ Lib.byteCells (be 8 ((8 * n) % 18446744073709551616))) = Lib.byteCells (Sh.tail n m) := by
  subst hz
  simp [Sh.tail, Lib.byteCells]
theorem tail_length (n m : Nat) : (Sh.tail n m).length = (239 - m) % 128 + 17 := by simp [Sh.tail, S.be_length]
theorem be_mod_any (k n : Nat) : be k (n % 256 ^ k) = be k n := by
  induction k generalizing n with
  | zero => rfl
  | succ k ih =>
    rw [be, be, Nat.pow_succ, Nat.mul_comm, Nat.mod_mul_right_div_self, ih, Nat.mod_mod_of_dvd _ (Nat.dvd_mul_right 256 _)]
theorem be_mod (n : Nat) : be 8 (n % 18446744073709551616) = be 8 n := by
  have := be_mod_any 8 n
  rw [show (256 : Nat) ^ 8 = 18446744073709551616 from by decide] at this
  exact this
theorem be_get (k n j : Nat) (h : j < k) : (be k n)[j]? = some (UInt8.ofNat (n / 256 ^ (k - 1 - j) % 256)) := by
  induction k generalizing j with
  | zero => omega
  | succ k ih =>
    rw [S.be_top]
    cases j with
    | zero => rfl
    | succ j => rw [List.getElem?_cons_succ, ih j (by omega), show k + 1 - 1 - (j + 1) = k - 1 - j from by omega]
theorem be_take (n j : Nat) (h : j < 8) : (be 8 n).take (j + 1) = (be 8 n).take j ++ [UInt8.ofNat (n / 256 ^ (7 - j) % 256)] := by
  rw [List.take_add_one, be_get 8 n j h]; rfl
theorem bytes_take (H : List Nat) (i : Nat) (h : i < H.length) : Sh.bytes (H.take (i + 1)) = Sh.bytes (H.take i) ++ be 8 (H.getD i 0) := by
  unfold Sh.bytes
  rw [List.take_succ_eq_append_getElem h, List.flatMap_append]
  simp [List.getD_eq_getElem?_getD, h]
theorem bytes_length (H : List Nat) : (Sh.bytes H).length = 8 * H.length := by
  unfold Sh.bytes
  rw [List.length_flatMap]
  have : List.map (fun a => (be 8 a).length) H = List.replicate H.length 8 := by
    apply List.ext_getElem
    · simp
    · intro i h1 h2; simp [S.be_length]
  rw [this]; simp; omega
attribute [local irreducible] Sh.sched Sh.rr Sh.ad Sh.sg0 Sh.sg1 S.num Sh.kw Sh.t1 Sh.t2 Sh.nt Sh.comp Sh.blocks Sh.take Sh.tail
set_option maxHeartbeats 4000000 in
set_option maxRecDepth 100000 in
theorem end_any (B : Nat) (H : List Nat) (buf : ByteArray) (n : Nat) (w : World) (hl : H.length = 8) (hx : ∀ x ∈ H, x < 18446744073709551616)
    (hn : n < 2199023255552) (hsz : buf.size < 128) (hB : 0 < B) (hBw : B < w.heap.size) (hK : Keys w) (hw : w.heap[B]? = some (.cells (sumCells H buf n).toArray 51)) :
    Calls Tryd.prog 25 #[.pointer (some ⟨B, 0, none⟩)] w fun e w' => e = .returned (.string (mkB (Sh.fin H buf.data.toList n))) ∧ w.grownBy w' (some B) := by
  have c8 : w.cell? ⟨B, 8, none⟩ = some (.string buf) := (cell_of_row _ _ _ _ _ _ hw).trans (sumCells_8 _ _ _ hl)
  have c9 : w.cell? ⟨B, 9, none⟩ = some (.int .u64 (n : Nat)) := (cell_of_row _ _ _ _ _ _ hw).trans (sumCells_9 _ _ _ hl)
  have hKH := Lib.hid hK
  have hWH := Lib.hid hw
  clear hK hw
  obtain ⟨z, hz⟩ : ∃ z, z = (239 - buf.size) % 128 := ⟨_, rfl⟩
  have hz1 : z < 128 := by omega
  have hz' : (239 - (buf.size : Int)) % 128 = (z : Int) := by omega
  have HZ := Lib.hid hz
  have HZ' := Lib.hid hz'
  clear hz hz'
  obtain ⟨i0, hi, hzz0, hzz1, hzz2⟩ := info_parts _root_.Go.Proofs.YtjlmhndfpfgfkaaDoor.B.infoByte
  go_enter Tryd.func25, Tryd.ntmps25
  have hn8 : (n : Int) * 8 = ((8 * n : Nat) : Int) := by omega
  have hn9 : 8 * n < 17592186044416 := by omega
  have HN8 := Lib.hid hn8
  clear hn8
  obtain ⟨n8, hn10⟩ : ∃ n8, n8 = 8 * n := ⟨_, rfl⟩
  rw [← hn10] at hn9
  have HN10 := Lib.hid hn10
  clear hn10
  go_wp2_with (rw [HN8.out, ← HN10.out, HZ'.out]; refine wpList_make_full _ rfl _ _ 34 rfl w.heap.size 5 i0 (.int .u8 0) 1 Tryd.underlying34 hi hzz0 hzz1 .i64 .i64 _ _ (z + 17) rfl rfl (by omega) (by omega) (by rw [hzz2]; omega) (by unfold maxLen; omega) (Nat.le_refl _) ?_)
  intro w1 hown hgrow
  rw [toList_madeCells_one] at hown
  have hb1 : Below w.heap.size w w1 := (Below.refl _ _).grown hgrow (Nat.le_refl _) (fun k hk => by cases hk)
  have hown0 := hown
  have hst := (hown.stored 0 (.int .u8 128)).1
  have HST := Lib.hid hst
  have HW := Lib.hid hown
  have hc0 : w1.cell? ⟨w.heap.size, 0, none⟩ = some (.int .u8 0) := by
    rw [hown.cellAt 0 (by omega)]; simp
  have hf0 := hown.frozenAt 0
  clear hown hown0 hst hgrow
  have HB1 := Lib.hid hb1
  clear hb1
  go_wp2_with fail
  go_loopw [31] (fun i wr => ∃ k : Nat, k ≤ 8 ∧ i = .int .i64 k ∧ Hid (wr.ownsRow w.heap.size 5 1 (.slice (some ⟨w.heap.size, 0, none⟩) (z + 17) (z + 17)) (z + 17) (Value.int .u8 128 :: (List.replicate (z + 16 - k) (Value.int .u8 0) ++ Lib.byteCells (be k n8)))) ∧ Hid (Below w.heap.size w wr)) (fun i _ => 8 - (intOf i).toNat)
  case atStart =>
    refine ⟨0, by omega, rfl, Lib.hid ?_, Lib.hid (HB1.out.setCell (Nat.le_refl _) _)⟩
    have := HST.out
    rw [show z + 17 = (z + 16) + 1 from rfl, List.replicate_succ, List.set_cons_zero] at this
    simpa [be, Lib.byteCells] using this
  case round =>
    obtain ⟨k, hk, rfl, hO, hb⟩ := hrel
    by_cases hlt : k < 8
    · obtain ⟨v0, hc⟩ : ∃ v0, wr.cell? ⟨w.heap.size, z + 16 - k, none⟩ = some v0 := by
        rw [hO.out.cellAt (z + 16 - k) (by omega)]
        exact ⟨_, List.getElem?_eq_getElem (by simp [Lib.byteCells, S.be_length]; omega)⟩
      have hz := hO.out.frozenAt (z + 16 - k)
      have hsto := (hO.out.stored (z + 16 - k) (.int .u8 ((n8 / 256 ^ k % 256 : Nat) : Int))).1
      rw [tail_step z n8 k hlt] at hsto
      have HS := Lib.hid hsto
      clear hsto
      have e : (n8 : Int) / 2 ^ (8 * k) % 256 = ((n8 / 256 ^ k % 256 : Nat) : Int) := by
        have e2 : (2 : Nat) ^ (8 * k) = 256 ^ k := by rw [Nat.pow_mul]
        rw [← e2]; simp
      have HE := Lib.hid e
      clear e
      go_wp2_with fail
      rw [HE.out]
      go_roundw
      case rel => exact ⟨k + 1, by omega, by go_num, HS, Lib.hid (hb.out.setCell (Nat.le_refl _) _)⟩
      case measure => simp [intOf]; omega
    · obtain rfl : k = 8 := by omega
      have hgr : w.grownBy wr (some B) := grown_of_below hb.out _
      have hrow : wr.heap[B]? = some (.cells (sumCells H buf n).toArray 51) := (hb.out.block B hBw).trans hWH.out
      have hO2 : wr.ownsRow w.heap.size 5 1 (.slice (some ⟨w.heap.size, 0, none⟩) (z + 17) (z + 17)) (z + 17) (Lib.byteCells (Sh.tail n buf.size)) := by
        have h := hO.out
        have e8 : be 8 n8 = be 8 ((8 * n) % 18446744073709551616) := by rw [HN10.out]; exact (be_mod _).symm
        rw [e8, tail_cells n buf.size z HZ.out] at h
        exact h
      have hlen : (Sh.tail n buf.size).length = z + 17 := by rw [tail_length, HZ.out]
      have hcv : (convert 34 9 (.slice (some ⟨w.heap.size, 0, none⟩) (z + 17) (z + 17))).run Tryd.prog wr = .ok (.string (mkB (Sh.tail n buf.size))) wr := by
        have hO3 : wr.ownsRow w.heap.size 5 1 (.slice (some ⟨w.heap.size, 0, none⟩) (z + 17) (z + 17)) ((Sh.tail n buf.size).map fun c => (c.toNat : Int)).length (nums .u8 ((Sh.tail n buf.size).map fun c => (c.toNat : Int))) := by
          rw [nums_bytes, List.length_map, hlen]; exact hO2
        have := own_string (P := Tryd.prog) (src := 34) (dst := 9) (e := 5) Tryd.underlying34 Tryd.underlying5 Tryd.underlying9 hO3
        rw [this, strOfNums_bytes]
      clear hO2 hO
      go_wp2_with fail
      have hKr := Lib.hid (keys_grown hgr hB hKH.out)
      have hBr : B < wr.heap.size := Nat.lt_of_lt_of_le hBw hgr.size
      have hms : (mkB (Sh.tail n buf.size)).size = z + 17 := by rw [S.mkB_size, hlen]
      refine (take_any B H buf n (mkB (Sh.tail n buf.size)) wr hl hx (by omega) (by omega) hB hBr hKr.out hrow).mono ?_
      rintro e w2 ⟨rfl, hrow2, hg2⟩
      rw [show (mkB (Sh.tail n buf.size)).data.toList = Sh.tail n buf.size from by simp [mkB]] at hrow2
      obtain ⟨hl2, hx2⟩ := Sh.blocks_ok (buf.data.toList.length + (Sh.tail n buf.size).length) H (buf.data.toList ++ Sh.tail n buf.size) hl hx
      rw [show Sh.blocks (buf.data.toList.length + (Sh.tail n buf.size).length) H (buf.data.toList ++ Sh.tail n buf.size) = Sh.take H buf.data.toList (Sh.tail n buf.size) from by unfold Sh.take; rfl] at hl2 hx2
      have hfin : Sh.fin H buf.data.toList n = Sh.bytes (Sh.take H buf.data.toList (Sh.tail n buf.size)).1 := by unfold Sh.fin; simp
      have HF := Lib.hid hfin
      have hgrow2 := Lib.hid (hgr.trans hg2)
      generalize (Sh.take H buf.data.toList (Sh.tail n buf.size)).1 = HH at *
      have hrg : w2.rangeAt B 0 (wv HH) := by
        intro j v hv
        rw [cell_of_row _ _ _ _ _ _ hrow2]
        simp only [Nat.zero_add, sumCells, List.getElem?_toArray]
        rw [List.getElem?_append_left (by have := (List.getElem?_eq_some_iff.1 hv).1; exact this)]
        exact hv
      have hrg2 : ∀ o, (w2.alloc o).rangeAt B 0 (wv HH) := fun o j v hv => by
        rw [World.cell?_of_block (w := w2) (heap_alloc_old _ _ (Nat.lt_of_lt_of_le hBw hgrow2.out.size))]; exact hrg j v hv
      have hi26 : (Tryd.prog.info? 26).map (·.size) = some (wv HH).length := by rw [show (wv HH).length = 8 from by simp [wv, hl2]]; kernel_rfl
      have hu26 : Tryd.prog.underlying 26 = some (.array 8 25) := by kernel_rfl
      have hHi := Lib.hid hi26
      have hHu := Lib.hid hu26
      clear hi26 hu26 hfin hrow2 hg2 hrow hrg hcv hms hlen
      go_wp2_with (refine wpList_load_mid rfl 26 _ rfl B 0 rfl (wv HH) (.array 8 25) (hrg2 _) hHu.out rfl hHi.out ?_)
      have hK0 := Lib.hid hgrow2.out.size
      clear hrg2
      go_loopw [56] (fun i wr => ∃ t : Nat, t ≤ 8 ∧ i = .int .i64 t ∧ Hid (Lib.IsBuilder 59 5 w2.heap.size w2.heap.size (Lib.byteCells (Sh.bytes (HH.take t))) wr) ∧ Hid (Below w2.heap.size w2 wr)) (fun i _ => 8 - (intOf i).toNat)
      case atStart => exact ⟨0, by omega, rfl, Lib.hid (Lib.fresh_isBuilder 59 5 w2), Lib.hid ((Below.refl _ _).alloc (Nat.le_refl _) _)⟩
      case round =>
        obtain ⟨t, ht, rfl, hIB, hBe⟩ := hrel
        by_cases hlt : t < 8
        · have hix : (wv HH).toArray[t]? = some (.int .u64 (HH.getD t 0 : Nat)) := by
            simp only [List.getElem?_toArray, wv, List.getElem?_map]
            rw [List.getD_eq_getElem?_getD, List.getElem?_eq_getElem (by omega)]; rfl
          have hxt : HH.getD t 0 < 18446744073709551616 := by
            rw [List.getD_eq_getElem?_getD, List.getElem?_eq_getElem (by omega)]; exact hx2 _ (List.getElem_mem _)
          have hbt := bytes_take HH t (by omega)
          have hbl := bytes_length (HH.take t)
          rw [List.length_take, Nat.min_eq_left (by omega)] at hbl
          have HBT := Lib.hid hbt
          clear hbt
          have hin : ∀ W, (Instr.index 26 (.agg (wv HH).toArray) (.int .i64 (t : Nat))).run Tryd.prog W = .ok (.int .u64 (HH.getD t 0 : Nat)) W := by
            intro W
            have h0 : (0 : Int) ≤ (t : Int) ∧ (t : Int) < 8 := by omega
            have hu : Tryd.prog.underlying 26 = some (.array 8 25) := hHu.out
            simp [Instr.index, run_underlying hu, asIntOf, h0, go_sem]
            rw [if_pos hlt]
            simp [wv, List.getElem?_map, List.getElem?_eq_getElem (show t < HH.length by omega)]
          generalize HH.getD t 0 = x at *
          go_wp2_with fail
          have hdt : decide ((t : Int) < 8) = true := by simp; omega
          rw [hdt]
          clear hdt
          go_loopw [59] (fun i wr => ∃ j : Nat, j ≤ 8 ∧ i = .int .i64 j ∧ Hid (Lib.IsBuilder 59 5 w2.heap.size w2.heap.size (Lib.byteCells (Sh.bytes (HH.take t) ++ (be 8 x).take j)) wr) ∧ Hid (Below w2.heap.size w2 wr)) (fun i _ => 8 - (intOf i).toNat)
          case atStart => exact ⟨0, by omega, rfl, Lib.hid (by rw [List.take_zero, List.append_nil]; exact hIB.out), hBe⟩
          case round =>
            obtain ⟨j, hj, rfl, hIB2, hBe2⟩ := hrel
            by_cases hlj : j < 8
            · have hbk := be_take x j hlj
              have HBK := Lib.hid hbk
              clear hbk
              have hz3 := hBe2.out.size
              have hval : (x : Int) / 2 ^ (8 * (7 - j)) % 256 = ((UInt8.ofNat (x / 256 ^ (7 - j) % 256)).toNat : Int) := by
                have e2 : (2 : Nat) ^ (8 * (7 - j)) = 256 ^ (7 - j) := by rw [Nat.pow_mul]
                rw [← e2, UInt8.toNat_ofNat']
                simp
              have HVAL := Lib.hid hval
              clear hval
              go_wp2_with fail
              rw [HVAL.out]
              refine (_root_.Go.Proofs.YtjlmhndfpfgfkaaDoor.B.WriteByte _ _ _ _ _ hIB2.out (by rw [Lib.byteCells_length, List.length_append, hbl]; have := List.length_take_le j (be 8 x); omega) hz3).mono ?_
              rintro e w3 ⟨rfl, h3, b3⟩
              have hIB3 : Hid (Lib.IsBuilder 59 5 w2.heap.size w2.heap.size (Lib.byteCells (Sh.bytes (HH.take t) ++ (be 8 x).take (j + 1))) w3) := by
                rw [HBK.out, ← List.append_assoc, ← byteCells_snoc1]
                exact Lib.hid (.inr h3)
              have hb3 := Lib.hid (hBe2.out.trans b3)
              clear h3 b3
              go_wp2_with fail
              go_roundw
              case rel => exact ⟨j + 1, by omega, by go_num, hIB3, hb3⟩
              case measure => simp [intOf]; omega
            · have hIB3 : Hid (Lib.IsBuilder 59 5 w2.heap.size w2.heap.size (Lib.byteCells (Sh.bytes (HH.take (t + 1)))) wr) := by
                have h := hIB2.out
                rw [List.take_of_length_le (l := be 8 x) (i := j) (by rw [S.be_length]; omega), ← HBT.out] at h
                exact Lib.hid h
              go_wp2_with fail
              go_roundw
              case rel => exact ⟨t + 1, by omega, by go_num, hIB3, hBe2⟩
              case measure => simp [intOf]; omega
        · have hz3 := hBe.out.size
          go_wp2_with fail
          refine (Tryd.Builder_String_any _ _ _ _ hIB.out hz3).mono ?_
          rintro e w3 ⟨rfl, b3⟩
          go_wp2_with fail
          go_ret
          rw [HF.out]
          rw [List.take_of_length_le (by omega)]
          exact ⟨rfl, hgrow2.out.trans (grown_of_below (hBe.out.trans b3) _)⟩
end Go.Proofs.YtjlmhndfpfgfkaaDoor.E
