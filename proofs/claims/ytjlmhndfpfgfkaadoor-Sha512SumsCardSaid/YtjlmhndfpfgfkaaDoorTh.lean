import Derived.Test.YtjlmhndfpfgfkaaDoorTg
set_option linter.unusedVariables false
set_option linter.unusedSimpArgs false
namespace Go.Proofs.YtjlmhndfpfgfkaaDoor.E
open Go.RowKit Go.Proofs.YtjlmhndfpfgfkaaDoorW.PrintWords Go.Proofs.YtjlmhndfpfgfkaaDoorW.PrintLast Go.Proofs.YtjlmhndfpfgfkaaDoorW.PrintMore
attribute [local go_sem] max2_int min2_int max_two min_two
open S (mkB be num)
def bts (l : List UInt8) : List Int := l.map fun c => (c.toNat : Int)
theorem bts_append (a b : List UInt8) : bts a ++ bts b = bts (a ++ b) := by simp [bts]
theorem bts_length (l : List UInt8) : (bts l).length = l.length := by simp [bts]
theorem bts_encs (l : List UInt8) : encs (Value.int .u8) (bts l) = Lib.byteCells l := by simp [encs, bts, Lib.byteCells, Function.comp_def]
def fillB (N j n : Nat) : List UInt8 := List.replicate (N - j) 0 ++ be j n
theorem fillB_length (N j n : Nat) (h : j ≤ N) : (fillB N j n).length = N := by simp [fillB, S.be_length]; omega
theorem fillB_zero (N n : Nat) : fillB N 0 n = List.replicate N 0 := by simp [fillB, be]
theorem fillB_step (N j n : Nat) (h : j < N) : (fillB N j n).set (N - 1 - j) (UInt8.ofNat (n / 256 ^ j % 256)) = fillB N (j + 1) n := by
  unfold fillB
  rw [S.be_top, show N - j = (N - (j + 1)) + 1 from by omega, List.replicate_succ', List.append_assoc, List.set_append, if_neg (by simp; omega)]
  rw [show N - 1 - j - (List.replicate (N - (j + 1)) (0 : UInt8)).length = 0 from by simp; omega]
  simp
def dq (n j : Nat) : Nat := n / 256 ^ j
theorem dq_zero (n : Nat) : dq n 0 = n := by simp [dq]
theorem dq_succ (n j : Nat) : dq n (j + 1) = dq n j / 256 := by unfold dq; rw [Nat.pow_succ, Nat.div_div_eq_div_mul]
theorem dq_le (n j : Nat) : dq n j ≤ n := Nat.div_le_self _ _
theorem dq_byte (n j : Nat) : ((dq n j : Nat) : Int) % 256 = ((UInt8.ofNat (n / 256 ^ j % 256)).toNat : Int) := by
  unfold dq; rw [UInt8.toNat_ofNat']; omega
/-- a row of bytes, told as the appends want it. -/
theorem bytes_R {w : World} {base n : Nat} {v : Value} {l : List UInt8} {ok : Nat → Prop} (h : w.ownsRow base 5 1 v n (Lib.byteCells l)) (hn : l.length = n) (hok : ∀ k, v.ownBlock = some k → ok k) : Kd.R (Kd.int .u8) 5 w base ok v (bts l) :=
  Kd.R_of_own (by rw [bts_length, hn, bts_encs]; exact h) hok
theorem tail_ref (n m k : Nat) (hm : m < 128) (hn : n < 2199023255552) (hk : k = (239 - m) % 128) : (128 :: List.replicate k (0 : UInt8)) ++ fillB 16 8 (8 * n) = Sh.tail n m := by
  unfold Sh.tail fillB
  rw [Nat.mod_eq_of_lt (show 8 * n < 18446744073709551616 by omega), ← hk, show (16 - 8 : Nat) = 8 from rfl]
  rw [List.cons_append, ← List.append_assoc, List.replicate_append_replicate]
theorem bytes_R_C {w : World} {base n : Nat} {g c : Nat} {l : List UInt8} (h : w.ownsRow base 5 1 (.slice (some ⟨g, 0, none⟩) n c) n (Lib.byteCells l)) (hn : l.length = n) : (Kd.int .u8).C w (some ⟨g, 0, none⟩) n (bts l) := by
  have := (Kd.R_reads' (bytes_R (ok := fun _ => True) h hn (fun _ _ => trivial))).2.2
  rw [bts_length, hn] at this
  exact this
theorem app_rows {ops : Array Oper} {rest : List Oper} {o : Oper} {a : Act} {Q : Exit → Act → World → Prop} {w0 W : World} (base : Nat) (hgd : o.guard = none) (s x : Operand)
    (ho : o.op = .call { callee := .builtin .append, args := #[s, x], argTypes := #[34, 34] }) (v : Value) (l l' : List UInt8) (A : Option Addr) (m c : Nat) (hs : a.eval s = v) (hx : a.eval x = .slice A m c)
    (HO : Kd.R (Kd.int .u8) 5 W base (fun k => base < k) v (bts l)) (HR : (Kd.int .u8).C W A m (bts l')) (hbs : base < W.heap.size) (HB : Below base w0 W) (hl : l.length + m ≤ 1000000)
    (h : ∀ v1 w1, Kd.R (Kd.int .u8) 5 w1 base (fun k => base < k) v1 (bts (l ++ l')) → Below base w0 w1 → W.grownBy w1 v.ownBlock → wpList Tryd.prog ops Q rest (a.put o.dst v1) w1) :
    wpList Tryd.prog ops Q (o :: rest) a W := by
  refine Kd.R_append_rows (Kd.int .u8) (w0 := w0) base hgd s x 34 5 (.int .u8 0) 1 ho Tryd.underlying34 _root_.Go.Proofs.YtjlmhndfpfgfkaaDoor.B.infoByte rfl (by decide) (by decide) v (bts l) (bts l') A m c (fun k => base < k) (fun _ => False) hs hx HO HR (fun _ _ h => h) (fun _ h => h.elim) (fun k hk => Nat.lt_of_lt_of_le hbs hk) HB (Nat.le_of_lt hbs) (by rw [bts_length]; omega) ?_
  intro v1 w1 hR hb hg hat
  rw [bts_append] at hR
  exact h v1 w1 hR hb hg
attribute [local irreducible] Sh.sched Sh.rr Sh.ad Sh.sg0 Sh.sg1 S.num Sh.kw Sh.t1 Sh.t2 Sh.nt Sh.comp Sh.blocks Sh.take Sh.tail p2 dv dq fillB
set_option maxHeartbeats 4000000 in
set_option maxRecDepth 100000 in
theorem rend_any (H : List Nat) (buf : ByteArray) (n : Nat) (w : World) (hl : H.length = 8) (hx : ∀ x ∈ H, x < 18446744073709551616)
    (hn : n < 2199023255552) (hsz : buf.size < 128) :
    Calls Tryd.prog 22 #[.agg (sumCells H buf n).toArray] w fun e w' => e = .returned (.string (mkB (Sh.fin H buf.data.toList n))) ∧ Below w.heap.size w w' := by
  have g8 := sumCells_8 H buf n hl
  have g9 := sumCells_9 H buf n hl
  have hsC := (cells_size H buf n hl).1
  have HSC := Lib.hid hsC
  generalize hC : (sumCells H buf n).toArray = C at *
  have HC := Lib.hid hC
  clear hC hsC
  go_enter Tryd.func22, Tryd.ntmps22
  go_upto_region 1 with fail
  go_wp2_with fail
  have hown4 : ((w.alloc (.cells C 28)).alloc (.cells #[.int .u8 128] 5)).ownsRow w.heap.size 5 1 (.slice (some ⟨(w.alloc (.cells C 28)).heap.size, 0, none⟩) 1 1) 1 (Lib.byteCells [128]) :=
    World.ownsRow_lit (size := 1) (w.alloc (.cells C 28)) #[.int .u8 128] 1 (by simp) (by unfold maxLen; omega) rfl
  have hz4 : (w.alloc (.cells C 28)).heap.size = w.heap.size + 1 := by simp
  rw [hz4] at hown4
  have HR4 : Hid (Kd.R (Kd.int .u8) 5 ((w.alloc (.cells C 28)).alloc (.cells #[.int .u8 128] 5)) w.heap.size (fun k => w.heap.size < k) (.slice (some ⟨w.heap.size + 1, 0, none⟩) 1 1) (bts (128 :: List.replicate 0 0))) :=
    Lib.hid (bytes_R hown4 rfl (fun k hk => by simp [Value.ownBlock] at hk; omega))
  have hrow4 := Lib.hid (heap_alloc2_old w (.cells C 28) (.cells #[.int .u8 128] 5))
  have hs4 : w.heap.size < ((w.alloc (.cells C 28)).alloc (.cells #[.int .u8 128] 5)).heap.size := by simp; omega
  have HB4 := Lib.hid (((Below.refl w.heap.size w).alloc (Nat.le_refl _) (.cells C 28)).alloc (by simp) (.cells #[.int .u8 128] 5))
  clear hown4 hz4
  obtain ⟨K, hK⟩ : ∃ K, K = (239 - buf.size) % 128 := ⟨_, rfl⟩
  have hK1 : K < 128 := by omega
  have HKK := Lib.hid hK
  have hKz : ∀ k, k ≤ K → ((buf.size + (k + 1) + 16) % 128 = 0 ↔ k = K) := by intro k hk; omega
  have HKz := Lib.hid hKz
  clear hK hKz
  go_loopw [3] (fun v wr => ∃ (k : Nat) (vq : Value), vq = v ∧ k ≤ K ∧ Hid (Kd.R (Kd.int .u8) 5 wr w.heap.size (fun k => w.heap.size < k) vq (bts (128 :: List.replicate k 0))) ∧ Hid (Below w.heap.size w wr) ∧ w.heap.size < wr.heap.size ∧
      Hid (wr.heap[w.heap.size]? = some (.cells C 28))) (fun v _ => match v with | .slice _ n _ => 200 - n | _ => 0)
  case atStart => exact ⟨0, _, rfl, Nat.zero_le _, HR4, HB4, hs4, hrow4⟩
  case round =>
    obtain ⟨k, vb, rfl, hk, hR, hB, hsz1, hrow⟩ := hrel
    have c8 : wr.cell? ⟨w.heap.size, 8, none⟩ = some (.string buf) := (cell_of_row _ _ _ _ _ _ hrow.out).trans g8
    have c9 : wr.cell? ⟨w.heap.size, 9, none⟩ = some (.int .u64 (n : Nat)) := (cell_of_row _ _ _ _ _ _ hrow.out).trans g9
    have hlen : (bts (128 :: List.replicate k 0)).length = k + 1 := by simp [bts]
    obtain ⟨Ab, cb, rfl, hcb, hCb⟩ := Kd.R_reads hR.out
    rw [hlen] at hR hCb hcb ⊢
    have HLen := Lib.hid hlen
    have HCb := Lib.hid hCb
    clear hlen hCb
    by_cases hlt : k < K
    · have hne : ¬ ((buf.size : Int) + ((k : Int) + 1) + 16) % 128 = 0 := by
        have := (HKz.out k hk)
        omega
      go_wp2_with (at_builtin
                   go_loud (refine Kd.R_append (Kd.int .u8) (w0 := w) w.heap.size rfl (.tmp 23) (.tmp 24) 34 5 (.int .u8 0) 1 rfl Tryd.underlying34 _root_.Go.Proofs.YtjlmhndfpfgfkaaDoor.B.infoByte rfl (by decide) (by decide) (.slice Ab (k + 1) cb) (bts (128 :: List.replicate k 0)) 0 [.int .u8 0] (fun k => w.heap.size < k) (fun _ => False) rfl rfl rfl (fun _ h => h.elim) (fun k hk => Nat.lt_of_lt_of_le hsz1 hk) hR.out hB.out hB.out.size (by rw [HLen.out]; omega) ?_)
                   intro v7 w5 hR5 hb5 hg5 hnew5
                   rw [show bts (128 :: List.replicate k 0) ++ [(0 : Int)] = bts (128 :: List.replicate (k + 1) 0) from by rw [List.replicate_succ']; simp [bts]] at hR5
                   have HR5 := Lib.hid hR5
                   have HB5 := Lib.hid hb5
                   have hs5 := hg5.size
                   have hr5 := Lib.hid ((hg5.block w.heap.size hsz1 (fun e => absurd (hR.out.1 _ e.symm) (Nat.lt_irrefl _))).trans hrow.out)
                   clear hR5 hb5 hg5 hnew5)
      go_roundw
      case rel => exact ⟨k + 1, _, rfl, by omega, HR5, HB5, by omega, hr5⟩
      case measure =>
        obtain ⟨A7, c7, e7⟩ := Kd.R_slice HR5.out
        rw [e7]
        simp [bts]
        omega
    · obtain rfl : k = K := by omega
      have heq : ((buf.size : Int) + ((k : Int) + 1) + 16) % 128 = 0 := by
        have := (HKz.out k hk)
        omega
      go_upto_region 5 with fail
      rw [show 8 * (n : Int) = ((8 * n : Nat) : Int) from by omega]
      have htl := tail_ref n buf.size k hsz hn HKK.out
      have htll := tail_length n buf.size
      have HTL := Lib.hid htl
      have HTLL := Lib.hid htll
      have hn8 : 8 * n < 17592186044416 := by omega
      generalize 8 * n = n8 at *
      clear htl htll c8 c9 heq
      generalize hwo : wr = wo at *
      clear hwo
      obtain ⟨i0, hi, hzz0, hzz1, hzz2⟩ := info_parts _root_.Go.Proofs.YtjlmhndfpfgfkaaDoor.B.infoByte
      go_wp2_with (refine wpList_make_full _ rfl _ _ 34 rfl wo.heap.size 5 i0 (.int .u8 0) 1 Tryd.underlying34 hi hzz0 hzz1 .i64 .i64 _ _ 16 rfl rfl (by omega) (by omega) (by rw [hzz2]; omega) (by unfold maxLen; omega) (Nat.le_refl _) ?_)
      intro w5 hown hgrow
      rw [toList_madeCells_one] at hown
      have HW : Hid (w5.ownsRow wo.heap.size 5 1 (.slice (some ⟨wo.heap.size, 0, none⟩) 16 16) 16 (Lib.byteCells (fillB 16 0 n8))) := by
        rw [fillB_zero, show Lib.byteCells (List.replicate 16 0) = List.replicate 16 (Value.int .u8 0) from by simp [Lib.byteCells]]
        exact Lib.hid hown
      have HB5 := Lib.hid ((Below.refl wo.heap.size wo).grown hgrow (Nat.le_refl _) (fun k hk => by cases hk))
      clear hown hgrow hi hzz0 hzz1 hzz2
      go_wp2_with fail
      go_loopw [4, 6] (fun v i wr => ∃ q : Nat, 8 ≤ q ∧ q ≤ 16 ∧ i = .int .i64 q ∧ v = .int .u64 (dq n8 (16 - q) : Nat) ∧ Hid (wr.ownsRow wo.heap.size 5 1 (.slice (some ⟨wo.heap.size, 0, none⟩) 16 16) 16 (Lib.byteCells (fillB 16 (16 - q) n8))) ∧ Hid (Below wo.heap.size wo wr)) (fun _ i _ => (intOf i).toNat)
      case atStart => exact ⟨16, by omega, by omega, rfl, by rw [Nat.sub_self, dq_zero], HW, HB5⟩
      case round =>
        obtain ⟨q, hq8, hq, rfl, rfl, hO, hBq⟩ := hrel
        by_cases hlt2 : 8 < q
        · have hfl := fillB_length 16 (16 - q) n8 (by omega)
          obtain ⟨v0, hc⟩ : ∃ v0, wr.cell? ⟨wo.heap.size, q - 1, none⟩ = some v0 := by
            rw [hO.out.cellAt (q - 1) (by omega)]
            exact ⟨_, List.getElem?_eq_getElem (by simp [Lib.byteCells, hfl]; omega)⟩
          have hz := hO.out.frozenAt (q - 1)
          have hst := fillB_step 16 (16 - q) n8 (by omega)
          rw [show 16 - 1 - (16 - q) = q - 1 from by omega, show 16 - q + 1 = 16 - (q - 1) from by omega] at hst
          have hsto := (hO.out.stored (q - 1) (.int .u8 ((UInt8.ofNat (n8 / 256 ^ (16 - q) % 256)).toNat : Int))).1
          rw [byteCells_set, hst] at hsto
          have hds := dq_succ n8 (16 - q)
          rw [show 16 - q + 1 = 16 - (q - 1) from by omega] at hds
          have hdb := dq_byte n8 (16 - q)
          have hdl := dq_le n8 (16 - q)
          have HSTO := Lib.hid hsto
          have HDS := Lib.hid hds
          have HDB := Lib.hid hdb
          clear hst hsto hds hdb hfl
          generalize dq n8 (16 - q) = d at *
          have hd256 : (0 : Int) ≤ (d : Int) % 256 ∧ (d : Int) % 256 < 256 := by omega
          go_wp2_with fail
          rw [HDB.out]
          go_roundw
          case rel => exact ⟨q - 1, by omega, by omega, by go_num, by rw [HDS.out]; go_num, HSTO, Lib.hid (hBq.out.setCell (Nat.le_refl _) _)⟩
          case measure => simp [intOf]; omega
        · obtain rfl : q = 8 := by omega
          have hln : (128 :: List.replicate k (0 : UInt8)).length + 16 ≤ 1000000 := by
            rw [List.length_cons, List.length_replicate]
            exact Nat.le_trans (Nat.add_le_add_right (Nat.succ_le_of_lt hK1) 16) (by decide)
          have HLN := Lib.hid hln
          clear hln
          have hO2 := bytes_R_C hO.out (fillB_length 16 8 n8 (by omega))
          have hR2 := Lib.hid (Kd.R_below hR.out hBq.out)
          have HO2 := Lib.hid hO2
          have hB2 := Lib.hid (below_step hB.out hBq.out)
          have hrow2 := Lib.hid ((hBq.out.block w.heap.size (by omega)).trans hrow.out)
          have hsz2 : w.heap.size < wr.heap.size := Nat.lt_of_lt_of_le hsz1 hBq.out.size
          clear hO2 hO
          have hi28 : (Tryd.prog.info? 28).map (·.size) = some 10 := by kernel_rfl
          have hz28 : ∀ W, (zeroValue 28).run Tryd.prog W = .ok (.agg #[.int .u64 0, .int .u64 0, .int .u64 0, .int .u64 0, .int .u64 0, .int .u64 0, .int .u64 0, .int .u64 0, .string ⟨#[]⟩, .int .u64 0]) W := fun W => by kernel_rfl
          go_upto_region 11 with fail
          go_wp2_with (first
            | (at_builtin
               refine app_rows (w0 := w) w.heap.size rfl (.tmp 43) (.tmp 44) rfl _ (128 :: List.replicate k 0) (fillB 16 8 n8) _ _ _ rfl rfl hR2.out HO2.out hsz2 hB2.out HLN.out ?_
               intro v45 w6 hR6 hb6 hg6
               rw [HTL.out] at hR6
               have HR6 := Lib.hid hR6
               have HB6 := Lib.hid hb6
               have hs6 := hg6.size
               have hr6 := Lib.hid ((hg6.block w.heap.size hsz2 (fun e => absurd (hR2.out.1 _ e.symm) (Nat.lt_irrefl _))).trans hrow2.out)
               clear hR6 hb6 hg6
               obtain ⟨At, ct, rfl, hct, hCt⟩ := Kd.R_reads HR6.out
               have hcv : (convert 34 9 (.slice At (bts (Sh.tail n buf.size)).length ct)).run Tryd.prog w6 = .ok (.string (mkB (Sh.tail n buf.size))) w6 := by
                 rw [Kd.C_string Tryd.underlying34 Tryd.underlying5 Tryd.underlying9 hCt, bts, strOfNums_bytes]
               have hWr := rwrite_any H buf n (mkB (Sh.tail n buf.size)) w6 hl hx (by rw [S.mkB_size, HTLL.out]; omega) (by rw [S.mkB_size, HTLL.out]; omega)
               obtain ⟨hl2, hx2⟩ := Sh.blocks_ok (buf.data.toList.length + (mkB (Sh.tail n buf.size)).data.toList.length) H (buf.data.toList ++ (mkB (Sh.tail n buf.size)).data.toList) hl hx
               rw [show Sh.blocks (buf.data.toList.length + (mkB (Sh.tail n buf.size)).data.toList.length) H (buf.data.toList ++ (mkB (Sh.tail n buf.size)).data.toList) = Sh.take H buf.data.toList (mkB (Sh.tail n buf.size)).data.toList from by unfold Sh.take; rfl] at hl2 hx2
               have hfin : Sh.fin H buf.data.toList n = Sh.bytes (Sh.take H buf.data.toList (mkB (Sh.tail n buf.size)).data.toList).1 := by
                 rw [mkB_toList]; unfold Sh.fin; rw [show buf.data.toList.length = buf.size from by simp]
               have HF := Lib.hid hfin
               rw [HC.out] at hWr
               generalize (Sh.take H buf.data.toList (mkB (Sh.tail n buf.size)).data.toList).1 = HH at *
               generalize mkB (Sh.take H buf.data.toList (mkB (Sh.tail n buf.size)).data.toList).2 = buf2 at *
               generalize n + (mkB (Sh.tail n buf.size)).size = N2 at *
               generalize mkB (Sh.tail n buf.size) = T at *
               generalize (bts (Sh.tail n buf.size)).length = Lt at *
               obtain ⟨hcs, hco⟩ := cells_size HH buf2 N2 hl2
               have hmid : ∀ (b : Nat) (W : World), W.heap[b]? = some (.cells (sumCells HH buf2 N2).toArray 28) → W.rangeAt b 0 (wv HH) := by
                 intro b W h j v hv
                 rw [cell_of_row _ _ _ _ _ _ h]
                 simp only [Nat.zero_add, sumCells, List.getElem?_toArray]
                 rw [List.getElem?_append_left (by have := (List.getElem?_eq_some_iff.1 hv).1; exact this)]
                 exact hv
               have HMid := Lib.hid hmid
               generalize (sumCells HH buf2 N2).toArray = C2 at *
               have HWr := Lib.hid hWr
               have HCS := Lib.hid hcs
               have HCO := Lib.hid hco
               clear hWr hcs hco hmid hfin hct hCt)
            | (refine wpList_load_row rfl 28 _ rfl w.heap.size rfl 28 _ (0, 0) _ hr6.out Tryd.underlying28 rfl (by rw [hi28, HSC.out]) ?_)
            | (go_at_call 23
               with_reducible refine HWr.out.mono ?_
               rintro e w7 ⟨rfl, hb7⟩)
            | (refine wpList_store_row rfl 28 _ _ rfl w7.heap.size C2 rfl rfl 28 _ (heap_alloc_new _ _) (by rw [hi28, HCS.out]) (by rw [HCS.out]; rfl) HCO.out ?_
               obtain ⟨W8, hW8, HR8, HB8, hs8⟩ : ∃ W8, (w7.alloc (.cells zsum 28)).setRow w7.heap.size C2 = W8 ∧ Hid (W8.heap[w7.heap.size]? = some (.cells C2 28)) ∧ Hid (Below w.heap.size w W8) ∧ w7.heap.size < W8.heap.size :=
                 have h1 := below_step HB6.out hb7
                 ⟨_, rfl, Lib.hid (setRow_heap _ _ _ _ _ _ (heap_alloc_new _ _)), Lib.hid (below_setRow (h1.alloc h1.size _) h1.size _), by simp⟩
               unfold zsum at hW8
               rw [hW8]
               have hs7 := (below_step HB6.out hb7).size
               clear hW8 hb7)
            | (have hrg : (W8.alloc (.cells #[] 5)).rangeAt w7.heap.size 0 (wv HH) := HMid.out _ _ (by rw [heap_alloc_old _ _ hs8]; exact HR8.out)
               refine wpList_load_mid rfl 26 _ rfl w7.heap.size 0 rfl (wv HH) (.array 8 25) hrg (by kernel_rfl) rfl (by rw [show (wv HH).length = 8 from by simp [wv, hl2]]; kernel_rfl) ?_))
          have hown9 : (W8.alloc (.cells #[] 5)).ownsRow w.heap.size 5 1 (.slice (some ⟨W8.heap.size, 0, none⟩) 0 0) 0 (Lib.byteCells []) :=
            World.ownsRow_lit (size := 1) W8 #[] 0 HB8.out.size (by unfold maxLen; omega) rfl
          have HR9 : Hid (Kd.R (Kd.int .u8) 5 (W8.alloc (.cells #[] 5)) w.heap.size (fun k => w.heap.size < k) (.slice (some ⟨W8.heap.size, 0, none⟩) 0 0) (bts (Sh.bytes (HH.take 0)))) :=
            Lib.hid (bytes_R hown9 rfl (fun k hk => by simp [Value.ownBlock] at hk; omega))
          have HB9 := Lib.hid (HB8.out.alloc HB8.out.size (.cells #[] 5))
          have hs9 : w.heap.size < (W8.alloc (.cells #[] 5)).heap.size := by simp; omega
          clear hown9
          have hu26 : Tryd.prog.underlying 26 = some (.array 8 25) := by kernel_rfl
          have hHu := Lib.hid hu26
          have HX2 := Lib.hid hx2
          clear hu26 hx2 hx
          go_loopw [8, 53] (fun v i wr => ∃ (t : Nat) (vq : Value), vq = v ∧ t ≤ 8 ∧ i = .int .i64 t ∧ Hid (Kd.R (Kd.int .u8) 5 wr w.heap.size (fun k => w.heap.size < k) vq (bts (Sh.bytes (HH.take t)))) ∧ Hid (Below w.heap.size w wr) ∧ w.heap.size < wr.heap.size) (fun _ i _ => 8 - (intOf i).toNat)
          case atStart => exact ⟨0, _, rfl, by omega, rfl, HR9, HB9, hs9⟩
          case round =>
            obtain ⟨t, vo, rfl, ht, rfl, hRo, hBo, hso⟩ := hrel
            have hbl := bytes_length (HH.take t)
            rw [List.length_take, hl2, Nat.min_eq_left ht] at hbl
            have HBL := Lib.hid hbl
            clear hbl
            by_cases hlt8 : t < 8
            · have hix : (wv HH).toArray[t]? = some (.int .u64 (HH.getD t 0 : Nat)) := by
                apply wv_get
                rw [List.getD_eq_getElem?_getD, List.getElem?_eq_getElem (by omega)]; rfl
              have hxt : HH.getD t 0 < 18446744073709551616 := by
                rw [List.getD_eq_getElem?_getD, List.getElem?_eq_getElem (by omega)]; exact HX2.out _ (List.getElem_mem _)
              have hbt := bytes_take HH t (by omega)
              have HBT := Lib.hid hbt
              clear hbt
              have hin : ∀ W, (Instr.index 26 (.agg (wv HH).toArray) (.int .i64 (t : Nat))).run Tryd.prog W = .ok (.int .u64 (HH.getD t 0 : Nat)) W := by
                intro W
                have h0 : (0 : Int) ≤ (t : Int) ∧ (t : Int) < 8 := by omega
                have hu : Tryd.prog.underlying 26 = some (.array 8 25) := hHu.out
                simp [Instr.index, run_underlying hu, asIntOf, h0, go_sem]
                rw [if_pos hlt8]
                simp [wv, List.getElem?_map, List.getElem?_eq_getElem (show t < HH.length by omega)]
              generalize HH.getD t 0 = x at *
              have hdt : decide ((t : Int) < 8) = true := by simp; omega
              generalize hwp : wr = wp at *
              clear hwp hix
              obtain ⟨i0, hi, hzz0, hzz1, hzz2⟩ := info_parts _root_.Go.Proofs.YtjlmhndfpfgfkaaDoor.B.infoByte
              go_wp2_with (refine wpList_make_full _ rfl _ _ 34 rfl wp.heap.size 5 i0 (.int .u8 0) 1 Tryd.underlying34 hi hzz0 hzz1 .i64 .i64 _ _ 8 rfl rfl (by omega) (by omega) (by rw [hzz2]; omega) (by unfold maxLen; omega) (Nat.le_refl _) ?_)
              intro w5 hown hgrow
              rw [toList_madeCells_one] at hown
              have HW2 : Hid (w5.ownsRow wp.heap.size 5 1 (.slice (some ⟨wp.heap.size, 0, none⟩) 8 8) 8 (Lib.byteCells (fillB 8 0 x))) := by
                rw [fillB_zero, show Lib.byteCells (List.replicate 8 0) = List.replicate 8 (Value.int .u8 0) from by simp [Lib.byteCells]]
                exact Lib.hid hown
              have HB52 := Lib.hid ((Below.refl wp.heap.size wp).grown hgrow (Nat.le_refl _) (fun k hk => by cases hk))
              clear hown hgrow hi hzz0 hzz1 hzz2 hin
              go_wp2_with fail
              go_loopw [10, 12] (fun v i wr => ∃ q : Nat, q ≤ 8 ∧ i = .int .i64 q ∧ v = .int .u64 (dq x (8 - q) : Nat) ∧ Hid (wr.ownsRow wp.heap.size 5 1 (.slice (some ⟨wp.heap.size, 0, none⟩) 8 8) 8 (Lib.byteCells (fillB 8 (8 - q) x))) ∧ Hid (Below wp.heap.size wp wr)) (fun _ i _ => (intOf i).toNat)
              case atStart => exact ⟨8, by omega, rfl, by rw [Nat.sub_self, dq_zero], HW2, HB52⟩
              case round =>
                obtain ⟨q, hq, rfl, rfl, hO, hBq⟩ := hrel
                by_cases hlt2 : 0 < q
                · have hfl := fillB_length 8 (8 - q) x (by omega)
                  obtain ⟨v0, hc⟩ : ∃ v0, wr.cell? ⟨wp.heap.size, q - 1, none⟩ = some v0 := by
                    rw [hO.out.cellAt (q - 1) (by omega)]
                    exact ⟨_, List.getElem?_eq_getElem (by simp [Lib.byteCells, hfl]; omega)⟩
                  have hz := hO.out.frozenAt (q - 1)
                  have hst := fillB_step 8 (8 - q) x (by omega)
                  rw [show 8 - 1 - (8 - q) = q - 1 from by omega, show 8 - q + 1 = 8 - (q - 1) from by omega] at hst
                  have hsto := (hO.out.stored (q - 1) (.int .u8 ((UInt8.ofNat (x / 256 ^ (8 - q) % 256)).toNat : Int))).1
                  rw [byteCells_set, hst] at hsto
                  have hds := dq_succ x (8 - q)
                  rw [show 8 - q + 1 = 8 - (q - 1) from by omega] at hds
                  have hdb := dq_byte x (8 - q)
                  have hdl := dq_le x (8 - q)
                  have HSTO := Lib.hid hsto
                  have HDS := Lib.hid hds
                  have HDB := Lib.hid hdb
                  clear hst hsto hds hdb hfl
                  generalize dq x (8 - q) = d at *
                  have hd256 : (0 : Int) ≤ (d : Int) % 256 ∧ (d : Int) % 256 < 256 := by omega
                  go_wp2_with fail
                  rw [HDB.out]
                  go_roundw
                  case rel => exact ⟨q - 1, by omega, by go_num, by rw [HDS.out]; go_num, HSTO, Lib.hid (hBq.out.setCell (Nat.le_refl _) _)⟩
                  case measure => simp [intOf]; omega
                · obtain rfl : q = 0 := by omega
                  have hO2 := bytes_R_C hO.out (fillB_length 8 8 x (by omega))
                  have hR2 := Lib.hid (Kd.R_below hRo.out hBq.out)
                  have HO2 := Lib.hid hO2
                  have hB2 := Lib.hid (below_step hBo.out hBq.out)
                  have hsz2 : w.heap.size < wr.heap.size := Nat.lt_of_lt_of_le hso hBq.out.size
                  have hln : (Sh.bytes (HH.take t)).length + 8 ≤ 1000000 := by rw [HBL.out]; omega
                  have HLN2 := Lib.hid hln
                  have hfb : fillB 8 8 x = be 8 x := by unfold fillB; rfl
                  have HFB := Lib.hid hfb
                  clear hO2 hO hln hfb
                  go_wp2_with (first
                    | (at_builtin
                       refine app_rows (w0 := w) w.heap.size rfl (.tmp 70) (.tmp 71) rfl _ (Sh.bytes (HH.take t)) (fillB 8 8 x) _ _ _ rfl rfl hR2.out HO2.out hsz2 hB2.out HLN2.out ?_
                       intro v72 w6 hR6 hb6 hg6
                       rw [HFB.out, ← HBT.out] at hR6
                       have HR6 := Lib.hid hR6
                       have HB6 := Lib.hid hb6
                       have hs6 := hg6.size
                       clear hR6 hb6 hg6))
                  go_roundw
                  case rel => exact ⟨t + 1, _, rfl, by omega, by go_num, HR6, HB6, by omega⟩
                  case measure => simp [intOf]; omega
            · obtain rfl : t = 8 := by omega
              obtain ⟨Ax, cx, rfl, hcx, hCx⟩ := Kd.R_reads hRo.out
              have hcv2 : (convert 34 9 (.slice Ax (bts (Sh.bytes (HH.take 8))).length cx)).run Tryd.prog wr = .ok (.string (mkB (Sh.bytes (HH.take 8)))) wr := by
                rw [Kd.C_string Tryd.underlying34 Tryd.underlying5 Tryd.underlying9 hCx, bts, strOfNums_bytes]
              rw [List.take_of_length_le (show HH.length ≤ 8 by omega), ← HF.out] at hcv2
              rw [List.take_of_length_le (show HH.length ≤ 8 by omega), ← HF.out]
              generalize (bts (Sh.fin H buf.data.toList n)).length = Lx at *
              clear hCx hcx
              go_wp2_with fail
              go_ret
              exact ⟨rfl, hBo.out⟩
end Go.Proofs.YtjlmhndfpfgfkaaDoor.E
