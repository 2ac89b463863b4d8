import Derived.Test.YtjlmhndfpfgfkaaDoorTd
set_option linter.unusedVariables false
set_option linter.unusedSimpArgs false
namespace Go.Proofs.YtjlmhndfpfgfkaaDoor.E
open Go.RowKit Go.Proofs.YtjlmhndfpfgfkaaDoorW.PrintWords Go.Proofs.YtjlmhndfpfgfkaaDoorW.PrintLast Go.Proofs.YtjlmhndfpfgfkaaDoorW.PrintMore
attribute [local go_sem] max2_int min2_int max_two min_two
open S (mkB be num)
theorem info25 : (Tryd.prog.info? 25).map (fun i => (i.zero, i.size, i.bytes)) = some (some (.int .u64 0), 1, 8) := by kernel_rfl
/-- the constants, in a row of the reference's own. -/
def KeysAt (b : Nat) (w : World) : Prop := b < w.heap.size ∧ ∀ j, j < 80 → w.cell? ⟨b, j, none⟩ = some (.int .u64 (Sh.kw.getD j 0 : Nat))
theorem keysAt_below {b : Nat} {w w' : World} (h : Below w.heap.size w w') (hK : KeysAt b w) : KeysAt b w' := by
  refine ⟨Nat.lt_of_lt_of_le hK.1 h.size, fun j hj => ?_⟩
  rw [h.cell (by exact hK.1)]; exact hK.2 j hj
def ints (l : List Nat) : List Int := l.map Int.ofNat
theorem rd_ints (l : List Nat) (j : Nat) (h : j < l.length) : rd (ints l) (j : Int) = ((l.getD j 0 : Nat) : Int) := by
  simp [rd, ints, List.getD_eq_getElem?_getD, h]
theorem ints_snoc (l : List Nat) (x : Nat) : ints l ++ [(x : Int)] = ints (l ++ [x]) := by simp [ints]
theorem ints_length (l : List Nat) : (ints l).length = l.length := by simp [ints]
theorem take_succ_getD (l : List Nat) (t : Nat) (h : t < l.length) : l.take (t + 1) = l.take t ++ [l.getD t 0] := by
  rw [List.take_succ_eq_append_getElem h]; simp [List.getD_eq_getElem?_getD, h]
theorem take_getD' (l : List Nat) (t j : Nat) (h : j < t) : (l.take t).getD j 0 = l.getD j 0 := Sh.take_getD l t j h
theorem num_snoc_get (s : ByteArray) (t i : Nat) (h : 8 * t + i < s.size) : ((s.data.toList.drop (8 * t)).take (i + 1)) = ((s.data.toList.drop (8 * t)).take i) ++ [s[8 * t + i]] := by
  rw [List.take_succ_eq_append_getElem (by simp; omega)]
  simp
  rfl
theorem num_nil' : num [] = 0 := rfl
theorem ad_ref (a b c d : Nat) : Sh.ad (Sh.ad (Sh.ad a b) c) d = Sh.ad (Sh.ad (Sh.ad d c) b) a := by unfold Sh.ad; omega
theorem sg0_ref (a : Nat) (h : a < 18446744073709551616) : bits .xor .u64 (bits .xor .u64 (Sh.rr a 1 : Nat) (Sh.rr a 8 : Nat)) (dv a 7 : Nat) = ((Sh.sg0 a : Nat) : Int) := by
  rw [xor_eq _ _ (Sh.rr_lt a 1 h) (Sh.rr_lt a 8 h), xor_eq _ _ (Sh.xor_lt _ _ (Sh.rr_lt a 1 h) (Sh.rr_lt a 8 h)) (dv_b a _ h)]
  unfold Sh.sg0 dv; rfl
theorem sg1_ref (a : Nat) (h : a < 18446744073709551616) : bits .xor .u64 (bits .xor .u64 (Sh.rr a 19 : Nat) (Sh.rr a 61 : Nat)) (dv a 6 : Nat) = ((Sh.sg1 a : Nat) : Int) := by
  rw [xor_eq _ _ (Sh.rr_lt a 19 h) (Sh.rr_lt a 61 h), xor_eq _ _ (Sh.xor_lt _ _ (Sh.rr_lt a 19 h) (Sh.rr_lt a 61 h)) (dv_b a _ h)]
  unfold Sh.sg1 dv; rfl
def shf (L : List Nat) (j : Nat) : List Nat := L.take (j + 1) ++ (L.drop j).take (7 - j)
theorem shf_seven (a b c d e f g h : Nat) : shf (hvs a b c d e f g h) 7 = hvs a b c d e f g h := rfl
theorem shf_zero (a b c d e f g h : Nat) : shf (hvs a b c d e f g h) 0 = hvs a a b c d e f g := rfl
theorem shf_step (a b c d e f g h j : Nat) (h0 : 0 < j) (h7 : j ≤ 7) : ∃ y z : Nat, (wv (shf (hvs a b c d e f g h) j)).toArray[j - 1]? = some (.int .u64 (y : Nat)) ∧ (wv (shf (hvs a b c d e f g h) j)).toArray[j]? = some (.int .u64 (z : Nat)) ∧
    (wv (shf (hvs a b c d e f g h) j)).toArray.setIfInBounds j (.int .u64 (y : Nat)) = (wv (shf (hvs a b c d e f g h) (j - 1))).toArray := by
  have : j = 1 ∨ j = 2 ∨ j = 3 ∨ j = 4 ∨ j = 5 ∨ j = 6 ∨ j = 7 := by omega
  rcases this with rfl | rfl | rfl | rfl | rfl | rfl | rfl <;> exact ⟨_, _, rfl, rfl, rfl⟩
theorem wv_get (H : List Nat) (i x : Nat) (h : H[i]? = some x) : (wv H).toArray[i]? = some (.int .u64 (x : Nat)) := by
  simp [wv, h]
theorem wv_set (H : List Nat) (i x : Nat) : (wv H).toArray.setIfInBounds i (.int .u64 (x : Nat)) = (wv (H.set i x)).toArray := by
  simp [wv, List.map_set]
attribute [local irreducible] Sh.sched Sh.rr Sh.ad Sh.sg0 Sh.sg1 S.num Sh.kw Sh.t1 Sh.t2 Sh.nt Sh.comp Sh.blocks Sh.take Sh.tail p2 dv
set_option maxHeartbeats 4000000 in
set_option maxRecDepth 100000 in
theorem rmix_any (x0 x1 x2 x3 x4 x5 x6 x7 : Nat) (s : ByteArray) (Kb : Nat) (w : World) (hs : s.size = 128)
    (hx0 : x0 < 18446744073709551616) (hx1 : x1 < 18446744073709551616) (hx2 : x2 < 18446744073709551616) (hx3 : x3 < 18446744073709551616)
    (hx4 : x4 < 18446744073709551616) (hx5 : x5 < 18446744073709551616) (hx6 : x6 < 18446744073709551616) (hx7 : x7 < 18446744073709551616)
    (hK : KeysAt Kb w) :
    Calls Tryd.prog 28 #[.agg (wv (hvs x0 x1 x2 x3 x4 x5 x6 x7)).toArray, .string s, .slice (some ⟨Kb, 0, none⟩) 80 80] w fun e w' =>
      e = .returned (.agg (wv (Sh.comp (hvs x0 x1 x2 x3 x4 x5 x6 x7) s.data.toList)).toArray) ∧ Below w.heap.size w w' := by
  have hz8 : ∀ W, (zeroValue 26).run Tryd.prog W = .ok (.agg (#[.int .u64 0, .int .u64 0, .int .u64 0, .int .u64 0, .int .u64 0, .int .u64 0, .int .u64 0, .int .u64 0] : Array Value)) W := fun W => by kernel_rfl
  have hi26 : (Tryd.prog.info? 26).map (·.size) = some 8 := by kernel_rfl
  have hL := Sh.sched_length s.data.toList
  unfold Sh.comp
  generalize hLL : Sh.sched s.data.toList = L at *
  have HLL := Lib.hid hLL
  have HK := Lib.hid hK
  clear hLL hK
  rw [show (wv (hvs x0 x1 x2 x3 x4 x5 x6 x7)).toArray = #[.int .u64 (x0 : Nat), .int .u64 (x1 : Nat), .int .u64 (x2 : Nat), .int .u64 (x3 : Nat), .int .u64 (x4 : Nat), .int .u64 (x5 : Nat), .int .u64 (x6 : Nat), .int .u64 (x7 : Nat)] from rfl]
  go_enter Tryd.func28, Tryd.ntmps28
  go_wp2_with (first
    | ((with_reducible refine gate_dst (N := 21) rfl ?_)
       refine Kd.R_lit (Kd.int .u64) (w0 := w) w.heap.size 25 ?hg (N := 21) ?hd (xs := ([] : List Int)) (inner := []) (ok := fun k => w.heap.size + 2 ≤ k) (okp := fun _ => False) ?hr ?hp (fun _ hk => hk.elim) ?hf ?hb ?hs (Nat.zero_le _) ?_
       (case hd => rfl); (case hg => rfl); (case hr => first | (go_simp; done) | (go_simp; rfl)); (case hp => exact (Reps.none _ _)); (case hf => simp); (case hb => exact (((Below.refl _ _).alloc (Nat.le_refl _) _).alloc (by simp) _)); (case hs => simp; omega)
       intro v21 w4 hR4 hb4 hg4 hnew4))
  have hr3 := Lib.hid ((hg4.block w.heap.size (by simp; omega) (by simp)).trans (heap_alloc2_old w _ _))
  have hr6 := Lib.hid ((hg4.block (w.heap.size + 1) (by simp) (by simp)).trans (heap_alloc2_new w _ _))
  have hs4 : w.heap.size + 2 ≤ w4.heap.size := by have := hg4.size; simp at this; omega
  have HR4 := Lib.hid hR4
  have HB4 := Lib.hid hb4
  clear hR4 hb4 hg4 hnew4
  go_loopw [7, 8] (fun v i wr => ∃ (t : Nat) (vq : Value), vq = v ∧ t ≤ 80 ∧ i = .int .i64 t ∧ Hid (Kd.R (Kd.int .u64) 25 wr w.heap.size (fun k => w.heap.size + 2 ≤ k) vq (ints (L.take t))) ∧ Hid (Below w.heap.size w wr) ∧ w.heap.size + 2 ≤ wr.heap.size ∧
      Hid (wr.heap[w.heap.size]? = some (.cells #[.int .u64 (x0 : Nat), .int .u64 (x1 : Nat), .int .u64 (x2 : Nat), .int .u64 (x3 : Nat), .int .u64 (x4 : Nat), .int .u64 (x5 : Nat), .int .u64 (x6 : Nat), .int .u64 (x7 : Nat)] 26)) ∧
      Hid (wr.heap[w.heap.size + 1]? = some (.cells #[.int .u64 0, .int .u64 0, .int .u64 0, .int .u64 0, .int .u64 0, .int .u64 0, .int .u64 0, .int .u64 0] 26))) (fun _ i _ => 80 - (intOf i).toNat)
  case atStart => exact ⟨0, _, rfl, Nat.zero_le _, rfl, HR4, HB4, hs4, hr3, hr6⟩
  case round =>
    obtain ⟨t, vw, rfl, ht, rfl, hR, hB, hsz, hrow3, hrow6⟩ := hrel
    have hts := take_succ_getD L t
    have hlt' : (L.take t).length ≤ 80 := by rw [List.length_take]; omega
    by_cases hlt : t < 80
    · replace hts := hts (by omega)
      by_cases h16 : t < 16
      · have hlow := Sh.sched_low s.data.toList t h16
        rw [HLL.out] at hlow
        rw [hlow] at hts
        have HTS := Lib.hid hts
        clear hts hlow
        have hd1 : decide ((t : Int) < 80) = true := by simp; omega
        have hd2 : decide ((t : Int) < 16) = true := by simp; omega
        go_wp2_with fail
        go_loop [9, 10] (fun v i => ∃ j : Nat, j ≤ 8 ∧ i = .int .i64 j ∧ v = .int .u64 ((num ((s.data.toList.drop (8 * t)).take j) : Nat) : Int)) (fun _ i => 8 - (intOf i).toNat)
        case atStart => exact ⟨0, by omega, rfl, by rw [List.take_zero, num_nil']; rfl⟩
        case round =>
          obtain ⟨j, hj, rfl, rfl⟩ := hrel
          by_cases hj8 : j < 8
          · have hns := num_snoc_get s t j (by omega)
            have hn := num_le ((s.data.toList.drop (8 * t)).take j) 7 (Nat.le_trans (List.length_take_le _ _) (by omega))
            have hc : s[8 * t + j].toNat < 256 := s[8 * t + j].toNat_lt
            have HNS := Lib.hid hns
            clear hns
            generalize hm : num ((s.data.toList.drop (8 * t)).take j) = mm at *
            have HM := Lib.hid hm
            clear hm
            have e7 : (256 : Nat) ^ 7 = 72057594037927936 := by decide
            rw [e7] at hn
            clear e7
            have b1 : 8 * t + j < s.size := by omega
            go_wp2_with fail
            go_round
            case rel => exact ⟨j + 1, by omega, by go_num, by rw [HNS.out, S.num_snoc, HM.out]; go_num⟩
            case measure => simp [intOf]; omega
          · obtain rfl : j = 8 := by omega
            generalize num ((s.data.toList.drop (8 * t)).take 8) = y at *
            go_wp2_with (at_builtin
                         refine Kd.R_append (Kd.int .u64) (w0 := w) w.heap.size rfl (.tmp 81) (.tmp 83) 31 25 (.int .u64 0) 8 rfl Tryd.underlying31 info25 rfl (by decide) (by decide) vw (ints (L.take t)) (y : Int) [.int .u64 (y : Int)] (fun k => w.heap.size + 2 ≤ k) (fun _ => False) rfl rfl rfl (fun _ h => h.elim) (fun k hk => Nat.le_trans hsz hk) hR.out hB.out hB.out.size (by rw [ints_length]; omega) ?_
                         intro v7 w5 hR5 hb5 hg5 hnew5
                         rw [ints_snoc, ← HTS.out] at hR5
                         have HR5 := Lib.hid hR5
                         have HB5 := Lib.hid hb5
                         have hs5 := hg5.size
                         have hr35 := Lib.hid ((hg5.block w.heap.size (by omega) (fun e => absurd (hR.out.1 _ e.symm) (by omega))).trans hrow3.out)
                         have hr65 := Lib.hid ((hg5.block (w.heap.size + 1) (by omega) (fun e => absurd (hR.out.1 _ e.symm) (by omega))).trans hrow6.out)
                         clear hR5 hb5 hg5 hnew5)
            go_roundw
            case rel => exact ⟨t + 1, _, rfl, by omega, by go_num, HR5, HB5, by omega, hr35, hr65⟩
            case measure => simp [intOf]; omega
      · have hhigh := Sh.sched_high s.data.toList t (by omega) hlt
        rw [HLL.out] at hhigh
        have la : ∀ j, L.getD j 0 < 18446744073709551616 := fun j => by rw [← HLL.out]; exact Sh.sched_lt _ _
        have Ha := la (t - 15)
        have Hb := la (t - 2)
        have Hc := la (t - 16)
        have Hd := la (t - 7)
        have hlen : (ints (L.take t)).length = t := by rw [ints_length, List.length_take]; omega
        obtain ⟨Aw, cw, rfl, hcw, hC⟩ := Kd.R_reads hR.out
        have hcell : ∀ j, j < t → ∃ ad, Aw = some ad ∧ wr.cell? (ad.add j) = some (.int .u64 (L.getD j 0 : Nat)) := by
          intro j hj
          obtain ⟨ad, hA, hc⟩ := Kd.at_int hC (j : Int) (by omega) (by rw [hlen]; omega)
          rw [rd_ints _ _ (by rw [List.length_take]; omega), take_getD' _ _ _ hj, Int.toNat_natCast] at hc
          exact ⟨ad, hA, hc⟩
        obtain ⟨ad, rfl, ca⟩ := hcell (t - 15) (by omega)
        obtain ⟨ad2, e2, cb⟩ := hcell (t - 2) (by omega)
        obtain ⟨ad3, e3, cc⟩ := hcell (t - 16) (by omega)
        obtain ⟨ad4, e4, cd⟩ := hcell (t - 7) (by omega)
        injection e2 with e2
        injection e3 with e3
        injection e4 with e4
        subst e2 e3 e4
        have HTS := Lib.hid hts
        have HH := Lib.hid hhigh
        clear hts hhigh la hcell hC
        generalize L.getD (t - 15) 0 = a at *
        generalize L.getD (t - 2) 0 = b at *
        generalize L.getD (t - 16) 0 = c at *
        generalize L.getD (t - 7) 0 = d at *
        have R1 : Hid (∀ W, Calls Tryd.prog 34 #[.int .u64 (a : Nat), .int .i64 1] W fun e w' => e = .returned (.int .u64 ((Sh.rr a 1 : Nat) : Int)) ∧ ∃ m, w' = W.drewN m) := Lib.hid (fun W => turn_any a 1 W Ha (by omega) (by omega))
        have R2 : Hid (∀ W, Calls Tryd.prog 34 #[.int .u64 (a : Nat), .int .i64 8] W fun e w' => e = .returned (.int .u64 ((Sh.rr a 8 : Nat) : Int)) ∧ ∃ m, w' = W.drewN m) := Lib.hid (fun W => turn_any a 8 W Ha (by omega) (by omega))
        have R3 : Hid (∀ W, Calls Tryd.prog 34 #[.int .u64 (b : Nat), .int .i64 19] W fun e w' => e = .returned (.int .u64 ((Sh.rr b 19 : Nat) : Int)) ∧ ∃ m, w' = W.drewN m) := Lib.hid (fun W => turn_any b 19 W Hb (by omega) (by omega))
        have R4 : Hid (∀ W, Calls Tryd.prog 34 #[.int .u64 (b : Nat), .int .i64 61] W fun e w' => e = .returned (.int .u64 ((Sh.rr b 61 : Nat) : Int)) ∧ ∃ m, w' = W.drewN m) := Lib.hid (fun W => turn_any b 61 W Hb (by omega) (by omega))
        have R5 : Hid (∀ W, Calls Tryd.prog 35 #[.int .u64 (a : Nat), .int .i64 7] W fun e w' => e = .returned (.int .u64 (dv a 7 : Nat)) ∧ w' = W) := Lib.hid (fun W => move_any a 7 W Ha (by omega))
        have R6 : Hid (∀ W, Calls Tryd.prog 35 #[.int .u64 (b : Nat), .int .i64 6] W fun e w' => e = .returned (.int .u64 (dv b 6 : Nat)) ∧ w' = W) := Lib.hid (fun W => move_any b 6 W Hb (by omega))
        have hlen' := Lib.hid hlen
        rw [hlen] at hR ⊢
        go_wp2_with fail
        have q7 : IntKind.i64.wrap ((t : Int) - 7) = (t : Int) - 7 := by simp [IntKind.wrap, IntKind.signed, IntKind.bits]; omega
        have q16 : IntKind.i64.wrap ((t : Int) - 16) = (t : Int) - 16 := by simp [IntKind.wrap, IntKind.signed, IntKind.bits]; omega
        have p7 : (0 : Int) ≤ (t : Int) - 7 := by omega
        have p7' : (7 : Int) ≤ (t : Int) := by omega
        have p16 : (0 : Int) ≤ (t : Int) - 16 := by omega
        have p16' : (16 : Int) ≤ (t : Int) := by omega
        have n7 : ((t : Int) - 7).toNat = t - 7 := by omega
        have n16 : ((t : Int) - 16).toNat = t - 16 := by omega
        have m7 : (t : Int) - 7 < (t : Int) := by omega
        have m16 : (t : Int) - 16 < (t : Int) := by omega
        go_quiet (first
          | (go_at_call 34; with_reducible (first | refine (R1.out _).mono ?_ | refine (R2.out _).mono ?_ | refine (R3.out _).mono ?_ | refine (R4.out _).mono ?_); rintro _ _ ⟨rfl, nd, rfl⟩; (first | exact ⟨rfl, _, World.drewN_drewN _ _ _⟩ | exact ⟨rfl, _, rfl⟩ | exact ⟨rfl, _, Eq.trans (World.drewN_drewN _ _ _) (congrArg (World.drewN _) (Nat.add_assoc _ _ _))⟩))
          | (go_at_call 35; with_reducible (first | refine (R5.out _).mono ?_ | refine (R6.out _).mono ?_); rintro _ _ ⟨rfl, rfl⟩; exact ⟨rfl, _, rfl⟩))
        rw [sg1_ref b Hb, sg0_ref a Ha, ad_eq, ad_eq, ad_eq, ad_ref, ← HH.out]
        clear q7 q16 p7 p7' p16 p16' n7 n16 m7 m16 R1 R2 R3 R4 R5 R6 ca cb cc cd HH
        generalize L.getD t 0 = y at *
        have hR' := Kd.R_drewN hR.out nq
        have hB' := pw_below_drewN hB.out nq
        have hrow3' : (wr.drewN nq).heap[w.heap.size]? = _ := hrow3.out
        have hrow6' : (wr.drewN nq).heap[w.heap.size + 1]? = _ := hrow6.out
        have hsz' : w.heap.size + 2 ≤ (wr.drewN nq).heap.size := hsz
        generalize wr.drewN nq = wd at *
        have HR' := Lib.hid hR'
        have HB' := Lib.hid hB'
        have Hrow3' := Lib.hid hrow3'
        have Hrow6' := Lib.hid hrow6'
        clear hR' hB' hrow3' hrow6'
        go_wp2_with (at_builtin
                     refine Kd.R_append (Kd.int .u64) (w0 := w) w.heap.size rfl (.tmp 81) (.tmp 83) 31 25 (.int .u64 0) 8 rfl Tryd.underlying31 info25 rfl (by decide) (by decide) (.slice (some ad) t cw) (ints (L.take t)) (y : Int) [.int .u64 (y : Int)] (fun k => w.heap.size + 2 ≤ k) (fun _ => False) rfl rfl rfl (fun _ h => h.elim) (fun k hk => Nat.le_trans hsz' hk) HR'.out HB'.out HB'.out.size (by rw [hlen'.out]; omega) ?_
                     intro v7 w5 hR5 hb5 hg5 hnew5
                     rw [ints_snoc, ← HTS.out] at hR5
                     have HR5 := Lib.hid hR5
                     have HB5 := Lib.hid hb5
                     have hs5 := hg5.size
                     have hr35 := Lib.hid ((hg5.block w.heap.size (by omega) (fun e => absurd (HR'.out.1 _ e.symm) (by omega))).trans Hrow3'.out)
                     have hr65 := Lib.hid ((hg5.block (w.heap.size + 1) (by omega) (fun e => absurd (HR'.out.1 _ e.symm) (by omega))).trans Hrow6'.out)
                     clear hR5 hb5 hg5 hnew5)
        go_roundw
        case rel => exact ⟨t + 1, _, rfl, by omega, by go_num, HR5, HB5, by omega, hr35, hr65⟩
        case measure => simp [intOf]; omega
    · obtain rfl : t = 80 := by omega
      rw [List.take_of_length_le (show L.length ≤ 80 by omega)] at hR
      clear hts
      have hV0 := heap_alloc_new wr (.cells #[.int .u64 0, .int .u64 0, .int .u64 0, .int .u64 0, .int .u64 0, .int .u64 0, .int .u64 0, .int .u64 0] 26)
      obtain ⟨Aw, cw, rfl, hcw, hC⟩ := Kd.R_reads hR.out
      have hl0 : (ints L).length = 80 := by rw [ints_length, hL]
      have hl0' := Lib.hid hl0
      rw [hl0] at hC hcw ⊢
      go_wp2_with (first
        | (refine wpList_load_row rfl 26 _ rfl w.heap.size rfl 26 _ (0, 0) (.array 8 25) hrow3.out (by kernel_rfl) rfl (by rw [hi26]; rfl) ?_)
        | (refine wpList_store_row rfl 26 _ _ rfl wr.heap.size _ rfl rfl 26 _ hV0 (by rw [hi26]; rfl) rfl (by simp [Value.oneCell']) ?_))
      obtain ⟨W5, hW5, hB5, hrow5⟩ : ∃ W5, (wr.alloc (.cells #[.int .u64 0, .int .u64 0, .int .u64 0, .int .u64 0, .int .u64 0, .int .u64 0, .int .u64 0, .int .u64 0] 26)).setRow wr.heap.size #[.int .u64 (x0 : Nat), .int .u64 (x1 : Nat), .int .u64 (x2 : Nat), .int .u64 (x3 : Nat), .int .u64 (x4 : Nat), .int .u64 (x5 : Nat), .int .u64 (x6 : Nat), .int .u64 (x7 : Nat)] = W5 ∧
          Hid (Below wr.heap.size wr W5) ∧ Hid (W5.heap[wr.heap.size]? = some (.cells (wv (hvs x0 x1 x2 x3 x4 x5 x6 x7)).toArray 26)) :=
        ⟨_, rfl, Lib.hid (below_setRow ((Below.refl _ _).alloc (Nat.le_refl _) _) (Nat.le_refl _) _), Lib.hid (setRow_heap _ _ _ _ _ _ (heap_alloc_new _ _))⟩
      rw [hW5]
      clear hW5 hV0
      obtain ⟨ad, rfl, _⟩ := Kd.at_int hC (0 : Int) (by omega) (by decide)
      have HKr := Lib.hid (keysAt_below hB.out HK.out)
      have HC := Lib.hid hC
      have HL := Lib.hid hL
      clear hC hR hcw hL
      have hLt : ∀ j, L.getD j 0 < 18446744073709551616 := fun j => by rw [← HLL.out]; exact Sh.sched_lt _ _
      have HLt := Lib.hid hLt
      clear hLt
      generalize hwo : wr = wo at *
      clear hwo
      go_loopw [14] (fun i w2 => ∃ (t a b c d e f g i0 : Nat), t ≤ 80 ∧ i = .int .i64 t ∧ Hid (Below wo.heap.size wo w2) ∧ Hid (Sh.rnds L t (hvs x0 x1 x2 x3 x4 x5 x6 x7) = hvs a b c d e f g i0) ∧
        (a < 18446744073709551616 ∧ b < 18446744073709551616 ∧ c < 18446744073709551616 ∧ d < 18446744073709551616 ∧ e < 18446744073709551616 ∧ f < 18446744073709551616 ∧ g < 18446744073709551616 ∧ i0 < 18446744073709551616) ∧
        Hid (w2.heap[wo.heap.size]? = some (.cells (wv (hvs a b c d e f g i0)).toArray 26))) (fun i _ => 80 - (intOf i).toNat)
      case atStart => exact ⟨0, x0, x1, x2, x3, x4, x5, x6, x7, by omega, rfl, hB5, Lib.hid rfl, ⟨hx0, hx1, hx2, hx3, hx4, hx5, hx6, hx7⟩, hrow5⟩
      case round =>
        obtain ⟨t, a, b, c, d, e, f, g, i0, ht, rfl, hBe, hRn, ⟨ha, hb, hc, hd, he, hf, hg, hh⟩, hV⟩ := hrel
        by_cases hlt : t < 80
        · obtain ⟨ad2, e2, cw'⟩ := Kd.at_int (Kd.C_below HC.out hBe.out) (t : Int) (by omega) (by omega)
          injection e2 with e2
          subst e2
          rw [rd_ints _ _ (by rw [HL.out]; exact hlt), Int.toNat_natCast] at cw'
          have ck : wr.cell? ⟨Kb, t, none⟩ = some (.int .u64 (Sh.kw.getD t 0 : Nat)) := (keysAt_below hBe.out HKr.out).2 t hlt
          have c0 : wr.cell? ⟨wo.heap.size, 0, none⟩ = some (.int .u64 (a : Nat)) := (cell_of_row _ _ _ _ _ _ hV.out).trans rfl
          have c1 : wr.cell? ⟨wo.heap.size, 1, none⟩ = some (.int .u64 (b : Nat)) := (cell_of_row _ _ _ _ _ _ hV.out).trans rfl
          have c2 : wr.cell? ⟨wo.heap.size, 2, none⟩ = some (.int .u64 (c : Nat)) := (cell_of_row _ _ _ _ _ _ hV.out).trans rfl
          have c3 : wr.cell? ⟨wo.heap.size, 3, none⟩ = some (.int .u64 (d : Nat)) := (cell_of_row _ _ _ _ _ _ hV.out).trans rfl
          have c4 : wr.cell? ⟨wo.heap.size, 4, none⟩ = some (.int .u64 (e : Nat)) := (cell_of_row _ _ _ _ _ _ hV.out).trans rfl
          have c5 : wr.cell? ⟨wo.heap.size, 5, none⟩ = some (.int .u64 (f : Nat)) := (cell_of_row _ _ _ _ _ _ hV.out).trans rfl
          have c6 : wr.cell? ⟨wo.heap.size, 6, none⟩ = some (.int .u64 (g : Nat)) := (cell_of_row _ _ _ _ _ _ hV.out).trans rfl
          have c7 : wr.cell? ⟨wo.heap.size, 7, none⟩ = some (.int .u64 (i0 : Nat)) := (cell_of_row _ _ _ _ _ _ hV.out).trans rfl
          have hwt := HLt.out t
          have hkt := kw_lt t
          have hN : Sh.rnds L (t + 1) (hvs x0 x1 x2 x3 x4 x5 x6 x7) = hvs (Sh.ad (Sh.t1 e f g i0 (Sh.kw.getD t 0) (L.getD t 0)) (Sh.t2 a b c)) a b c (Sh.ad d (Sh.t1 e f g i0 (Sh.kw.getD t 0) (L.getD t 0))) e f g := by
            rw [Sh.rnds, hRn.out]; rfl
          have HNN := Lib.hid hN
          clear hN
          generalize L.getD t 0 = wt at *
          generalize Sh.kw.getD t 0 = kt at *
          have hdt : decide ((t : Int) < 80) = true := by simp; omega
          have R1 : Hid (∀ W, Calls Tryd.prog 34 #[.int .u64 (e : Nat), .int .i64 14] W fun e' w' => e' = .returned (.int .u64 ((Sh.rr e 14 : Nat) : Int)) ∧ ∃ m, w' = W.drewN m) := Lib.hid (fun W => turn_any e 14 W he (by omega) (by omega))
          have R2 : Hid (∀ W, Calls Tryd.prog 34 #[.int .u64 (e : Nat), .int .i64 18] W fun e' w' => e' = .returned (.int .u64 ((Sh.rr e 18 : Nat) : Int)) ∧ ∃ m, w' = W.drewN m) := Lib.hid (fun W => turn_any e 18 W he (by omega) (by omega))
          have R3 : Hid (∀ W, Calls Tryd.prog 34 #[.int .u64 (e : Nat), .int .i64 41] W fun e' w' => e' = .returned (.int .u64 ((Sh.rr e 41 : Nat) : Int)) ∧ ∃ m, w' = W.drewN m) := Lib.hid (fun W => turn_any e 41 W he (by omega) (by omega))
          have R4 : Hid (∀ W, Calls Tryd.prog 34 #[.int .u64 (a : Nat), .int .i64 28] W fun e' w' => e' = .returned (.int .u64 ((Sh.rr a 28 : Nat) : Int)) ∧ ∃ m, w' = W.drewN m) := Lib.hid (fun W => turn_any a 28 W ha (by omega) (by omega))
          have R5 : Hid (∀ W, Calls Tryd.prog 34 #[.int .u64 (a : Nat), .int .i64 34] W fun e' w' => e' = .returned (.int .u64 ((Sh.rr a 34 : Nat) : Int)) ∧ ∃ m, w' = W.drewN m) := Lib.hid (fun W => turn_any a 34 W ha (by omega) (by omega))
          have R6 : Hid (∀ W, Calls Tryd.prog 34 #[.int .u64 (a : Nat), .int .i64 39] W fun e' w' => e' = .returned (.int .u64 ((Sh.rr a 39 : Nat) : Int)) ∧ ∃ m, w' = W.drewN m) := Lib.hid (fun W => turn_any a 39 W ha (by omega) (by omega))
          go_wp2_with fail
          go_quiet ((go_at_call 34; with_reducible (first | refine (R1.out _).mono ?_ | refine (R2.out _).mono ?_ | refine (R3.out _).mono ?_ | refine (R4.out _).mono ?_ | refine (R5.out _).mono ?_ | refine (R6.out _).mono ?_); rintro _ _ ⟨rfl, nd, rfl⟩; (first | exact ⟨rfl, _, World.drewN_drewN _ _ _⟩ | exact ⟨rfl, _, rfl⟩ | exact ⟨rfl, _, Eq.trans (World.drewN_drewN _ _ _) (congrArg (World.drewN _) (Nat.add_assoc _ _ _))⟩)))
          rw [t1_eq e f g i0 kt wt he hf hg]
          have hT1 := t1_lt e f g i0 kt wt
          generalize Sh.t1 e f g i0 kt wt = T1 at *
          go_wp2_with fail
          go_quiet ((go_at_call 34; with_reducible (first | refine (R1.out _).mono ?_ | refine (R2.out _).mono ?_ | refine (R3.out _).mono ?_ | refine (R4.out _).mono ?_ | refine (R5.out _).mono ?_ | refine (R6.out _).mono ?_); rintro _ _ ⟨rfl, nd, rfl⟩; (first | exact ⟨rfl, _, World.drewN_drewN _ _ _⟩ | exact ⟨rfl, _, rfl⟩ | exact ⟨rfl, _, Eq.trans (World.drewN_drewN _ _ _) (congrArg (World.drewN _) (Nat.add_assoc _ _ _))⟩)))
          rw [t2_eq a b c ha hb hc]
          have hT2 := t2_lt a b c
          generalize Sh.t2 a b c = T2 at *
          rw [World.drewN_drewN]
          generalize hq : World.drewN wr _ = wd
          have hBd : Hid (Below wo.heap.size wo wd) := Lib.hid (by rw [← hq]; exact drewN_below hBe.out _)
          have hVd : Hid (wd.heap[wo.heap.size]? = some (.cells (wv (shf (hvs a b c d e f g i0) 7)).toArray 26)) := Lib.hid (by rw [← hq, shf_seven]; exact hV.out)
          clear hq c0 c1 c2 c3 c4 c5 c6 c7 ck cw' R1 R2 R3 R4 R5 R6 hBe hV
          go_wp2_with fail
          go_loopw [19] (fun i w3 => ∃ j : Nat, j ≤ 7 ∧ i = .int .i64 j ∧ Hid (Below wo.heap.size wo w3) ∧ Hid (w3.heap[wo.heap.size]? = some (.cells (wv (shf (hvs a b c d e f g i0) j)).toArray 26))) (fun i _ => (intOf i).toNat)
          case atStart => exact ⟨7, Nat.le_refl _, rfl, hBd, hVd⟩
          case round =>
            obtain ⟨j, hj, rfl, hB3, hV3⟩ := hrel
            by_cases hj0 : 0 < j
            · obtain ⟨y, z, hy, hz, hset⟩ := shf_step a b c d e f g i0 j hj0 hj
              have cy : wr.cell? ⟨wo.heap.size, j - 1, none⟩ = some (.int .u64 (y : Nat)) := (cell_of_row _ _ _ _ _ _ hV3.out).trans hy
              have cz : wr.cell? ⟨wo.heap.size, j, none⟩ = some (.int .u64 (z : Nat)) := (cell_of_row _ _ _ _ _ _ hV3.out).trans hz
              have cf : wr.frozen? ⟨wo.heap.size, j, none⟩ = false := frozen_of_row _ _ _ _ _ hV3.out
              have HSet := Lib.hid (set1 hV3.out hset)
              clear hy hz hset
              go_wp2_with fail
              go_roundw
              case rel => exact ⟨j - 1, by omega, by go_num, Lib.hid (hB3.out.setCell (Nat.le_refl _) _), HSet⟩
              case measure => simp [intOf]; omega
            · obtain rfl : j = 0 := by omega
              have hV4 := hV3.out
              rw [shf_zero] at hV4
              have HV4 := Lib.hid hV4
              have c0 : wr.cell? ⟨wo.heap.size, 0, none⟩ = some (.int .u64 (a : Nat)) := (cell_of_row _ _ _ _ _ _ hV4).trans rfl
              have c4 : wr.cell? ⟨wo.heap.size, 4, none⟩ = some (.int .u64 (d : Nat)) := (cell_of_row _ _ _ _ _ _ hV4).trans rfl
              have f0 : wr.frozen? ⟨wo.heap.size, 0, none⟩ = false := frozen_of_row _ _ _ _ _ hV4
              have f4 : wr.frozen? ⟨wo.heap.size, 4, none⟩ = false := frozen_of_row _ _ _ _ _ hV4
              clear hV4 hV3
              go_wp2_with fail
              go_roundw
              case rel =>
                refine ⟨t + 1, Sh.ad T1 T2, a, b, c, Sh.ad d T1, e, f, g, by omega, by go_num, Lib.hid ((hB3.out.setCell (Nat.le_refl _) _).setCell (Nat.le_refl _) _), HNN, ⟨Sh.ad_lt _ _, ha, hb, hc, Sh.ad_lt _ _, he, hf, hg⟩, Lib.hid ?_⟩
                rw [ad_eq, ad_eq]
                exact set1 (set1 HV4.out rfl) rfl
              case measure => simp [intOf]; omega
        · obtain rfl : t = 80 := by omega
          have hrowm := Lib.hid ((hBe.out.block w.heap.size (by omega)).trans hrow3.out)
          have hrowz := Lib.hid ((hBe.out.block (w.heap.size + 1) (by omega)).trans hrow6.out)
          have hBw := Lib.hid (below_step hB.out hBe.out)
          have hl2 : (hvs a b c d e f g i0).length = (hvs x0 x1 x2 x3 x4 x5 x6 x7).length := rfl
          go_wp2_with fail
          go_loopw [20] (fun i w2 => ∃ t : Nat, t ≤ 8 ∧ i = .int .i64 t ∧ Hid (Below w.heap.size w w2) ∧ Hid (w2.heap[w.heap.size]? = some (.cells (wv (zs (hvs x0 x1 x2 x3 x4 x5 x6 x7) (hvs a b c d e f g i0) t)).toArray 26)) ∧
            Hid (w2.heap[wo.heap.size]? = some (.cells (wv (hvs a b c d e f g i0)).toArray 26)) ∧ Hid (w2.heap[w.heap.size + 1]? = some (.cells #[.int .u64 0, .int .u64 0, .int .u64 0, .int .u64 0, .int .u64 0, .int .u64 0, .int .u64 0, .int .u64 0] 26))) (fun i _ => 8 - (intOf i).toNat)
          case atStart => exact ⟨0, by omega, rfl, hBw, Lib.hid (by rw [zs_zero]; exact hrowm.out), hV, hrowz⟩
          case round =>
            obtain ⟨t, ht8, rfl, hG, hX, hV2, hZ⟩ := hrel
            by_cases hlt8 : t < 8
            · have cx : wr.cell? ⟨w.heap.size, t, none⟩ = some (.int .u64 ((hvs x0 x1 x2 x3 x4 x5 x6 x7).getD t 0 : Nat)) := (cell_of_row _ _ _ _ _ _ hX.out).trans (wv_get _ _ _ (zs_get _ _ hl2 t hlt8))
              have cv : wr.cell? ⟨wo.heap.size, t, none⟩ = some (.int .u64 ((hvs a b c d e f g i0).getD t 0 : Nat)) := (cell_of_row _ _ _ _ _ _ hV2.out).trans (wv_get _ _ _ (by
                rw [List.getD_eq_getElem?_getD, List.getElem?_eq_getElem (show t < (hvs a b c d e f g i0).length from hlt8)]; rfl))
              have cz : wr.frozen? ⟨w.heap.size, t, none⟩ = false := frozen_of_row _ _ _ _ _ hX.out
              have hs1 := wv_set (zs (hvs x0 x1 x2 x3 x4 x5 x6 x7) (hvs a b c d e f g i0) t) t (Sh.ad ((hvs x0 x1 x2 x3 x4 x5 x6 x7).getD t 0) ((hvs a b c d e f g i0).getD t 0))
              rw [zs_step _ _ hl2 t hlt8] at hs1
              have HS := Lib.hid hs1
              clear hs1
              generalize (hvs x0 x1 x2 x3 x4 x5 x6 x7).getD t 0 = p at *
              generalize (hvs a b c d e f g i0).getD t 0 = q at *
              go_wp2_with fail
              go_region
              rw [ad_eq]
              go_wp2_with fail
              go_roundw
              case rel =>
                refine ⟨t + 1, by omega, by go_num, Lib.hid ?_, Lib.hid ?_, Lib.hid ?_, Lib.hid ?_⟩
                · exact below_drew (hG.out.setCell (Nat.le_refl _) _)
                · exact set1 hX.out HS.out
                · exact (heap_setCell_other wr ⟨w.heap.size, t, none⟩ wo.heap.size _ (by simp; omega)).trans hV2.out
                · exact (heap_setCell_other wr ⟨w.heap.size, t, none⟩ (w.heap.size + 1) _ (by simp)).trans hZ.out
              case measure => simp [intOf]; omega
            · obtain rfl : t = 8 := by omega
              have hsz8 : (zs (hvs x0 x1 x2 x3 x4 x5 x6 x7) (hvs a b c d e f g i0) 8).length = 8 := zs_length _ _ hl2 8 (Nat.le_refl _)
              have hc8 : (wv (zs (hvs x0 x1 x2 x3 x4 x5 x6 x7) (hvs a b c d e f g i0) 8)).toArray.size = 8 := by simp [wv, hsz8]
              have ho8 : (wv (zs (hvs x0 x1 x2 x3 x4 x5 x6 x7) (hvs a b c d e f g i0) 8)).toArray.all (·.oneCell') = true := by simp [wv]; intro _ _; rfl
              have hend : zs (hvs x0 x1 x2 x3 x4 x5 x6 x7) (hvs a b c d e f g i0) 8 = List.zipWith Sh.ad (hvs x0 x1 x2 x3 x4 x5 x6 x7) (hvs a b c d e f g i0) := zs_end _ _ hl2
              have HEnd := Lib.hid hend
              have HC8 := Lib.hid hc8
              have HO8 := Lib.hid ho8
              clear hsz8 hc8 ho8 hend
              generalize zs (hvs x0 x1 x2 x3 x4 x5 x6 x7) (hvs a b c d e f g i0) 8 = Z at *
              go_wp2_with (first
                | (refine wpList_load_row rfl 26 _ rfl w.heap.size rfl 26 _ (0, 0) (.array 8 25) hX.out (by kernel_rfl) rfl (by rw [hi26, HC8.out]) ?_)
                | (refine wpList_store_row rfl 26 _ _ rfl (w.heap.size + 1) _ rfl rfl 26 _ hZ.out (by rw [hi26, HC8.out]) (by rw [HC8.out]; rfl) HO8.out ?_))
              refine bodyPost_ret (results_cell_row rfl _ _ (w.heap.size + 1) 26 _ (0, 0) (.array 8 25) rfl (setRow_heap _ _ _ _ _ _ hZ.out) (by kernel_rfl) rfl (by rw [hi26, HC8.out])) rfl ?_
              refine ⟨?_, below_setRow hG.out (by omega) _⟩
              rw [HEnd.out, hRn.out]
end Go.Proofs.YtjlmhndfpfgfkaaDoor.E
