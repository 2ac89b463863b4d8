/- merged texts: Sd Se Sf Sg Sh So -/
import Derived.Test.YtgcflmhlegagbaaGreatDoorQ3
import Derived.Test.YtgcflmhlegagbaaGreatDoorQw
import Derived.Deep.DeepCutAuto
import Derived.Deep.CutBlock
import Derived.Deep.RegionWith
import Derived.StillTailTactics
section
set_option linter.unusedVariables false
set_option linter.unusedSimpArgs false
namespace Go.Proofs.YtgcflmhlegagbaaGreatDoor.K
open Go.RowKit Go.Proofs.YtgcflmhlegagbaaGreatDoorW.PrintWords Go.Proofs.YtgcflmhlegagbaaGreatDoorW.PrintLast Go.Proofs.YtgcflmhlegagbaaGreatDoorW.PrintMore
attribute [local go_sem] max2_int min2_int max_two min_two
open S (mkB be num)
theorem pow_lt64 (k : Nat) (h : k ≤ 31) : 2 ^ k < 4294967296 ∧ 2 ^ k ≤ 2147483648 ∧ 0 < 2 ^ k := by
  have h1 : 2 ^ k ≤ 2 ^ 31 := Nat.pow_le_pow_right (by decide) h
  have h2 : (2 : Nat) ^ 31 = 2147483648 := by decide
  have h3 : 0 < 2 ^ k := Nat.pow_pos (by decide)
  omega
theorem rr_add (x n : Nat) (hx : x < 4294967296) (h1 : 1 ≤ n) (h2 : n ≤ 31) : Sh.rr x n = x / 2 ^ n + (x % 2 ^ n) * 2 ^ (32 - n) := by
  have e : 2 ^ n * 2 ^ (32 - n) = 4294967296 := by
    rw [← Nat.pow_add, show n + (32 - n) = 32 from by omega]
  have hq : x / 2 ^ n < 2 ^ (32 - n) := by
    rw [Nat.div_lt_iff_lt_mul (Nat.pow_pos (by decide)), Nat.mul_comm, e]; exact hx
  have hm : (x * 2 ^ (32 - n)) % 4294967296 = (x % 2 ^ n) * 2 ^ (32 - n) := by
    rw [← e, Nat.mul_mod_mul_right]
  unfold Sh.rr
  rw [hm]
  have := Nat.shiftLeft_add_eq_or_of_lt hq (x % 2 ^ n)
  rw [Nat.shiftLeft_eq] at this
  rw [← this]
  exact Nat.add_comm _ _
def p2 (k : Nat) : Nat := 2 ^ k
def dv (x k : Nat) : Nat := x / 2 ^ k
theorem p2_b (k : Nat) (h : k ≤ 31) : p2 k < 4294967296 ∧ p2 k ≤ 2147483648 ∧ 0 < p2 k := pow_lt64 k h
theorem p2_s (k : Nat) : p2 (k + 1) = 2 * p2 k := by unfold p2; rw [Nat.pow_succ]; omega
theorem dv_b (x k : Nat) (h : x < 4294967296) : dv x k < 4294967296 := Sh.div_lt x _ h
theorem dv_s (x k : Nat) : dv x (k + 1) = dv x k / 2 := by unfold dv; rw [Nat.pow_succ, Nat.div_div_eq_div_mul]
attribute [local irreducible] p2 dv
set_option maxHeartbeats 1000000 in
set_option maxRecDepth 100000 in
theorem move_any (x n : Nat) (w : World) (hx : x < 4294967296) (h2 : n ≤ 31) :
    Calls Tryz.prog 148 #[.int .u32 x, .int .i64 n] w fun e w' => e = .returned (.int .u32 (dv x n : Nat)) ∧ w' = w := by
  go_enter Tryz.func148, Tryz.ntmps148
  go_wp2
  go_loop [0, 5] (fun v i => ∃ k : Nat, k ≤ n ∧ i = .int .i64 k ∧ v = .int .u32 (dv x k : Nat)) (fun _ i => n - (intOf i).toNat)
  case atStart => exact ⟨0, Nat.zero_le _, rfl, by unfold dv; simp⟩
  case round =>
    obtain ⟨k, hk, rfl, rfl⟩ := hrel
    have hd := dv_b x k hx
    by_cases hlt : k < n
    · have HS := Lib.hid (dv_s x k)
      generalize dv x k = y at *
      go_wp2
      go_round
      case rel => exact ⟨k + 1, by omega, by go_num, by rw [HS.out]; rfl⟩
      case measure => simp [intOf]; omega
    · obtain rfl : k = n := by omega
      go_wp2
      go_ret
      exact ⟨rfl, rfl⟩
set_option maxHeartbeats 1000000 in
set_option maxRecDepth 100000 in
theorem turn_any (x n : Nat) (w : World) (hx : x < 4294967296) (h1 : 1 ≤ n) (h2 : n ≤ 31) :
    Calls Tryz.prog 147 #[.int .u32 x, .int .i64 n] w fun e w' => e = .returned (.int .u32 ((Sh.rr x n : Nat) : Int)) ∧ ∃ m, w' = w.drewN m := by
  have hrr : Sh.rr x n = x / p2 n + (x % p2 n) * p2 (32 - n) := by unfold p2; exact rr_add x n hx h1 h2
  have hrl := Sh.rr_lt x n hx
  have hp := p2_b n h2
  generalize Sh.rr x n = r at *
  have HR := Lib.hid hrr
  clear hrr
  go_enter Tryz.func147, Tryz.ntmps147
  go_wp2_with fail
  go_loop [5, 6] (fun v i => ∃ k : Nat, k ≤ n ∧ i = .int .i64 k ∧ v = .int .u32 (p2 k : Nat)) (fun _ i => n - (intOf i).toNat)
  case atStart => exact ⟨0, Nat.zero_le _, rfl, by unfold p2; rfl⟩
  case round =>
    obtain ⟨k, hk, rfl, rfl⟩ := hrel
    by_cases hlt : k < n
    · have hb := p2_b k (by omega)
      have hb1 := p2_b (k + 1) (by omega)
      rw [p2_s] at hb1
      have HS := Lib.hid (p2_s k)
      generalize p2 k = y at *
      go_wp2
      go_round
      case rel => exact ⟨k + 1, by omega, by go_num, by rw [HS.out]; go_num⟩
      case measure => simp [intOf]; omega
    · obtain rfl : k = n := by omega
      go_wp2_with fail
      go_loop [7, 8] (fun v i => ∃ j : Nat, k ≤ j ∧ j ≤ 32 ∧ i = .int .i64 j ∧ v = .int .u32 (p2 (j - k) : Nat)) (fun _ i => 32 - (intOf i).toNat)
      case atStart => exact ⟨k, Nat.le_refl _, by omega, rfl, by rw [Nat.sub_self]; unfold p2; rfl⟩
      case round =>
        obtain ⟨j, hj, hj2, rfl, rfl⟩ := hrel
        by_cases hlt2 : j < 32
        · have hb := p2_b (j - k) (by omega)
          have hb1 := p2_b (j + 1 - k) (by omega)
          have hs := p2_s (j - k)
          rw [show j - k + 1 = j + 1 - k from by omega] at hs
          rw [hs] at hb1
          have HS := Lib.hid hs
          clear hs
          generalize p2 (j - k) = y at *
          go_wp2
          go_round
          case rel => exact ⟨j + 1, by omega, by omega, by go_num, by rw [HS.out]; go_num⟩
          case measure => simp [intOf]; omega
        · obtain rfl : j = 32 := by omega
          have hb := p2_b (32 - k) (by omega)
          generalize p2 (32 - k) = q at *
          generalize p2 k = p at *
          have hm := Nat.mod_lt x hp.2.2
          have hd : x / p < 4294967296 := Sh.div_lt x _ hx
          have hE : ((x : Int) / (p : Int) % 4294967296 + (x : Int) % (p : Int) * (q : Int) % 4294967296) % 4294967296 = (r : Int) := by
            have hr := HR.out
            rw [show (x : Int) / (p : Int) = ((x / p : Nat) : Int) from by simp, show (x : Int) % (p : Int) * (q : Int) = ((x % p * q : Nat) : Int) from by simp]
            generalize x / p = A at *
            generalize x % p * q = B at *
            omega
          have HE := Lib.hid hE
          clear hE
          go_wp2_with fail
          go_quiet (fail)
          rw [HE.out]
          go_wp2_with fail
          go_ret
          exact ⟨rfl, _, rfl⟩
end Go.Proofs.YtgcflmhlegagbaaGreatDoor.K
end
section
set_option linter.unusedVariables false
set_option linter.unusedSimpArgs false
namespace Go.Proofs.YtgcflmhlegagbaaGreatDoor.K
open Go.RowKit Go.Proofs.YtgcflmhlegagbaaGreatDoorW.PrintWords Go.Proofs.YtgcflmhlegagbaaGreatDoorW.PrintLast Go.Proofs.YtgcflmhlegagbaaGreatDoorW.PrintMore
attribute [local go_sem] max2_int min2_int max_two min_two
open S (mkB be num)
theorem info144 : (Tryz.prog.info? 144).map (fun i => (i.zero, i.size, i.bytes)) = some (some (.int .u32 0), 1, 4) := by kernel_rfl
/-- the constants, in a row of the reference's own. -/
def KeysAt (b : Nat) (w : World) : Prop := b < w.heap.size ∧ ∀ j, j < 64 → w.cell? ⟨b, j, none⟩ = some (.int .u32 (Sh.kw.getD j 0 : Nat))
theorem keysAt_below {b : Nat} {w w' : World} (h : Below w.heap.size w w') (hK : KeysAt b w) : KeysAt b w' := by
  refine ⟨Nat.lt_of_lt_of_le hK.1 h.size, fun j hj => ?_⟩
  rw [h.cell (by exact hK.1)]; exact hK.2 j hj
def ints (l : List Nat) : List Int := l.map Int.ofNat
theorem rd_ints (l : List Nat) (j : Nat) (h : j < l.length) : rd (ints l) (j : Int) = ((l.getD j 0 : Nat) : Int) := by
  simp [rd, ints, List.getD_eq_getElem?_getD, h]
theorem ints_snoc (l : List Nat) (x : Nat) : ints l ++ [(x : Int)] = ints (l ++ [x]) := by simp [ints]
theorem ints_length (l : List Nat) : (ints l).length = l.length := by simp [ints]
theorem take_succ_getD (l : List Nat) (t : Nat) (h : t < l.length) : l.take (t + 1) = l.take t ++ [l.getD t 0] := by
  rw [List.take_succ_eq_append_getElem h]; simp [List.getD_eq_getElem?_getD, h]
theorem take_getD' (l : List Nat) (t j : Nat) (h : j < t) : (l.take t).getD j 0 = l.getD j 0 := Sh.take_getD l t j h
theorem num_snoc_get (s : ByteArray) (t i : Nat) (h : 4 * t + i < s.size) : ((s.data.toList.drop (4 * t)).take (i + 1)) = ((s.data.toList.drop (4 * t)).take i) ++ [s[4 * t + i]] := by
  rw [List.take_succ_eq_append_getElem (by simp; omega)]
  simp
  rfl
theorem num_nil' : num [] = 0 := rfl
theorem ad31_eq (a b c d : Nat) : (((a : Int) + (b : Int) + (c : Int)) % 4294967296 + (d : Int)) % 4294967296 = ((Sh.ad (Sh.ad (Sh.ad a b) c) d : Nat) : Int) := by
  unfold Sh.ad
  omega
theorem ad_ref (a b c d : Nat) : Sh.ad (Sh.ad (Sh.ad a b) c) d = Sh.ad (Sh.ad (Sh.ad d c) b) a := by unfold Sh.ad; omega
theorem sg0_ref (a : Nat) (h : a < 4294967296) : bits .xor .u32 (bits .xor .u32 (Sh.rr a 7 : Nat) (Sh.rr a 18 : Nat)) (dv a 3 : Nat) = ((Sh.sg0 a : Nat) : Int) := by
  rw [xor_eq _ _ (Sh.rr_lt a 7 h) (Sh.rr_lt a 18 h), xor_eq _ _ (Sh.xor_lt _ _ (Sh.rr_lt a 7 h) (Sh.rr_lt a 18 h)) (dv_b a _ h)]
  unfold Sh.sg0 dv; rfl
theorem sg1_ref (a : Nat) (h : a < 4294967296) : bits .xor .u32 (bits .xor .u32 (Sh.rr a 17 : Nat) (Sh.rr a 19 : Nat)) (dv a 10 : Nat) = ((Sh.sg1 a : Nat) : Int) := by
  rw [xor_eq _ _ (Sh.rr_lt a 17 h) (Sh.rr_lt a 19 h), xor_eq _ _ (Sh.xor_lt _ _ (Sh.rr_lt a 17 h) (Sh.rr_lt a 19 h)) (dv_b a _ h)]
  unfold Sh.sg1 dv; rfl
def shf (L : List Nat) (j : Nat) : List Nat := L.take (j + 1) ++ (L.drop j).take (7 - j)
theorem shf_seven (a b c d e f g h : Nat) : shf (hvs a b c d e f g h) 7 = hvs a b c d e f g h := rfl
theorem shf_zero (a b c d e f g h : Nat) : shf (hvs a b c d e f g h) 0 = hvs a a b c d e f g := rfl
theorem shf_step (a b c d e f g h j : Nat) (h0 : 0 < j) (h7 : j ≤ 7) : ∃ y z : Nat, (wv (shf (hvs a b c d e f g h) j)).toArray[j - 1]? = some (.int .u32 (y : Nat)) ∧ (wv (shf (hvs a b c d e f g h) j)).toArray[j]? = some (.int .u32 (z : Nat)) ∧
    (wv (shf (hvs a b c d e f g h) j)).toArray.setIfInBounds j (.int .u32 (y : Nat)) = (wv (shf (hvs a b c d e f g h) (j - 1))).toArray := by
  have : j = 1 ∨ j = 2 ∨ j = 3 ∨ j = 4 ∨ j = 5 ∨ j = 6 ∨ j = 7 := by omega
  rcases this with rfl | rfl | rfl | rfl | rfl | rfl | rfl <;> exact ⟨_, _, rfl, rfl, rfl⟩
theorem wv_get (H : List Nat) (i x : Nat) (h : H[i]? = some x) : (wv H).toArray[i]? = some (.int .u32 (x : Nat)) := by
  simp [wv, h]
theorem wv_set (H : List Nat) (i x : Nat) : (wv H).toArray.setIfInBounds i (.int .u32 (x : Nat)) = (wv (H.set i x)).toArray := by
  simp [wv, List.map_set]
attribute [local irreducible] Sh.sched Sh.rr Sh.ad Sh.sg0 Sh.sg1 S.num Sh.kw Sh.t1 Sh.t2 Sh.nt Sh.comp Sh.blocks Sh.take Sh.tail p2 dv
set_option maxHeartbeats 4000000 in
set_option maxRecDepth 100000 in
theorem rmix_any (x0 x1 x2 x3 x4 x5 x6 x7 : Nat) (s : ByteArray) (Kb : Nat) (w : World) (hs : s.size = 64)
    (hx0 : x0 < 4294967296) (hx1 : x1 < 4294967296) (hx2 : x2 < 4294967296) (hx3 : x3 < 4294967296)
    (hx4 : x4 < 4294967296) (hx5 : x5 < 4294967296) (hx6 : x6 < 4294967296) (hx7 : x7 < 4294967296)
    (hK : KeysAt Kb w) :
    Calls Tryz.prog 140 #[.agg (wv (hvs x0 x1 x2 x3 x4 x5 x6 x7)).toArray, .string s, .slice (some ⟨Kb, 0, none⟩) 64 64] w fun e w' =>
      e = .returned (.agg (wv (Sh.comp (hvs x0 x1 x2 x3 x4 x5 x6 x7) s.data.toList)).toArray) ∧ Below w.heap.size w w' := by
  have hz8 : ∀ W, (zeroValue 145).run Tryz.prog W = .ok (.agg (#[.int .u32 0, .int .u32 0, .int .u32 0, .int .u32 0, .int .u32 0, .int .u32 0, .int .u32 0, .int .u32 0] : Array Value)) W := fun W => by kernel_rfl
  have hi145 : (Tryz.prog.info? 145).map (·.size) = some 8 := by kernel_rfl
  have hL := Sh.sched_length s.data.toList
  unfold Sh.comp
  generalize hLL : Sh.sched s.data.toList = L at *
  have HLL := Lib.hid hLL
  have HK := Lib.hid hK
  clear hLL hK
  rw [show (wv (hvs x0 x1 x2 x3 x4 x5 x6 x7)).toArray = #[.int .u32 (x0 : Nat), .int .u32 (x1 : Nat), .int .u32 (x2 : Nat), .int .u32 (x3 : Nat), .int .u32 (x4 : Nat), .int .u32 (x5 : Nat), .int .u32 (x6 : Nat), .int .u32 (x7 : Nat)] from rfl]
  go_enter Tryz.func140, Tryz.ntmps140
  go_wp2_with (first
    | ((with_reducible refine gate_dst (N := 21) rfl ?_)
       refine Kd.R_lit (Kd.int .u32) (w0 := w) w.heap.size 144 ?hg (N := 21) ?hd (xs := ([] : List Int)) (inner := []) (ok := fun k => w.heap.size + 2 ≤ k) (okp := fun _ => False) ?hr ?hp (fun _ hk => hk.elim) ?hf ?hb ?hs (Nat.zero_le _) ?_
       (case hd => rfl); (case hg => rfl); (case hr => first | (go_simp; done) | (go_simp; rfl)); (case hp => exact (Reps.none _ _)); (case hf => simp); (case hb => exact (((Below.refl _ _).alloc (Nat.le_refl _) _).alloc (by simp) _)); (case hs => simp; omega)
       intro v21 w4 hR4 hb4 hg4 hnew4))
  have hr3 := Lib.hid ((hg4.block w.heap.size (by simp; omega) (by simp)).trans (heap_alloc2_old w _ _))
  have hr6 := Lib.hid ((hg4.block (w.heap.size + 1) (by simp) (by simp)).trans (heap_alloc2_new w _ _))
  have hs4 : w.heap.size + 2 ≤ w4.heap.size := by have := hg4.size; simp at this; omega
  have HR4 := Lib.hid hR4
  have HB4 := Lib.hid hb4
  clear hR4 hb4 hg4 hnew4
  go_loopw [7, 8] (fun v i wr => ∃ (t : Nat) (vq : Value), vq = v ∧ t ≤ 64 ∧ i = .int .i64 t ∧ Hid (Kd.R (Kd.int .u32) 144 wr w.heap.size (fun k => w.heap.size + 2 ≤ k) vq (ints (L.take t))) ∧ Hid (Below w.heap.size w wr) ∧ w.heap.size + 2 ≤ wr.heap.size ∧
      Hid (wr.heap[w.heap.size]? = some (.cells #[.int .u32 (x0 : Nat), .int .u32 (x1 : Nat), .int .u32 (x2 : Nat), .int .u32 (x3 : Nat), .int .u32 (x4 : Nat), .int .u32 (x5 : Nat), .int .u32 (x6 : Nat), .int .u32 (x7 : Nat)] 145)) ∧
      Hid (wr.heap[w.heap.size + 1]? = some (.cells #[.int .u32 0, .int .u32 0, .int .u32 0, .int .u32 0, .int .u32 0, .int .u32 0, .int .u32 0, .int .u32 0] 145))) (fun _ i _ => 64 - (intOf i).toNat)
  case atStart => exact ⟨0, _, rfl, Nat.zero_le _, rfl, HR4, HB4, hs4, hr3, hr6⟩
  case round =>
    obtain ⟨t, vw, rfl, ht, rfl, hR, hB, hsz, hrow3, hrow6⟩ := hrel
    have hts := take_succ_getD L t
    have hlt' : (L.take t).length ≤ 64 := by rw [List.length_take]; omega
    by_cases hlt : t < 64
    · replace hts := hts (by omega)
      by_cases h16 : t < 16
      · have hlow := Sh.sched_low s.data.toList t h16
        rw [HLL.out] at hlow
        rw [hlow] at hts
        have HTS := Lib.hid hts
        clear hts hlow
        have hd1 : decide ((t : Int) < 64) = true := by simp; omega
        have hd2 : decide ((t : Int) < 16) = true := by simp; omega
        go_wp2_with fail
        go_loop [9, 10] (fun v i => ∃ j : Nat, j ≤ 4 ∧ i = .int .i64 j ∧ v = .int .u32 ((num ((s.data.toList.drop (4 * t)).take j) : Nat) : Int)) (fun _ i => 4 - (intOf i).toNat)
        case atStart => exact ⟨0, by omega, rfl, by rw [List.take_zero, num_nil']; rfl⟩
        case round =>
          obtain ⟨j, hj, rfl, rfl⟩ := hrel
          by_cases hj8 : j < 4
          · have hns := num_snoc_get s t j (by omega)
            have hn := num_le ((s.data.toList.drop (4 * t)).take j) 3 (Nat.le_trans (List.length_take_le _ _) (by omega))
            have hc : s[4 * t + j].toNat < 256 := s[4 * t + j].toNat_lt
            have HNS := Lib.hid hns
            clear hns
            generalize hm : num ((s.data.toList.drop (4 * t)).take j) = mm at *
            have HM := Lib.hid hm
            clear hm
            have e7 : (256 : Nat) ^ 3 = 16777216 := by decide
            rw [e7] at hn
            clear e7
            have b1 : 4 * t + j < s.size := by omega
            go_wp2_with fail
            go_round
            case rel => exact ⟨j + 1, by omega, by go_num, by rw [HNS.out, S.num_snoc, HM.out]; go_num⟩
            case measure => simp [intOf]; omega
          · obtain rfl : j = 4 := by omega
            generalize num ((s.data.toList.drop (4 * t)).take 4) = y at *
            go_wp2_with (at_builtin
                         refine Kd.R_append (Kd.int .u32) (w0 := w) w.heap.size rfl (.tmp 81) (.tmp 83) 173 144 (.int .u32 0) 4 rfl Tryz.underlying173 info144 rfl (by decide) (by decide) vw (ints (L.take t)) (y : Int) [.int .u32 (y : Int)] (fun k => w.heap.size + 2 ≤ k) (fun _ => False) rfl rfl rfl (fun _ h => h.elim) (fun k hk => Nat.le_trans hsz hk) hR.out hB.out hB.out.size (by rw [ints_length]; omega) ?_
                         intro v7 w5 hR5 hb5 hg5 hnew5
                         rw [ints_snoc, ← HTS.out] at hR5
                         have HR5 := Lib.hid hR5
                         have HB5 := Lib.hid hb5
                         have hs5 := hg5.size
                         have hr35 := Lib.hid ((hg5.block w.heap.size (by omega) (fun e => absurd (hR.out.1 _ e.symm) (by omega))).trans hrow3.out)
                         have hr65 := Lib.hid ((hg5.block (w.heap.size + 1) (by omega) (fun e => absurd (hR.out.1 _ e.symm) (by omega))).trans hrow6.out)
                         clear hR5 hb5 hg5 hnew5)
            go_roundw
            case rel => exact ⟨t + 1, _, rfl, by omega, by go_num, HR5, HB5, by omega, hr35, hr65⟩
            case measure => simp [intOf]; omega
      · have hhigh := Sh.sched_high s.data.toList t (by omega) hlt
        rw [HLL.out] at hhigh
        have la : ∀ j, L.getD j 0 < 4294967296 := fun j => by rw [← HLL.out]; exact Sh.sched_lt _ _
        have Ha := la (t - 15)
        have Hb := la (t - 2)
        have Hc := la (t - 16)
        have Hd := la (t - 7)
        have hlen : (ints (L.take t)).length = t := by rw [ints_length, List.length_take]; omega
        obtain ⟨Aw, cw, rfl, hcw, hC⟩ := Kd.R_reads hR.out
        have hcell : ∀ j, j < t → ∃ ad, Aw = some ad ∧ wr.cell? (ad.add j) = some (.int .u32 (L.getD j 0 : Nat)) := by
          intro j hj
          obtain ⟨ad, hA, hc⟩ := Kd.at_int hC (j : Int) (by omega) (by rw [hlen]; omega)
          rw [rd_ints _ _ (by rw [List.length_take]; omega), take_getD' _ _ _ hj, Int.toNat_natCast] at hc
          exact ⟨ad, hA, hc⟩
        obtain ⟨ad, rfl, ca⟩ := hcell (t - 15) (by omega)
        obtain ⟨ad2, e2, cb⟩ := hcell (t - 2) (by omega)
        obtain ⟨ad3, e3, cc⟩ := hcell (t - 16) (by omega)
        obtain ⟨ad4, e4, cd⟩ := hcell (t - 7) (by omega)
        injection e2 with e2
        injection e3 with e3
        injection e4 with e4
        subst e2 e3 e4
        have HTS := Lib.hid hts
        have HH := Lib.hid hhigh
        clear hts hhigh la hcell hC
        generalize L.getD (t - 15) 0 = a at *
        generalize L.getD (t - 2) 0 = b at *
        generalize L.getD (t - 16) 0 = c at *
        generalize L.getD (t - 7) 0 = d at *
        have R1 : Hid (∀ W, Calls Tryz.prog 147 #[.int .u32 (a : Nat), .int .i64 7] W fun e w' => e = .returned (.int .u32 ((Sh.rr a 7 : Nat) : Int)) ∧ ∃ m, w' = W.drewN m) := Lib.hid (fun W => turn_any a 7 W Ha (by omega) (by omega))
        have R2 : Hid (∀ W, Calls Tryz.prog 147 #[.int .u32 (a : Nat), .int .i64 18] W fun e w' => e = .returned (.int .u32 ((Sh.rr a 18 : Nat) : Int)) ∧ ∃ m, w' = W.drewN m) := Lib.hid (fun W => turn_any a 18 W Ha (by omega) (by omega))
        have R3 : Hid (∀ W, Calls Tryz.prog 147 #[.int .u32 (b : Nat), .int .i64 17] W fun e w' => e = .returned (.int .u32 ((Sh.rr b 17 : Nat) : Int)) ∧ ∃ m, w' = W.drewN m) := Lib.hid (fun W => turn_any b 17 W Hb (by omega) (by omega))
        have R4 : Hid (∀ W, Calls Tryz.prog 147 #[.int .u32 (b : Nat), .int .i64 19] W fun e w' => e = .returned (.int .u32 ((Sh.rr b 19 : Nat) : Int)) ∧ ∃ m, w' = W.drewN m) := Lib.hid (fun W => turn_any b 19 W Hb (by omega) (by omega))
        have R5 : Hid (∀ W, Calls Tryz.prog 148 #[.int .u32 (a : Nat), .int .i64 3] W fun e w' => e = .returned (.int .u32 (dv a 3 : Nat)) ∧ w' = W) := Lib.hid (fun W => move_any a 3 W Ha (by omega))
        have R6 : Hid (∀ W, Calls Tryz.prog 148 #[.int .u32 (b : Nat), .int .i64 10] W fun e w' => e = .returned (.int .u32 (dv b 10 : Nat)) ∧ w' = W) := Lib.hid (fun W => move_any b 10 W Hb (by omega))
        have hlen' := Lib.hid hlen
        rw [hlen] at hR ⊢
        go_wp2_with fail
        have q7 : IntKind.i64.wrap ((t : Int) - 7) = (t : Int) - 7 := by simp [IntKind.wrap, IntKind.signed, IntKind.bits]; omega
        have q16 : IntKind.i64.wrap ((t : Int) - 16) = (t : Int) - 16 := by simp [IntKind.wrap, IntKind.signed, IntKind.bits]; omega
        have p7 : (0 : Int) ≤ (t : Int) - 7 := by omega
        have p7' : (7 : Int) ≤ (t : Int) := by omega
        have p16 : (0 : Int) ≤ (t : Int) - 16 := by omega
        have p16' : (16 : Int) ≤ (t : Int) := by omega
        have n7 : ((t : Int) - 7).toNat = t - 7 := by omega
        have n16 : ((t : Int) - 16).toNat = t - 16 := by omega
        have m7 : (t : Int) - 7 < (t : Int) := by omega
        have m16 : (t : Int) - 16 < (t : Int) := by omega
        go_quiet (first
          | (go_at_call 147; with_reducible (first | refine (R1.out _).mono ?_ | refine (R2.out _).mono ?_ | refine (R3.out _).mono ?_ | refine (R4.out _).mono ?_); rintro _ _ ⟨rfl, nd, rfl⟩; (first | exact ⟨rfl, _, World.drewN_drewN _ _ _⟩ | exact ⟨rfl, _, rfl⟩ | exact ⟨rfl, _, Eq.trans (World.drewN_drewN _ _ _) (congrArg (World.drewN _) (Nat.add_assoc _ _ _))⟩))
          | (go_at_call 148; with_reducible (first | refine (R5.out _).mono ?_ | refine (R6.out _).mono ?_); rintro _ _ ⟨rfl, rfl⟩; exact ⟨rfl, _, rfl⟩))
        rw [sg1_ref b Hb, sg0_ref a Ha, ad31_eq, ad_ref, ← HH.out]
        clear q7 q16 p7 p7' p16 p16' n7 n16 m7 m16 R1 R2 R3 R4 R5 R6 ca cb cc cd HH
        generalize L.getD t 0 = y at *
        have hR' := Kd.R_drewN hR.out nq
        have hB' := pw_below_drewN hB.out nq
        have hrow3' : (wr.drewN nq).heap[w.heap.size]? = _ := hrow3.out
        have hrow6' : (wr.drewN nq).heap[w.heap.size + 1]? = _ := hrow6.out
        have hsz' : w.heap.size + 2 ≤ (wr.drewN nq).heap.size := hsz
        generalize wr.drewN nq = wd at *
        have HR' := Lib.hid hR'
        have HB' := Lib.hid hB'
        have Hrow3' := Lib.hid hrow3'
        have Hrow6' := Lib.hid hrow6'
        clear hR' hB' hrow3' hrow6'
        go_wp2_with (at_builtin
                     refine Kd.R_append (Kd.int .u32) (w0 := w) w.heap.size rfl (.tmp 81) (.tmp 83) 173 144 (.int .u32 0) 4 rfl Tryz.underlying173 info144 rfl (by decide) (by decide) (.slice (some ad) t cw) (ints (L.take t)) (y : Int) [.int .u32 (y : Int)] (fun k => w.heap.size + 2 ≤ k) (fun _ => False) rfl rfl rfl (fun _ h => h.elim) (fun k hk => Nat.le_trans hsz' hk) HR'.out HB'.out HB'.out.size (by rw [hlen'.out]; omega) ?_
                     intro v7 w5 hR5 hb5 hg5 hnew5
                     rw [ints_snoc, ← HTS.out] at hR5
                     have HR5 := Lib.hid hR5
                     have HB5 := Lib.hid hb5
                     have hs5 := hg5.size
                     have hr35 := Lib.hid ((hg5.block w.heap.size (by omega) (fun e => absurd (HR'.out.1 _ e.symm) (by omega))).trans Hrow3'.out)
                     have hr65 := Lib.hid ((hg5.block (w.heap.size + 1) (by omega) (fun e => absurd (HR'.out.1 _ e.symm) (by omega))).trans Hrow6'.out)
                     clear hR5 hb5 hg5 hnew5)
        go_roundw
        case rel => exact ⟨t + 1, _, rfl, by omega, by go_num, HR5, HB5, by omega, hr35, hr65⟩
        case measure => simp [intOf]; omega
    · obtain rfl : t = 64 := by omega
      rw [List.take_of_length_le (show L.length ≤ 64 by omega)] at hR
      clear hts
      have hV0 := heap_alloc_new wr (.cells #[.int .u32 0, .int .u32 0, .int .u32 0, .int .u32 0, .int .u32 0, .int .u32 0, .int .u32 0, .int .u32 0] 145)
      obtain ⟨Aw, cw, rfl, hcw, hC⟩ := Kd.R_reads hR.out
      have hl0 : (ints L).length = 64 := by rw [ints_length, hL]
      have hl0' := Lib.hid hl0
      rw [hl0] at hC hcw ⊢
      go_wp2_with (first
        | (refine wpList_load_row rfl 145 _ rfl w.heap.size rfl 145 _ (0, 0) (.array 8 144) hrow3.out (by kernel_rfl) rfl (by rw [hi145]; rfl) ?_)
        | (refine wpList_store_row rfl 145 _ _ rfl wr.heap.size _ rfl rfl 145 _ hV0 (by rw [hi145]; rfl) rfl (by simp [Value.oneCell']) ?_))
      obtain ⟨W5, hW5, hB5, hrow5⟩ : ∃ W5, (wr.alloc (.cells #[.int .u32 0, .int .u32 0, .int .u32 0, .int .u32 0, .int .u32 0, .int .u32 0, .int .u32 0, .int .u32 0] 145)).setRow wr.heap.size #[.int .u32 (x0 : Nat), .int .u32 (x1 : Nat), .int .u32 (x2 : Nat), .int .u32 (x3 : Nat), .int .u32 (x4 : Nat), .int .u32 (x5 : Nat), .int .u32 (x6 : Nat), .int .u32 (x7 : Nat)] = W5 ∧
          Hid (Below wr.heap.size wr W5) ∧ Hid (W5.heap[wr.heap.size]? = some (.cells (wv (hvs x0 x1 x2 x3 x4 x5 x6 x7)).toArray 145)) :=
        ⟨_, rfl, Lib.hid (below_setRow ((Below.refl _ _).alloc (Nat.le_refl _) _) (Nat.le_refl _) _), Lib.hid (setRow_heap _ _ _ _ _ _ (heap_alloc_new _ _))⟩
      rw [hW5]
      clear hW5 hV0
      obtain ⟨ad, rfl, _⟩ := Kd.at_int hC (0 : Int) (by omega) (by decide)
      have HKr := Lib.hid (keysAt_below hB.out HK.out)
      have HC := Lib.hid hC
      have HL := Lib.hid hL
      clear hC hR hcw hL
      have hLt : ∀ j, L.getD j 0 < 4294967296 := fun j => by rw [← HLL.out]; exact Sh.sched_lt _ _
      have HLt := Lib.hid hLt
      clear hLt
      generalize hwo : wr = wo at *
      clear hwo
      go_loopw [14] (fun i w2 => ∃ (t a b c d e f g i0 : Nat), t ≤ 64 ∧ i = .int .i64 t ∧ Hid (Below wo.heap.size wo w2) ∧ Hid (Sh.rnds L t (hvs x0 x1 x2 x3 x4 x5 x6 x7) = hvs a b c d e f g i0) ∧
        (a < 4294967296 ∧ b < 4294967296 ∧ c < 4294967296 ∧ d < 4294967296 ∧ e < 4294967296 ∧ f < 4294967296 ∧ g < 4294967296 ∧ i0 < 4294967296) ∧
        Hid (w2.heap[wo.heap.size]? = some (.cells (wv (hvs a b c d e f g i0)).toArray 145))) (fun i _ => 64 - (intOf i).toNat)
      case atStart => exact ⟨0, x0, x1, x2, x3, x4, x5, x6, x7, by omega, rfl, hB5, Lib.hid rfl, ⟨hx0, hx1, hx2, hx3, hx4, hx5, hx6, hx7⟩, hrow5⟩
      case round =>
        obtain ⟨t, a, b, c, d, e, f, g, i0, ht, rfl, hBe, hRn, ⟨ha, hb, hc, hd, he, hf, hg, hh⟩, hV⟩ := hrel
        by_cases hlt : t < 64
        · obtain ⟨ad2, e2, cw'⟩ := Kd.at_int (Kd.C_below HC.out hBe.out) (t : Int) (by omega) (by omega)
          injection e2 with e2
          subst e2
          rw [rd_ints _ _ (by rw [HL.out]; exact hlt), Int.toNat_natCast] at cw'
          have ck : wr.cell? ⟨Kb, t, none⟩ = some (.int .u32 (Sh.kw.getD t 0 : Nat)) := (keysAt_below hBe.out HKr.out).2 t hlt
          have c0 : wr.cell? ⟨wo.heap.size, 0, none⟩ = some (.int .u32 (a : Nat)) := (cell_of_row _ _ _ _ _ _ hV.out).trans rfl
          have c1 : wr.cell? ⟨wo.heap.size, 1, none⟩ = some (.int .u32 (b : Nat)) := (cell_of_row _ _ _ _ _ _ hV.out).trans rfl
          have c2 : wr.cell? ⟨wo.heap.size, 2, none⟩ = some (.int .u32 (c : Nat)) := (cell_of_row _ _ _ _ _ _ hV.out).trans rfl
          have c3 : wr.cell? ⟨wo.heap.size, 3, none⟩ = some (.int .u32 (d : Nat)) := (cell_of_row _ _ _ _ _ _ hV.out).trans rfl
          have c4 : wr.cell? ⟨wo.heap.size, 4, none⟩ = some (.int .u32 (e : Nat)) := (cell_of_row _ _ _ _ _ _ hV.out).trans rfl
          have c5 : wr.cell? ⟨wo.heap.size, 5, none⟩ = some (.int .u32 (f : Nat)) := (cell_of_row _ _ _ _ _ _ hV.out).trans rfl
          have c6 : wr.cell? ⟨wo.heap.size, 6, none⟩ = some (.int .u32 (g : Nat)) := (cell_of_row _ _ _ _ _ _ hV.out).trans rfl
          have c7 : wr.cell? ⟨wo.heap.size, 7, none⟩ = some (.int .u32 (i0 : Nat)) := (cell_of_row _ _ _ _ _ _ hV.out).trans rfl
          have hwt := HLt.out t
          have hkt := kw_lt t
          have hN : Sh.rnds L (t + 1) (hvs x0 x1 x2 x3 x4 x5 x6 x7) = hvs (Sh.ad (Sh.t1 e f g i0 (Sh.kw.getD t 0) (L.getD t 0)) (Sh.t2 a b c)) a b c (Sh.ad d (Sh.t1 e f g i0 (Sh.kw.getD t 0) (L.getD t 0))) e f g := by
            rw [Sh.rnds, hRn.out]; rfl
          have HNN := Lib.hid hN
          clear hN
          generalize L.getD t 0 = wt at *
          generalize Sh.kw.getD t 0 = kt at *
          have hdt : decide ((t : Int) < 64) = true := by simp; omega
          have R1 : Hid (∀ W, Calls Tryz.prog 147 #[.int .u32 (e : Nat), .int .i64 6] W fun e' w' => e' = .returned (.int .u32 ((Sh.rr e 6 : Nat) : Int)) ∧ ∃ m, w' = W.drewN m) := Lib.hid (fun W => turn_any e 6 W he (by omega) (by omega))
          have R2 : Hid (∀ W, Calls Tryz.prog 147 #[.int .u32 (e : Nat), .int .i64 11] W fun e' w' => e' = .returned (.int .u32 ((Sh.rr e 11 : Nat) : Int)) ∧ ∃ m, w' = W.drewN m) := Lib.hid (fun W => turn_any e 11 W he (by omega) (by omega))
          have R3 : Hid (∀ W, Calls Tryz.prog 147 #[.int .u32 (e : Nat), .int .i64 25] W fun e' w' => e' = .returned (.int .u32 ((Sh.rr e 25 : Nat) : Int)) ∧ ∃ m, w' = W.drewN m) := Lib.hid (fun W => turn_any e 25 W he (by omega) (by omega))
          have R4 : Hid (∀ W, Calls Tryz.prog 147 #[.int .u32 (a : Nat), .int .i64 2] W fun e' w' => e' = .returned (.int .u32 ((Sh.rr a 2 : Nat) : Int)) ∧ ∃ m, w' = W.drewN m) := Lib.hid (fun W => turn_any a 2 W ha (by omega) (by omega))
          have R5 : Hid (∀ W, Calls Tryz.prog 147 #[.int .u32 (a : Nat), .int .i64 13] W fun e' w' => e' = .returned (.int .u32 ((Sh.rr a 13 : Nat) : Int)) ∧ ∃ m, w' = W.drewN m) := Lib.hid (fun W => turn_any a 13 W ha (by omega) (by omega))
          have R6 : Hid (∀ W, Calls Tryz.prog 147 #[.int .u32 (a : Nat), .int .i64 22] W fun e' w' => e' = .returned (.int .u32 ((Sh.rr a 22 : Nat) : Int)) ∧ ∃ m, w' = W.drewN m) := Lib.hid (fun W => turn_any a 22 W ha (by omega) (by omega))
          go_wp2_with fail
          go_quiet ((go_at_call 147; with_reducible (first | refine (R1.out _).mono ?_ | refine (R2.out _).mono ?_ | refine (R3.out _).mono ?_ | refine (R4.out _).mono ?_ | refine (R5.out _).mono ?_ | refine (R6.out _).mono ?_); rintro _ _ ⟨rfl, nd, rfl⟩; (first | exact ⟨rfl, _, World.drewN_drewN _ _ _⟩ | exact ⟨rfl, _, rfl⟩ | exact ⟨rfl, _, Eq.trans (World.drewN_drewN _ _ _) (congrArg (World.drewN _) (Nat.add_assoc _ _ _))⟩)))
          rw [t1_eq e f g i0 kt wt he hf hg]
          have hT1 := t1_lt e f g i0 kt wt
          generalize Sh.t1 e f g i0 kt wt = T1 at *
          go_wp2_with fail
          go_quiet ((go_at_call 147; with_reducible (first | refine (R1.out _).mono ?_ | refine (R2.out _).mono ?_ | refine (R3.out _).mono ?_ | refine (R4.out _).mono ?_ | refine (R5.out _).mono ?_ | refine (R6.out _).mono ?_); rintro _ _ ⟨rfl, nd, rfl⟩; (first | exact ⟨rfl, _, World.drewN_drewN _ _ _⟩ | exact ⟨rfl, _, rfl⟩ | exact ⟨rfl, _, Eq.trans (World.drewN_drewN _ _ _) (congrArg (World.drewN _) (Nat.add_assoc _ _ _))⟩)))
          rw [t2_eq a b c ha hb hc]
          have hT2 := t2_lt a b c
          generalize Sh.t2 a b c = T2 at *
          rw [World.drewN_drewN]
          generalize hq : World.drewN wr _ = wd
          have hBd : Hid (Below wo.heap.size wo wd) := Lib.hid (by rw [← hq]; exact drewN_below hBe.out _)
          have hVd : Hid (wd.heap[wo.heap.size]? = some (.cells (wv (shf (hvs a b c d e f g i0) 7)).toArray 145)) := Lib.hid (by rw [← hq, shf_seven]; exact hV.out)
          clear hq c0 c1 c2 c3 c4 c5 c6 c7 ck cw' R1 R2 R3 R4 R5 R6 hBe hV
          go_wp2_with fail
          go_loopw [19] (fun i w3 => ∃ j : Nat, j ≤ 7 ∧ i = .int .i64 j ∧ Hid (Below wo.heap.size wo w3) ∧ Hid (w3.heap[wo.heap.size]? = some (.cells (wv (shf (hvs a b c d e f g i0) j)).toArray 145))) (fun i _ => (intOf i).toNat)
          case atStart => exact ⟨7, Nat.le_refl _, rfl, hBd, hVd⟩
          case round =>
            obtain ⟨j, hj, rfl, hB3, hV3⟩ := hrel
            by_cases hj0 : 0 < j
            · obtain ⟨y, z, hy, hz, hset⟩ := shf_step a b c d e f g i0 j hj0 hj
              have cy : wr.cell? ⟨wo.heap.size, j - 1, none⟩ = some (.int .u32 (y : Nat)) := (cell_of_row _ _ _ _ _ _ hV3.out).trans hy
              have cz : wr.cell? ⟨wo.heap.size, j, none⟩ = some (.int .u32 (z : Nat)) := (cell_of_row _ _ _ _ _ _ hV3.out).trans hz
              have cf : wr.frozen? ⟨wo.heap.size, j, none⟩ = false := frozen_of_row _ _ _ _ _ hV3.out
              have HSet := Lib.hid (set1 hV3.out hset)
              clear hy hz hset
              go_wp2_with fail
              go_roundw
              case rel => exact ⟨j - 1, by omega, by go_num, Lib.hid (hB3.out.setCell (Nat.le_refl _) _), HSet⟩
              case measure => simp [intOf]; omega
            · obtain rfl : j = 0 := by omega
              have hV4 := hV3.out
              rw [shf_zero] at hV4
              have HV4 := Lib.hid hV4
              have c0 : wr.cell? ⟨wo.heap.size, 0, none⟩ = some (.int .u32 (a : Nat)) := (cell_of_row _ _ _ _ _ _ hV4).trans rfl
              have c4 : wr.cell? ⟨wo.heap.size, 4, none⟩ = some (.int .u32 (d : Nat)) := (cell_of_row _ _ _ _ _ _ hV4).trans rfl
              have f0 : wr.frozen? ⟨wo.heap.size, 0, none⟩ = false := frozen_of_row _ _ _ _ _ hV4
              have f4 : wr.frozen? ⟨wo.heap.size, 4, none⟩ = false := frozen_of_row _ _ _ _ _ hV4
              clear hV4 hV3
              go_wp2_with fail
              go_roundw
              case rel =>
                refine ⟨t + 1, Sh.ad T1 T2, a, b, c, Sh.ad d T1, e, f, g, by omega, by go_num, Lib.hid ((hB3.out.setCell (Nat.le_refl _) _).setCell (Nat.le_refl _) _), HNN, ⟨Sh.ad_lt _ _, ha, hb, hc, Sh.ad_lt _ _, he, hf, hg⟩, Lib.hid ?_⟩
                rw [ad_eq, ad_eq]
                exact set1 (set1 HV4.out rfl) rfl
              case measure => simp [intOf]; omega
        · obtain rfl : t = 64 := by omega
          have hrowm := Lib.hid ((hBe.out.block w.heap.size (by omega)).trans hrow3.out)
          have hrowz := Lib.hid ((hBe.out.block (w.heap.size + 1) (by omega)).trans hrow6.out)
          have hBw := Lib.hid (below_step hB.out hBe.out)
          have hl2 : (hvs a b c d e f g i0).length = (hvs x0 x1 x2 x3 x4 x5 x6 x7).length := rfl
          go_wp2_with fail
          go_loopw [20] (fun i w2 => ∃ t : Nat, t ≤ 8 ∧ i = .int .i64 t ∧ Hid (Below w.heap.size w w2) ∧ Hid (w2.heap[w.heap.size]? = some (.cells (wv (zs (hvs x0 x1 x2 x3 x4 x5 x6 x7) (hvs a b c d e f g i0) t)).toArray 145)) ∧
            Hid (w2.heap[wo.heap.size]? = some (.cells (wv (hvs a b c d e f g i0)).toArray 145)) ∧ Hid (w2.heap[w.heap.size + 1]? = some (.cells #[.int .u32 0, .int .u32 0, .int .u32 0, .int .u32 0, .int .u32 0, .int .u32 0, .int .u32 0, .int .u32 0] 145))) (fun i _ => 8 - (intOf i).toNat)
          case atStart => exact ⟨0, by omega, rfl, hBw, Lib.hid (by rw [zs_zero]; exact hrowm.out), hV, hrowz⟩
          case round =>
            obtain ⟨t, ht8, rfl, hG, hX, hV2, hZ⟩ := hrel
            by_cases hlt8 : t < 8
            · have cx : wr.cell? ⟨w.heap.size, t, none⟩ = some (.int .u32 ((hvs x0 x1 x2 x3 x4 x5 x6 x7).getD t 0 : Nat)) := (cell_of_row _ _ _ _ _ _ hX.out).trans (wv_get _ _ _ (zs_get _ _ hl2 t hlt8))
              have cv : wr.cell? ⟨wo.heap.size, t, none⟩ = some (.int .u32 ((hvs a b c d e f g i0).getD t 0 : Nat)) := (cell_of_row _ _ _ _ _ _ hV2.out).trans (wv_get _ _ _ (by
                rw [List.getD_eq_getElem?_getD, List.getElem?_eq_getElem (show t < (hvs a b c d e f g i0).length from hlt8)]; rfl))
              have cz : wr.frozen? ⟨w.heap.size, t, none⟩ = false := frozen_of_row _ _ _ _ _ hX.out
              have hs1 := wv_set (zs (hvs x0 x1 x2 x3 x4 x5 x6 x7) (hvs a b c d e f g i0) t) t (Sh.ad ((hvs x0 x1 x2 x3 x4 x5 x6 x7).getD t 0) ((hvs a b c d e f g i0).getD t 0))
              rw [zs_step _ _ hl2 t hlt8] at hs1
              have HS := Lib.hid hs1
              clear hs1
              generalize (hvs x0 x1 x2 x3 x4 x5 x6 x7).getD t 0 = p at *
              generalize (hvs a b c d e f g i0).getD t 0 = q at *
              go_wp2_with fail
              go_region
              rw [ad_eq]
              go_wp2_with fail
              go_roundw
              case rel =>
                refine ⟨t + 1, by omega, by go_num, Lib.hid ?_, Lib.hid ?_, Lib.hid ?_, Lib.hid ?_⟩
                · exact below_drew (hG.out.setCell (Nat.le_refl _) _)
                · exact set1 hX.out HS.out
                · exact (heap_setCell_other wr ⟨w.heap.size, t, none⟩ wo.heap.size _ (by simp; omega)).trans hV2.out
                · exact (heap_setCell_other wr ⟨w.heap.size, t, none⟩ (w.heap.size + 1) _ (by simp)).trans hZ.out
              case measure => simp [intOf]; omega
            · obtain rfl : t = 8 := by omega
              have hsz8 : (zs (hvs x0 x1 x2 x3 x4 x5 x6 x7) (hvs a b c d e f g i0) 8).length = 8 := zs_length _ _ hl2 8 (Nat.le_refl _)
              have hc8 : (wv (zs (hvs x0 x1 x2 x3 x4 x5 x6 x7) (hvs a b c d e f g i0) 8)).toArray.size = 8 := by simp [wv, hsz8]
              have ho8 : (wv (zs (hvs x0 x1 x2 x3 x4 x5 x6 x7) (hvs a b c d e f g i0) 8)).toArray.all (·.oneCell') = true := by simp [wv]; intro _ _; rfl
              have hend : zs (hvs x0 x1 x2 x3 x4 x5 x6 x7) (hvs a b c d e f g i0) 8 = List.zipWith Sh.ad (hvs x0 x1 x2 x3 x4 x5 x6 x7) (hvs a b c d e f g i0) := zs_end _ _ hl2
              have HEnd := Lib.hid hend
              have HC8 := Lib.hid hc8
              have HO8 := Lib.hid ho8
              clear hsz8 hc8 ho8 hend
              generalize zs (hvs x0 x1 x2 x3 x4 x5 x6 x7) (hvs a b c d e f g i0) 8 = Z at *
              go_wp2_with (first
                | (refine wpList_load_row rfl 145 _ rfl w.heap.size rfl 145 _ (0, 0) (.array 8 144) hX.out (by kernel_rfl) rfl (by rw [hi145, HC8.out]) ?_)
                | (refine wpList_store_row rfl 145 _ _ rfl (w.heap.size + 1) _ rfl rfl 145 _ hZ.out (by rw [hi145, HC8.out]) (by rw [HC8.out]; rfl) HO8.out ?_))
              refine bodyPost_ret (results_cell_row rfl _ _ (w.heap.size + 1) 145 _ (0, 0) (.array 8 144) rfl (setRow_heap _ _ _ _ _ _ hZ.out) (by kernel_rfl) rfl (by rw [hi145, HC8.out])) rfl ?_
              refine ⟨?_, below_setRow hG.out (by omega) _⟩
              rw [HEnd.out, hRn.out]
end Go.Proofs.YtgcflmhlegagbaaGreatDoor.K
end
section
set_option linter.unusedVariables false
set_option linter.unusedSimpArgs false
namespace Go.Proofs.YtgcflmhlegagbaaGreatDoor.K
open Go.RowKit Go.Proofs.YtgcflmhlegagbaaGreatDoorW.PrintWords Go.Proofs.YtgcflmhlegagbaaGreatDoorW.PrintLast Go.Proofs.YtgcflmhlegagbaaGreatDoorW.PrintMore
attribute [local go_sem] max2_int min2_int max_two min_two
open S (mkB be num)
theorem byteCells_set (xs : List UInt8) (t : Nat) (c : UInt8) : (Lib.byteCells xs).set t (.int .u8 (c.toNat : Int)) = Lib.byteCells (xs.set t c) := by
  simp [Lib.byteCells, List.map_set]
theorem mkB_toList (l : List UInt8) : (mkB l).data.toList = l := by simp [mkB]
theorem row10 {w : World} {r : Nat} {t : TypeId} {v0 v1 v2 v3 v4 v5 v6 v7 v8 v9 : Value} (h : w.heap[r]? = some (.cells #[v0, v1, v2, v3, v4, v5, v6, v7, v8, v9] t)) :
    w.cell? ⟨r, 0, none⟩ = some v0 ∧ w.cell? ⟨r, 1, none⟩ = some v1 ∧ w.cell? ⟨r, 2, none⟩ = some v2 ∧ w.cell? ⟨r, 3, none⟩ = some v3 ∧ w.cell? ⟨r, 4, none⟩ = some v4 ∧ w.cell? ⟨r, 5, none⟩ = some v5 ∧ w.cell? ⟨r, 6, none⟩ = some v6 ∧ w.cell? ⟨r, 7, none⟩ = some v7 ∧ w.cell? ⟨r, 8, none⟩ = some v8 ∧ w.cell? ⟨r, 9, none⟩ = some v9 :=
  ⟨cell_of_row _ _ _ _ _ _ h, cell_of_row _ _ _ _ _ _ h, cell_of_row _ _ _ _ _ _ h, cell_of_row _ _ _ _ _ _ h, cell_of_row _ _ _ _ _ _ h, cell_of_row _ _ _ _ _ _ h, cell_of_row _ _ _ _ _ _ h, cell_of_row _ _ _ _ _ _ h, cell_of_row _ _ _ _ _ _ h, cell_of_row _ _ _ _ _ _ h⟩
theorem row20 {w : World} {r : Nat} {t : TypeId} {y0 y1 y2 y3 y4 y5 y6 y7 y8 y9 : Value} (h : w.heap[r]? = some (.cells #[y0, y1, y2, y3, y4, y5, y6, y7, y8, y9] t)) :
    w.cell? ⟨r, 0, none⟩ = some y0 ∧ w.cell? ⟨r, 1, none⟩ = some y1 ∧ w.cell? ⟨r, 2, none⟩ = some y2 ∧ w.cell? ⟨r, 3, none⟩ = some y3 ∧ w.cell? ⟨r, 4, none⟩ = some y4 ∧ w.cell? ⟨r, 5, none⟩ = some y5 ∧ w.cell? ⟨r, 6, none⟩ = some y6 ∧ w.cell? ⟨r, 7, none⟩ = some y7 ∧ w.cell? ⟨r, 8, none⟩ = some y8 ∧ w.cell? ⟨r, 9, none⟩ = some y9 ∧ w.frozen? ⟨r, 0, none⟩ = false ∧ w.frozen? ⟨r, 1, none⟩ = false ∧ w.frozen? ⟨r, 2, none⟩ = false ∧ w.frozen? ⟨r, 3, none⟩ = false ∧ w.frozen? ⟨r, 4, none⟩ = false ∧ w.frozen? ⟨r, 5, none⟩ = false ∧ w.frozen? ⟨r, 6, none⟩ = false ∧ w.frozen? ⟨r, 7, none⟩ = false ∧ w.frozen? ⟨r, 8, none⟩ = false ∧ w.frozen? ⟨r, 9, none⟩ = false :=
  ⟨cell_of_row _ _ _ _ _ _ h, cell_of_row _ _ _ _ _ _ h, cell_of_row _ _ _ _ _ _ h, cell_of_row _ _ _ _ _ _ h, cell_of_row _ _ _ _ _ _ h, cell_of_row _ _ _ _ _ _ h, cell_of_row _ _ _ _ _ _ h, cell_of_row _ _ _ _ _ _ h, cell_of_row _ _ _ _ _ _ h, cell_of_row _ _ _ _ _ _ h, frozen_of_row _ _ _ _ _ h, frozen_of_row _ _ _ _ _ h, frozen_of_row _ _ _ _ _ h, frozen_of_row _ _ _ _ _ h, frozen_of_row _ _ _ _ _ h, frozen_of_row _ _ _ _ _ h, frozen_of_row _ _ _ _ _ h, frozen_of_row _ _ _ _ _ h, frozen_of_row _ _ _ _ _ h, frozen_of_row _ _ _ _ _ h⟩
theorem row_keep {W W' : World} {g : Nat} {o : Obj} (h : W.heap[g]? = some o) (hb : Below W.heap.size W W') : W'.heap[g]? = some o := by
  rcases Nat.lt_or_ge g W.heap.size with h' | h'
  · exact (hb.block g h').trans h
  · simp [Array.getElem?_eq_none h'] at h
def zsum : Array Value := #[.int .u32 0, .int .u32 0, .int .u32 0, .int .u32 0, .int .u32 0, .int .u32 0, .int .u32 0, .int .u32 0, .string ⟨#[]⟩, .int .u64 0]
theorem cells_size (H : List Nat) (buf : ByteArray) (n : Nat) (hl : H.length = 8) : (sumCells H buf n).toArray.size = 10 ∧ (sumCells H buf n).toArray.all (·.oneCell') = true := by
  obtain ⟨a, b, c, d, e, f, g, i, rfl⟩ := eight H hl
  exact ⟨rfl, by simp [cells_lit, Value.oneCell']⟩
theorem keysAt_row {b : Nat} {w : World} {t : TypeId} (h : w.heap[b]? = some (.cells (wv Sh.kw).toArray t)) : KeysAt b w := by
  refine ⟨(Array.getElem?_eq_some_iff.1 h).1, fun j hj => ?_⟩
  rw [cell_of_row _ _ _ _ _ _ h]
  apply wv_get
  rw [List.getD_eq_getElem?_getD, List.getElem?_eq_getElem (by rw [kw_length]; exact hj)]; rfl
set_option maxHeartbeats 4000000 in
set_option maxRecDepth 100000 in
theorem keys_any (w : World) : Calls Tryz.prog 139 #[] w fun e w' => e = .returned (.slice (some ⟨w.heap.size, 0, none⟩) 64 64) ∧ w'.heap[w.heap.size]? = some (.cells (wv Sh.kw).toArray 144) ∧ Below w.heap.size w w' := by
  go_enter Tryz.func139, Tryz.ntmps139
  go_wp2
  go_ret
  exact ⟨rfl, heap_alloc_new _ _, (Below.refl _ _).alloc (Nat.le_refl _) _⟩
set_option maxHeartbeats 4000000 in
set_option maxRecDepth 100000 in
theorem first_any (w : World) : Calls Tryz.prog 141 #[] w fun e w' => e = .returned (.slice (some ⟨w.heap.size, 0, none⟩) 8 8) ∧ w'.heap[w.heap.size]? = some (.cells (wv Sh.h0).toArray 144) ∧ Below w.heap.size w w' := by
  go_enter Tryz.func141, Tryz.ntmps141
  go_wp2
  go_ret
  exact ⟨rfl, heap_alloc_new _ _, (Below.refl _ _).alloc (Nat.le_refl _) _⟩
end Go.Proofs.YtgcflmhlegagbaaGreatDoor.K
end
section
set_option linter.unusedVariables false
set_option linter.unusedSimpArgs false
namespace Go.Proofs.YtgcflmhlegagbaaGreatDoor.K
open Go.RowKit Go.Proofs.YtgcflmhlegagbaaGreatDoorW.PrintWords Go.Proofs.YtgcflmhlegagbaaGreatDoorW.PrintLast Go.Proofs.YtgcflmhlegagbaaGreatDoorW.PrintMore
attribute [local go_sem] max2_int min2_int max_two min_two
open S (mkB be num)
theorem set8_row10 (w : World) (r : Nat) (ty : TypeId) {y0 y1 y2 y3 y4 y5 y6 y7 y8 y9 : Value} (hV : w.heap[r]? = some (.cells #[y0, y1, y2, y3, y4, y5, y6, y7, y8, y9] ty)) (z0 z1 z2 z3 z4 z5 z6 z7 : Value) :
    ((((((((w.setCell ⟨r, 0, none⟩ z0).setCell ⟨r, 1, none⟩ z1).setCell ⟨r, 2, none⟩ z2).setCell ⟨r, 3, none⟩ z3).setCell ⟨r, 4, none⟩ z4).setCell ⟨r, 5, none⟩ z5).setCell ⟨r, 6, none⟩ z6).setCell ⟨r, 7, none⟩ z7).heap[r]? = some (.cells #[z0, z1, z2, z3, z4, z5, z6, z7, y8, y9] ty) := by
  have h0 := set1 (i := 0) (z := z0) (D := #[z0, y1, y2, y3, y4, y5, y6, y7, y8, y9]) hV (by simp)
  have h1 := set1 (i := 1) (z := z1) (D := #[z0, z1, y2, y3, y4, y5, y6, y7, y8, y9]) h0 (by simp)
  have h2 := set1 (i := 2) (z := z2) (D := #[z0, z1, z2, y3, y4, y5, y6, y7, y8, y9]) h1 (by simp)
  have h3 := set1 (i := 3) (z := z3) (D := #[z0, z1, z2, z3, y4, y5, y6, y7, y8, y9]) h2 (by simp)
  have h4 := set1 (i := 4) (z := z4) (D := #[z0, z1, z2, z3, z4, y5, y6, y7, y8, y9]) h3 (by simp)
  have h5 := set1 (i := 5) (z := z5) (D := #[z0, z1, z2, z3, z4, z5, y6, y7, y8, y9]) h4 (by simp)
  have h6 := set1 (i := 6) (z := z6) (D := #[z0, z1, z2, z3, z4, z5, z6, y7, y8, y9]) h5 (by simp)
  exact set1 (i := 7) (z := z7) (D := #[z0, z1, z2, z3, z4, z5, z6, z7, y8, y9]) h6 (by simp)
theorem below_set8 {w W : World} {B r : Nat} (h : Below B w W) (hr : B ≤ r) (z0 z1 z2 z3 z4 z5 z6 z7 : Value) :
    Below B w ((((((((W.setCell ⟨r, 0, none⟩ z0).setCell ⟨r, 1, none⟩ z1).setCell ⟨r, 2, none⟩ z2).setCell ⟨r, 3, none⟩ z3).setCell ⟨r, 4, none⟩ z4).setCell ⟨r, 5, none⟩ z5).setCell ⟨r, 6, none⟩ z6).setCell ⟨r, 7, none⟩ z7) :=
  (((((((h.setCell hr z0).setCell hr z1).setCell hr z2).setCell hr z3).setCell hr z4).setCell hr z5).setCell hr z6).setCell hr z7
theorem heap_set8 (W : World) {r k : Nat} (hk : k ≠ r) (z0 z1 z2 z3 z4 z5 z6 z7 : Value) :
    ((((((((W.setCell ⟨r, 0, none⟩ z0).setCell ⟨r, 1, none⟩ z1).setCell ⟨r, 2, none⟩ z2).setCell ⟨r, 3, none⟩ z3).setCell ⟨r, 4, none⟩ z4).setCell ⟨r, 5, none⟩ z5).setCell ⟨r, 6, none⟩ z6).setCell ⟨r, 7, none⟩ z7).heap[k]? = W.heap[k]? := by
  iterate 8 rw [heap_setCell_other _ _ _ _ hk]
theorem keysAt_heap {b : Nat} {w w' : World} (hK : KeysAt b w) (h : w'.heap[b]? = w.heap[b]?) : KeysAt b w' := by
  have hlt : b < w'.heap.size := by
    rcases Nat.lt_or_ge b w'.heap.size with h' | h'
    · exact h'
    · rw [Array.getElem?_eq_none h', Array.getElem?_eq_getElem hK.1] at h; cases h
  exact ⟨hlt, fun j hj => by rw [World.cell?_of_block (w := w) h]; exact hK.2 j hj⟩
theorem wv_lit (a b c d e f g i : Nat) : (wv (hvs a b c d e f g i)).toArray = #[.int .u32 (a : Nat), .int .u32 (b : Nat), .int .u32 (c : Nat), .int .u32 (d : Nat), .int .u32 (e : Nat), .int .u32 (f : Nat), .int .u32 (g : Nat), .int .u32 (i : Nat)] := rfl
theorem rmix_c (H : List Nat) (s : ByteArray) (Kb : Nat) (w : World) (hl : H.length = 8) (hx : ∀ x ∈ H, x < 4294967296) (hs : 64 ≤ s.size) (hK : KeysAt Kb w) :
    Calls Tryz.prog 140 #[.agg (wv H).toArray, .string (s.extract 0 64), .slice (some ⟨Kb, 0, none⟩) 64 64] w fun e w' =>
      e = .returned (.agg (wv (Sh.comp H s.data.toList)).toArray) ∧ Below w.heap.size w w' := by
  obtain ⟨a, b, c, d, e, f, g, i, rfl⟩ := eight H hl
  have := rmix_any a b c d e f g i (s.extract 0 64) Kb w (by rw [ByteArray.size_extract]; omega) (hx _ (by simp [hvs])) (hx _ (by simp [hvs])) (hx _ (by simp [hvs])) (hx _ (by simp [hvs])) (hx _ (by simp [hvs])) (hx _ (by simp [hvs])) (hx _ (by simp [hvs])) (hx _ (by simp [hvs])) hK
  rw [show (s.extract 0 64).data.toList = s.data.toList.take 64 from by simp, Sh.comp_take] at this
  exact this
attribute [local irreducible] Sh.sched Sh.rr Sh.ad Sh.sg0 Sh.sg1 S.num Sh.kw Sh.t1 Sh.t2 Sh.nt Sh.comp Sh.blocks Sh.take Sh.tail p2 dv
set_option maxHeartbeats 4000000 in
set_option maxRecDepth 100000 in
theorem rwrite_any (H : List Nat) (buf : ByteArray) (n : Nat) (s : ByteArray) (w : World) (hl : H.length = 8) (hx : ∀ x ∈ H, x < 4294967296)
    (hn : n + s.size < 18446744073709551616) (hsz : buf.size + s.size < 1000000000) :
    Calls Tryz.prog 127 #[.agg (sumCells H buf n).toArray, .string s] w fun e w' =>
      e = .returned (.agg (sumCells (Sh.take H buf.data.toList s.data.toList).1 (mkB (Sh.take H buf.data.toList s.data.toList).2) (n + s.size)).toArray) ∧ Below w.heap.size w w' := by
  have hz148 : ∀ W, (zeroValue 148).run Tryz.prog W = .ok (.agg #[.int .u32 0, .int .u32 0, .int .u32 0, .int .u32 0, .int .u32 0, .int .u32 0, .int .u32 0, .int .u32 0, .string ⟨#[]⟩, .int .u64 0]) W := fun W => by kernel_rfl
  have hi148 : (Tryz.prog.info? 148).map (·.size) = some 10 := by kernel_rfl
  have g8 := sumCells_8 H buf n hl
  have HC0 : Hid (∃ C, C = (sumCells H buf n).toArray) := Lib.hid ⟨_, rfl⟩
  generalize hC : (sumCells H buf n).toArray = C at *
  have HC := Lib.hid hC
  clear hC HC0
  go_enter Tryz.func127, Tryz.ntmps127
  go_wp2_with fail
  refine (keys_any _).mono ?_
  rintro e w1 ⟨rfl, hk1, hb1⟩
  have hm0 := Lib.hid (row_keep (heap_alloc2_old w _ _) hb1)
  have hm1 := Lib.hid (row_keep (heap_alloc2_new w _ _) hb1)
  have HB1 := Lib.hid (below_step (((Below.refl _ _).alloc (Nat.le_refl _) _).alloc (by simp) _) hb1)
  have hsb : w.heap.size + 2 = ((w.alloc (.cells C 148)).alloc (.cells #[.int .u32 0, .int .u32 0, .int .u32 0, .int .u32 0, .int .u32 0, .int .u32 0, .int .u32 0, .int .u32 0, .string ⟨#[]⟩, .int .u64 0] 148)).heap.size := by simp
  rw [← hsb] at hk1 ⊢
  have HK1 := Lib.hid (keysAt_row hk1)
  have c8 : w1.cell? ⟨w.heap.size, 8, none⟩ = some (.string buf) := (cell_of_row _ _ _ _ _ _ hm0.out).trans g8
  clear hk1 hb1 hsb
  go_wp2_with fail
  clear c8 g8
  rw [← HC.out] at hm0
  go_loopw [6] (fun v wr => ∃ (r : ByteArray) (H1 : List Nat), v = .string r ∧ H1.length = 8 ∧ Hid (∀ x ∈ H1, x < 4294967296) ∧ r.size ≤ buf.size + s.size ∧ Hid (Sh.blocks r.data.toList.length H1 r.data.toList = Sh.take H buf.data.toList s.data.toList) ∧
      Hid (wr.heap[w.heap.size]? = some (.cells (sumCells H1 buf n).toArray 148)) ∧ Hid (wr.heap[w.heap.size + 1]? = some (.cells zsum 148)) ∧ Hid (Below w.heap.size w wr) ∧ Hid (KeysAt (w.heap.size + 2) wr)) (fun v _ => match v with | .string r => r.size | _ => 0)
  case atStart => exact ⟨buf ++ s, H, rfl, hl, Lib.hid hx, by rw [ByteArray.size_append]; omega, Lib.hid (take_eq _ _ _), hm0, hm1, HB1, HK1⟩
  case round =>
    obtain ⟨r, H1, rfl, hl1, hx1, hr, hbl, hrow, hrow1, hB, hKr⟩ := hrel
    by_cases hlt : 64 ≤ r.size
    · have hM := fun W hK => rmix_c H1 r (w.heap.size + 2) W hl1 hx1.out hlt hK
      have hcl := Sh.comp_length H1 r.data.toList
      have hclt := Sh.comp_lt H1 r.data.toList
      have hstep := Sh.blocks_step H1 r.data.toList (by simpa using hlt)
      rw [← extract_dat, hbl.out] at hstep
      have HST := Lib.hid hstep.symm
      have HCL := Lib.hid hclt
      clear hstep hbl hclt
      generalize Sh.comp H1 r.data.toList = H2 at *
      rw [hl1] at hcl
      obtain ⟨z0, z1, z2, z3, z4, z5, z6, z7, rfl⟩ := eight H2 hcl
      obtain ⟨y0, y1, y2, y3, y4, y5, y6, y7, rfl⟩ := eight H1 hl1
      rw [wv_lit, wv_lit] at hM
      rw [cells_lit] at hrow
      have HM := Lib.hid hM
      clear hM
      obtain ⟨k0, k1, k2, k3, k4, k5, k6, k7, k8, k9⟩ := row10 hrow.out
      go_wp2_with fail
      go_still_tail 5, (by kernel_rfl)
      change wpList _ _ _ _ _ wr.drew
      have hrow2 : wr.drew.heap[w.heap.size]? = _ := hrow.out
      have hrow12 : wr.drew.heap[w.heap.size + 1]? = _ := hrow1.out
      have hB2 := below_drew hB.out
      have hK2 : KeysAt (w.heap.size + 2) wr.drew := hKr.out
      generalize wr.drew = wd at *
      have HB2 := Lib.hid hB2
      have HK2 := Lib.hid hK2
      clear hB2 hK2 k0 k1 k2 k3 k4 k5 k6 k7 k8 k9 hrow hrow1
      go_wp2_with (go_at_call 140; (with_reducible refine (HM.out _ HK2.out).mono ?_); rintro e w2 ⟨rfl, hb2⟩
                   have hr2 := row_keep hrow2 hb2
                   have HR2 := Lib.hid hr2
                   have HR12 := Lib.hid (row_keep hrow12 hb2)
                   have HB3 := Lib.hid (below_step HB2.out hb2)
                   have HK3 := Lib.hid (keysAt_below hb2 HK2.out)
                   obtain ⟨k0, k1, k2, k3, k4, k5, k6, k7, k8, k9, f0, f1, f2, f3, f4, f5, f6, f7, f8, f9⟩ := row20 hr2
                   clear hr2 hb2)
      go_roundw
      case rel =>
        refine ⟨r.extract 64 r.size, hvs z0 z1 z2 z3 z4 z5 z6 z7, rfl, rfl, HCL, by rw [ByteArray.size_extract]; omega, HST, Lib.hid ?_, Lib.hid ?_, Lib.hid ?_, Lib.hid ?_⟩
        · rw [cells_lit]
          with_reducible exact set8_row10 _ _ _ HR2.out _ _ _ _ _ _ _ _
        · rw [heap_set8 _ (by omega)]
          exact HR12.out
        · exact below_set8 HB3.out (Nat.le_refl _) _ _ _ _ _ _ _ _
        · exact keysAt_heap HK3.out (heap_set8 _ (by omega) _ _ _ _ _ _ _ _)
      case measure => simp [ByteArray.size_extract]; omega
    · have hd := Sh.blocks_done r.data.toList.length H1 r.data.toList (by simp; omega)
      rw [hbl.out] at hd
      have HD := Lib.hid hd
      clear hd
      have d8 : wr.cell? ⟨w.heap.size, 8, none⟩ = some (.string buf) := (cell_of_row _ _ _ _ _ _ hrow.out).trans (sumCells_8 _ _ _ hl1)
      have d9 : wr.cell? ⟨w.heap.size, 9, none⟩ = some (.int .u64 (n : Nat)) := (cell_of_row _ _ _ _ _ _ hrow.out).trans (sumCells_9 _ _ _ hl1)
      have d8z : wr.frozen? ⟨w.heap.size, 8, none⟩ = false := frozen_of_row _ _ _ _ _ hrow.out
      have d9z : wr.frozen? ⟨w.heap.size, 9, none⟩ = false := frozen_of_row _ _ _ _ _ hrow.out
      have hs8 := set1 hrow.out (sumCells_buf H1 buf r n hl1)
      have hs9 := set1 hs8 (sumCells_n H1 r n (n + s.size) hl1)
      rw [show ((n + s.size : Nat) : Int) = (n : Int) + (s.size : Int) from by omega] at hs9
      have hsz9 := (cells_size H1 r (n + s.size) hl1).1
      have hone := (cells_size H1 r (n + s.size) hl1).2
      have hrz : (((wr.setCell ⟨w.heap.size, 8, none⟩ (.string r)).setCell ⟨w.heap.size, 9, none⟩ (.int .u64 ((n : Int) + (s.size : Int))))).heap[w.heap.size + 1]? = some (.cells zsum 148) := by
        iterate 2 rw [heap_setCell_other _ _ _ _ (by simp)]
        exact hrow1.out
      have hbz : Below w.heap.size w (((wr.setCell ⟨w.heap.size, 8, none⟩ (.string r)).setCell ⟨w.heap.size, 9, none⟩ (.int .u64 ((n : Int) + (s.size : Int))))) := (hB.out.setCell (Nat.le_refl _) _).setCell (Nat.le_refl _) _
      have HS9 := Lib.hid hs9
      have HRZ := Lib.hid hrz
      have HBZ := Lib.hid hbz
      have HSZ := Lib.hid hsz9
      have HON := Lib.hid hone
      clear hs8 hs9 hrz hbz hsz9 hone hrow hrow1
      go_wp2_with (first
        | (refine wpList_load_row rfl 148 _ rfl w.heap.size rfl 148 _ (0, 0) _ HS9.out Tryz.underlying148 rfl (by rw [hi148, HSZ.out]) ?_)
        | (refine wpList_store_row rfl 148 _ _ rfl (w.heap.size + 1) _ rfl rfl 148 _ HRZ.out (by rw [hi148, HSZ.out]) (by rw [HSZ.out]; rfl) HON.out ?_))
      refine bodyPost_ret (results_cell_row rfl _ _ (w.heap.size + 1) 148 _ (0, 0) _ rfl (setRow_heap _ _ _ _ _ _ HRZ.out) Tryz.underlying148 rfl (by rw [hi148, HSZ.out])) rfl ?_
      refine ⟨?_, below_setRow HBZ.out (by omega) _⟩
      rw [HD.out, S.mkB_data]
end Go.Proofs.YtgcflmhlegagbaaGreatDoor.K
end
section
set_option linter.unusedVariables false
set_option linter.unusedSimpArgs false
namespace Go.Proofs.YtgcflmhlegagbaaGreatDoor.K
open Go.RowKit Go.Proofs.YtgcflmhlegagbaaGreatDoorW.PrintWords Go.Proofs.YtgcflmhlegagbaaGreatDoorW.PrintLast Go.Proofs.YtgcflmhlegagbaaGreatDoorW.PrintMore
attribute [local go_sem] max2_int min2_int max_two min_two
open S (mkB be num)
def bts (l : List UInt8) : List Int := l.map fun c => (c.toNat : Int)
theorem bts_append (a b : List UInt8) : bts a ++ bts b = bts (a ++ b) := by simp [bts]
theorem bts_length (l : List UInt8) : (bts l).length = l.length := by simp [bts]
theorem bts_encs (l : List UInt8) : encs (Value.int .u8) (bts l) = Lib.byteCells l := by simp [encs, bts, Lib.byteCells, Function.comp_def]
def fillB (N j n : Nat) : List UInt8 := List.replicate (N - j) 0 ++ be j n
theorem fillB_length (N j n : Nat) (h : j ≤ N) : (fillB N j n).length = N := by simp [fillB, S.be_length]; omega
theorem fillB_zero (N n : Nat) : fillB N 0 n = List.replicate N 0 := by simp [fillB, be]
theorem fillB_step (N j n : Nat) (h : j < N) : (fillB N j n).set (N - 1 - j) (UInt8.ofNat (n / 256 ^ j % 256)) = fillB N (j + 1) n := by
  unfold fillB
  rw [S.be_top, show N - j = (N - (j + 1)) + 1 from by omega, List.replicate_succ', List.append_assoc, List.set_append, if_neg (by simp; omega)]
  rw [show N - 1 - j - (List.replicate (N - (j + 1)) (0 : UInt8)).length = 0 from by simp; omega]
  simp
def dq (n j : Nat) : Nat := n / 256 ^ j
theorem dq_zero (n : Nat) : dq n 0 = n := by simp [dq]
theorem dq_succ (n j : Nat) : dq n (j + 1) = dq n j / 256 := by unfold dq; rw [Nat.pow_succ, Nat.div_div_eq_div_mul]
theorem dq_le (n j : Nat) : dq n j ≤ n := Nat.div_le_self _ _
theorem dq_byte (n j : Nat) : ((dq n j : Nat) : Int) % 256 = ((UInt8.ofNat (n / 256 ^ j % 256)).toNat : Int) := by
  unfold dq; rw [UInt8.toNat_ofNat']; omega
/-- a row of bytes, told as the appends want it. -/
theorem bytes_R {w : World} {base n : Nat} {v : Value} {l : List UInt8} {ok : Nat → Prop} (h : w.ownsRow base 5 1 v n (Lib.byteCells l)) (hn : l.length = n) (hok : ∀ k, v.ownBlock = some k → ok k) : Kd.R (Kd.int .u8) 5 w base ok v (bts l) :=
  Kd.R_of_own (by rw [bts_length, hn, bts_encs]; exact h) hok
theorem tail_ref (n m k : Nat) (hm : m < 64) (hn : n < 2199023255552) (hk : k = (119 - m) % 64) : (128 :: List.replicate k (0 : UInt8)) ++ fillB 8 8 (8 * n) = Sh.tail n m := by
  unfold Sh.tail fillB
  rw [Nat.mod_eq_of_lt (show 8 * n < 18446744073709551616 by omega), ← hk, show (8 - 8 : Nat) = 0 from rfl, List.replicate_zero, List.nil_append]
  rfl
theorem bytes_R_C {w : World} {base n : Nat} {g c : Nat} {l : List UInt8} (h : w.ownsRow base 5 1 (.slice (some ⟨g, 0, none⟩) n c) n (Lib.byteCells l)) (hn : l.length = n) : (Kd.int .u8).C w (some ⟨g, 0, none⟩) n (bts l) := by
  have := (Kd.R_reads' (bytes_R (ok := fun _ => True) h hn (fun _ _ => trivial))).2.2
  rw [bts_length, hn] at this
  exact this
theorem app_rows {ops : Array Oper} {rest : List Oper} {o : Oper} {a : Act} {Q : Exit → Act → World → Prop} {w0 W : World} (base : Nat) (hgd : o.guard = none) (s x : Operand)
    (ho : o.op = .call { callee := .builtin .append, args := #[s, x], argTypes := #[108, 108] }) (v : Value) (l l' : List UInt8) (A : Option Addr) (m c : Nat) (hs : a.eval s = v) (hx : a.eval x = .slice A m c)
    (HO : Kd.R (Kd.int .u8) 5 W base (fun k => base < k) v (bts l)) (HR : (Kd.int .u8).C W A m (bts l')) (hbs : base < W.heap.size) (HB : Below base w0 W) (hl : l.length + m ≤ 1000000)
    (h : ∀ v1 w1, Kd.R (Kd.int .u8) 5 w1 base (fun k => base < k) v1 (bts (l ++ l')) → Below base w0 w1 → W.grownBy w1 v.ownBlock → wpList Tryz.prog ops Q rest (a.put o.dst v1) w1) :
    wpList Tryz.prog ops Q (o :: rest) a W := by
  refine Kd.R_append_rows (Kd.int .u8) (w0 := w0) base hgd s x 108 5 (.int .u8 0) 1 ho Tryz.underlying108 _root_.Go.Proofs.YtgcflmhlegagbaaGreatDoor.B.infoByte rfl (by decide) (by decide) v (bts l) (bts l') A m c (fun k => base < k) (fun _ => False) hs hx HO HR (fun _ _ h => h) (fun _ h => h.elim) (fun k hk => Nat.lt_of_lt_of_le hbs hk) HB (Nat.le_of_lt hbs) (by rw [bts_length]; omega) ?_
  intro v1 w1 hR hb hg hat
  rw [bts_append] at hR
  exact h v1 w1 hR hb hg
attribute [local irreducible] Sh.sched Sh.rr Sh.ad Sh.sg0 Sh.sg1 S.num Sh.kw Sh.t1 Sh.t2 Sh.nt Sh.comp Sh.blocks Sh.take Sh.tail p2 dv dq fillB
set_option maxHeartbeats 4000000 in
set_option maxRecDepth 100000 in
theorem rend_any (H : List Nat) (buf : ByteArray) (n : Nat) (w : World) (hl : H.length = 8) (hx : ∀ x ∈ H, x < 4294967296)
    (hn : n < 2199023255552) (hsz : buf.size < 64) :
    Calls Tryz.prog 126 #[.agg (sumCells H buf n).toArray] w fun e w' => e = .returned (.string (mkB (Sh.fin H buf.data.toList n))) ∧ Below w.heap.size w w' := by
  have g8 := sumCells_8 H buf n hl
  have g9 := sumCells_9 H buf n hl
  have hsC := (cells_size H buf n hl).1
  have HSC := Lib.hid hsC
  generalize hC : (sumCells H buf n).toArray = C at *
  have HC := Lib.hid hC
  clear hC hsC
  go_enter Tryz.func126, Tryz.ntmps126
  go_upto_region 1 with fail
  go_wp2_with fail
  have hown4 : ((w.alloc (.cells C 148)).alloc (.cells #[.int .u8 128] 5)).ownsRow w.heap.size 5 1 (.slice (some ⟨(w.alloc (.cells C 148)).heap.size, 0, none⟩) 1 1) 1 (Lib.byteCells [128]) :=
    World.ownsRow_lit (size := 1) (w.alloc (.cells C 148)) #[.int .u8 128] 1 (by simp) (by unfold maxLen; omega) rfl
  have hz4 : (w.alloc (.cells C 148)).heap.size = w.heap.size + 1 := by simp
  rw [hz4] at hown4
  have HR4 : Hid (Kd.R (Kd.int .u8) 5 ((w.alloc (.cells C 148)).alloc (.cells #[.int .u8 128] 5)) w.heap.size (fun k => w.heap.size < k) (.slice (some ⟨w.heap.size + 1, 0, none⟩) 1 1) (bts (128 :: List.replicate 0 0))) :=
    Lib.hid (bytes_R hown4 rfl (fun k hk => by simp [Value.ownBlock] at hk; omega))
  have hrow4 := Lib.hid (heap_alloc2_old w (.cells C 148) (.cells #[.int .u8 128] 5))
  have hs4 : w.heap.size < ((w.alloc (.cells C 148)).alloc (.cells #[.int .u8 128] 5)).heap.size := by simp; omega
  have HB4 := Lib.hid (((Below.refl w.heap.size w).alloc (Nat.le_refl _) (.cells C 148)).alloc (by simp) (.cells #[.int .u8 128] 5))
  clear hown4 hz4
  obtain ⟨K, hK⟩ : ∃ K, K = (119 - buf.size) % 64 := ⟨_, rfl⟩
  have hK1 : K < 64 := by omega
  have HKK := Lib.hid hK
  have hKz : ∀ k, k ≤ K → ((buf.size + (k + 1) + 8) % 64 = 0 ↔ k = K) := by intro k hk; omega
  have HKz := Lib.hid hKz
  clear hK hKz
  go_loopw [3] (fun v wr => ∃ (k : Nat) (vq : Value), vq = v ∧ k ≤ K ∧ Hid (Kd.R (Kd.int .u8) 5 wr w.heap.size (fun k => w.heap.size < k) vq (bts (128 :: List.replicate k 0))) ∧ Hid (Below w.heap.size w wr) ∧ w.heap.size < wr.heap.size ∧
      Hid (wr.heap[w.heap.size]? = some (.cells C 148))) (fun v _ => match v with | .slice _ n _ => 200 - n | _ => 0)
  case atStart => exact ⟨0, _, rfl, Nat.zero_le _, HR4, HB4, hs4, hrow4⟩
  case round =>
    obtain ⟨k, vb, rfl, hk, hR, hB, hsz1, hrow⟩ := hrel
    have c8 : wr.cell? ⟨w.heap.size, 8, none⟩ = some (.string buf) := (cell_of_row _ _ _ _ _ _ hrow.out).trans g8
    have c9 : wr.cell? ⟨w.heap.size, 9, none⟩ = some (.int .u64 (n : Nat)) := (cell_of_row _ _ _ _ _ _ hrow.out).trans g9
    have hlen : (bts (128 :: List.replicate k 0)).length = k + 1 := by simp [bts]
    obtain ⟨Ab, cb, rfl, hcb, hCb⟩ := Kd.R_reads hR.out
    rw [hlen] at hR hCb hcb ⊢
    have HLen := Lib.hid hlen
    have HCb := Lib.hid hCb
    clear hlen hCb
    by_cases hlt : k < K
    · have hne : ¬ ((buf.size : Int) + ((k : Int) + 1) + 8) % 64 = 0 := by
        have := (HKz.out k hk)
        omega
      go_wp2_with (at_builtin
                   go_loud (refine Kd.R_append (Kd.int .u8) (w0 := w) w.heap.size rfl (.tmp 23) (.tmp 24) 108 5 (.int .u8 0) 1 rfl Tryz.underlying108 _root_.Go.Proofs.YtgcflmhlegagbaaGreatDoor.B.infoByte rfl (by decide) (by decide) (.slice Ab (k + 1) cb) (bts (128 :: List.replicate k 0)) 0 [.int .u8 0] (fun k => w.heap.size < k) (fun _ => False) rfl rfl rfl (fun _ h => h.elim) (fun k hk => Nat.lt_of_lt_of_le hsz1 hk) hR.out hB.out hB.out.size (by rw [HLen.out]; omega) ?_)
                   intro v7 w5 hR5 hb5 hg5 hnew5
                   rw [show bts (128 :: List.replicate k 0) ++ [(0 : Int)] = bts (128 :: List.replicate (k + 1) 0) from by rw [List.replicate_succ']; simp [bts]] at hR5
                   have HR5 := Lib.hid hR5
                   have HB5 := Lib.hid hb5
                   have hs5 := hg5.size
                   have hr5 := Lib.hid ((hg5.block w.heap.size hsz1 (fun e => absurd (hR.out.1 _ e.symm) (Nat.lt_irrefl _))).trans hrow.out)
                   clear hR5 hb5 hg5 hnew5)
      go_roundw
      case rel => exact ⟨k + 1, _, rfl, by omega, HR5, HB5, by omega, hr5⟩
      case measure =>
        obtain ⟨A7, c7, e7⟩ := Kd.R_slice HR5.out
        rw [e7]
        simp [bts]
        omega
    · obtain rfl : k = K := by omega
      have heq : ((buf.size : Int) + ((k : Int) + 1) + 8) % 64 = 0 := by
        have := (HKz.out k hk)
        omega
      go_upto_region 5 with fail
      rw [show 8 * (n : Int) = ((8 * n : Nat) : Int) from by omega]
      have htl := tail_ref n buf.size k hsz hn HKK.out
      have htll := tail_length n buf.size
      have HTL := Lib.hid htl
      have HTLL := Lib.hid htll
      have hn8 : 8 * n < 17592186044416 := by omega
      generalize 8 * n = n8 at *
      clear htl htll c8 c9 heq
      generalize hwo : wr = wo at *
      clear hwo
      obtain ⟨i0, hi, hzz0, hzz1, hzz2⟩ := info_parts _root_.Go.Proofs.YtgcflmhlegagbaaGreatDoor.B.infoByte
      go_wp2_with (refine wpList_make_full _ rfl _ _ 108 rfl wo.heap.size 5 i0 (.int .u8 0) 1 Tryz.underlying108 hi hzz0 hzz1 .i64 .i64 _ _ 8 rfl rfl (by omega) (by omega) (by rw [hzz2]; omega) (by unfold maxLen; omega) (Nat.le_refl _) ?_)
      intro w5 hown hgrow
      rw [toList_madeCells_one] at hown
      have HW : Hid (w5.ownsRow wo.heap.size 5 1 (.slice (some ⟨wo.heap.size, 0, none⟩) 8 8) 8 (Lib.byteCells (fillB 8 0 n8))) := by
        rw [fillB_zero, show Lib.byteCells (List.replicate 8 0) = List.replicate 8 (Value.int .u8 0) from by simp [Lib.byteCells]]
        exact Lib.hid hown
      have HB5 := Lib.hid ((Below.refl wo.heap.size wo).grown hgrow (Nat.le_refl _) (fun k hk => by cases hk))
      clear hown hgrow hi hzz0 hzz1 hzz2
      go_wp2_with fail
      go_loopw [4, 6] (fun v i wr => ∃ q : Nat, q ≤ 8 ∧ i = .int .i64 q ∧ v = .int .u64 (dq n8 (8 - q) : Nat) ∧ Hid (wr.ownsRow wo.heap.size 5 1 (.slice (some ⟨wo.heap.size, 0, none⟩) 8 8) 8 (Lib.byteCells (fillB 8 (8 - q) n8))) ∧ Hid (Below wo.heap.size wo wr)) (fun _ i _ => (intOf i).toNat)
      case atStart => exact ⟨8, by omega, rfl, by rw [Nat.sub_self, dq_zero], HW, HB5⟩
      case round =>
        obtain ⟨q, hq, rfl, rfl, hO, hBq⟩ := hrel
        by_cases hlt2 : 0 < q
        · have hfl := fillB_length 8 (8 - q) n8 (by omega)
          obtain ⟨v0, hc⟩ : ∃ v0, wr.cell? ⟨wo.heap.size, q - 1, none⟩ = some v0 := by
            rw [hO.out.cellAt (q - 1) (by omega)]
            exact ⟨_, List.getElem?_eq_getElem (by simp [Lib.byteCells, hfl]; omega)⟩
          have hz := hO.out.frozenAt (q - 1)
          have hst := fillB_step 8 (8 - q) n8 (by omega)
          rw [show 8 - 1 - (8 - q) = q - 1 from by omega, show 8 - q + 1 = 8 - (q - 1) from by omega] at hst
          have hsto := (hO.out.stored (q - 1) (.int .u8 ((UInt8.ofNat (n8 / 256 ^ (8 - q) % 256)).toNat : Int))).1
          rw [byteCells_set, hst] at hsto
          have hds := dq_succ n8 (8 - q)
          rw [show 8 - q + 1 = 8 - (q - 1) from by omega] at hds
          have hdb := dq_byte n8 (8 - q)
          have hdl := dq_le n8 (8 - q)
          have HSTO := Lib.hid hsto
          have HDS := Lib.hid hds
          have HDB := Lib.hid hdb
          clear hst hsto hds hdb hfl
          generalize dq n8 (8 - q) = d at *
          have hd256 : (0 : Int) ≤ (d : Int) % 256 ∧ (d : Int) % 256 < 256 := by omega
          go_wp2_with fail
          rw [HDB.out]
          go_roundw
          case rel => exact ⟨q - 1, by omega, by go_num, by rw [HDS.out]; go_num, HSTO, Lib.hid (hBq.out.setCell (Nat.le_refl _) _)⟩
          case measure => simp [intOf]; omega
        · obtain rfl : q = 0 := by omega
          have hln : (128 :: List.replicate k (0 : UInt8)).length + 8 ≤ 1000000 := by
            rw [List.length_cons, List.length_replicate]
            exact Nat.le_trans (Nat.add_le_add_right (Nat.succ_le_of_lt hK1) 8) (by decide)
          have HLN := Lib.hid hln
          clear hln
          have hO2 := bytes_R_C hO.out (fillB_length 8 8 n8 (by omega))
          have hR2 := Lib.hid (Kd.R_below hR.out hBq.out)
          have HO2 := Lib.hid hO2
          have hB2 := Lib.hid (below_step hB.out hBq.out)
          have hrow2 := Lib.hid ((hBq.out.block w.heap.size (by omega)).trans hrow.out)
          have hsz2 : w.heap.size < wr.heap.size := Nat.lt_of_lt_of_le hsz1 hBq.out.size
          clear hO2 hO
          have hi148 : (Tryz.prog.info? 148).map (·.size) = some 10 := by kernel_rfl
          have hz148 : ∀ W, (zeroValue 148).run Tryz.prog W = .ok (.agg #[.int .u32 0, .int .u32 0, .int .u32 0, .int .u32 0, .int .u32 0, .int .u32 0, .int .u32 0, .int .u32 0, .string ⟨#[]⟩, .int .u64 0]) W := fun W => by kernel_rfl
          go_upto_region 11 with fail
          go_wp2_with (first
            | (at_builtin
               refine app_rows (w0 := w) w.heap.size rfl (.tmp 43) (.tmp 44) rfl _ (128 :: List.replicate k 0) (fillB 8 8 n8) _ _ _ rfl rfl hR2.out HO2.out hsz2 hB2.out HLN.out ?_
               intro v45 w6 hR6 hb6 hg6
               rw [HTL.out] at hR6
               have HR6 := Lib.hid hR6
               have HB6 := Lib.hid hb6
               have hs6 := hg6.size
               have hr6 := Lib.hid ((hg6.block w.heap.size hsz2 (fun e => absurd (hR2.out.1 _ e.symm) (Nat.lt_irrefl _))).trans hrow2.out)
               clear hR6 hb6 hg6
               obtain ⟨At, ct, rfl, hct, hCt⟩ := Kd.R_reads HR6.out
               have hcv : (convert 108 9 (.slice At (bts (Sh.tail n buf.size)).length ct)).run Tryz.prog w6 = .ok (.string (mkB (Sh.tail n buf.size))) w6 := by
                 rw [Kd.C_string Tryz.underlying108 Tryz.underlying5 Tryz.underlying9 hCt, bts, strOfNums_bytes]
               have hWr := rwrite_any H buf n (mkB (Sh.tail n buf.size)) w6 hl hx (by rw [S.mkB_size, HTLL.out]; omega) (by rw [S.mkB_size, HTLL.out]; omega)
               obtain ⟨hl2, hx2⟩ := Sh.blocks_ok (buf.data.toList.length + (mkB (Sh.tail n buf.size)).data.toList.length) H (buf.data.toList ++ (mkB (Sh.tail n buf.size)).data.toList) hl hx
               rw [show Sh.blocks (buf.data.toList.length + (mkB (Sh.tail n buf.size)).data.toList.length) H (buf.data.toList ++ (mkB (Sh.tail n buf.size)).data.toList) = Sh.take H buf.data.toList (mkB (Sh.tail n buf.size)).data.toList from by unfold Sh.take; rfl] at hl2 hx2
               have hfin : Sh.fin H buf.data.toList n = Sh.bytes (Sh.take H buf.data.toList (mkB (Sh.tail n buf.size)).data.toList).1 := by
                 rw [mkB_toList]; unfold Sh.fin; rw [show buf.data.toList.length = buf.size from by simp]
               have HF := Lib.hid hfin
               rw [HC.out] at hWr
               generalize (Sh.take H buf.data.toList (mkB (Sh.tail n buf.size)).data.toList).1 = HH at *
               generalize mkB (Sh.take H buf.data.toList (mkB (Sh.tail n buf.size)).data.toList).2 = buf2 at *
               generalize n + (mkB (Sh.tail n buf.size)).size = N2 at *
               generalize mkB (Sh.tail n buf.size) = T at *
               generalize (bts (Sh.tail n buf.size)).length = Lt at *
               obtain ⟨hcs, hco⟩ := cells_size HH buf2 N2 hl2
               have hmid : ∀ (b : Nat) (W : World), W.heap[b]? = some (.cells (sumCells HH buf2 N2).toArray 148) → W.rangeAt b 0 (wv HH) := by
                 intro b W h j v hv
                 rw [cell_of_row _ _ _ _ _ _ h]
                 simp only [Nat.zero_add, sumCells, List.getElem?_toArray]
                 rw [List.getElem?_append_left (by have := (List.getElem?_eq_some_iff.1 hv).1; exact this)]
                 exact hv
               have HMid := Lib.hid hmid
               generalize (sumCells HH buf2 N2).toArray = C2 at *
               have HWr := Lib.hid hWr
               have HCS := Lib.hid hcs
               have HCO := Lib.hid hco
               clear hWr hcs hco hmid hfin hct hCt)
            | (refine wpList_load_row rfl 148 _ rfl w.heap.size rfl 148 _ (0, 0) _ hr6.out Tryz.underlying148 rfl (by rw [hi148, HSC.out]) ?_)
            | (go_at_call 127
               with_reducible refine HWr.out.mono ?_
               rintro e w7 ⟨rfl, hb7⟩)
            | (refine wpList_store_row rfl 148 _ _ rfl w7.heap.size C2 rfl rfl 148 _ (heap_alloc_new _ _) (by rw [hi148, HCS.out]) (by rw [HCS.out]; rfl) HCO.out ?_
               obtain ⟨W8, hW8, HR8, HB8, hs8⟩ : ∃ W8, (w7.alloc (.cells zsum 148)).setRow w7.heap.size C2 = W8 ∧ Hid (W8.heap[w7.heap.size]? = some (.cells C2 148)) ∧ Hid (Below w.heap.size w W8) ∧ w7.heap.size < W8.heap.size :=
                 have h1 := below_step HB6.out hb7
                 ⟨_, rfl, Lib.hid (setRow_heap _ _ _ _ _ _ (heap_alloc_new _ _)), Lib.hid (below_setRow (h1.alloc h1.size _) h1.size _), by simp⟩
               unfold zsum at hW8
               rw [hW8]
               have hs7 := (below_step HB6.out hb7).size
               clear hW8 hb7)
            | (have hrg : (W8.alloc (.cells #[] 5)).rangeAt w7.heap.size 0 (wv HH) := HMid.out _ _ (by rw [heap_alloc_old _ _ hs8]; exact HR8.out)
               refine wpList_load_mid rfl 145 _ rfl w7.heap.size 0 rfl (wv HH) (.array 8 144) hrg (by kernel_rfl) rfl (by rw [show (wv HH).length = 8 from by simp [wv, hl2]]; kernel_rfl) ?_))
          have hown9 : (W8.alloc (.cells #[] 5)).ownsRow w.heap.size 5 1 (.slice (some ⟨W8.heap.size, 0, none⟩) 0 0) 0 (Lib.byteCells []) :=
            World.ownsRow_lit (size := 1) W8 #[] 0 HB8.out.size (by unfold maxLen; omega) rfl
          have HR9 : Hid (Kd.R (Kd.int .u8) 5 (W8.alloc (.cells #[] 5)) w.heap.size (fun k => w.heap.size < k) (.slice (some ⟨W8.heap.size, 0, none⟩) 0 0) (bts (Sh.bytes (HH.take 0)))) :=
            Lib.hid (bytes_R hown9 rfl (fun k hk => by simp [Value.ownBlock] at hk; omega))
          have HB9 := Lib.hid (HB8.out.alloc HB8.out.size (.cells #[] 5))
          have hs9 : w.heap.size < (W8.alloc (.cells #[] 5)).heap.size := by simp; omega
          clear hown9
          have hu26 : Tryz.prog.underlying 145 = some (.array 8 144) := by kernel_rfl
          have hHu := Lib.hid hu26
          have HX2 := Lib.hid hx2
          clear hu26 hx2 hx
          go_loopw [8, 53] (fun v i wr => ∃ (t : Nat) (vq : Value), vq = v ∧ t ≤ 8 ∧ i = .int .i64 t ∧ Hid (Kd.R (Kd.int .u8) 5 wr w.heap.size (fun k => w.heap.size < k) vq (bts (Sh.bytes (HH.take t)))) ∧ Hid (Below w.heap.size w wr) ∧ w.heap.size < wr.heap.size) (fun _ i _ => 8 - (intOf i).toNat)
          case atStart => exact ⟨0, _, rfl, by omega, rfl, HR9, HB9, hs9⟩
          case round =>
            obtain ⟨t, vo, rfl, ht, rfl, hRo, hBo, hso⟩ := hrel
            have hbl := bytes_length (HH.take t)
            rw [List.length_take, hl2, Nat.min_eq_left ht] at hbl
            have HBL := Lib.hid hbl
            clear hbl
            by_cases hlt8 : t < 8
            · have hix : (wv HH).toArray[t]? = some (.int .u32 (HH.getD t 0 : Nat)) := by
                apply wv_get
                rw [List.getD_eq_getElem?_getD, List.getElem?_eq_getElem (by omega)]; rfl
              have hxt : HH.getD t 0 < 4294967296 := by
                rw [List.getD_eq_getElem?_getD, List.getElem?_eq_getElem (by omega)]; exact HX2.out _ (List.getElem_mem _)
              have hbt := bytes_take HH t (by omega)
              have HBT := Lib.hid hbt
              clear hbt
              have hin : ∀ W, (Instr.index 145 (.agg (wv HH).toArray) (.int .i64 (t : Nat))).run Tryz.prog W = .ok (.int .u32 (HH.getD t 0 : Nat)) W := by
                intro W
                have h0 : (0 : Int) ≤ (t : Int) ∧ (t : Int) < 8 := by omega
                have hu : Tryz.prog.underlying 145 = some (.array 8 144) := hHu.out
                simp [Instr.index, run_underlying hu, asIntOf, h0, go_sem]
                rw [if_pos hlt8]
                simp [wv, List.getElem?_map, List.getElem?_eq_getElem (show t < HH.length by omega)]
              generalize HH.getD t 0 = x at *
              have hdt : decide ((t : Int) < 8) = true := by simp; omega
              generalize hwp : wr = wp at *
              clear hwp hix
              obtain ⟨i0, hi, hzz0, hzz1, hzz2⟩ := info_parts _root_.Go.Proofs.YtgcflmhlegagbaaGreatDoor.B.infoByte
              go_wp2_with (refine wpList_make_full _ rfl _ _ 108 rfl wp.heap.size 5 i0 (.int .u8 0) 1 Tryz.underlying108 hi hzz0 hzz1 .i64 .i64 _ _ 4 rfl rfl (by omega) (by omega) (by rw [hzz2]; omega) (by unfold maxLen; omega) (Nat.le_refl _) ?_)
              intro w5 hown hgrow
              rw [toList_madeCells_one] at hown
              have HW2 : Hid (w5.ownsRow wp.heap.size 5 1 (.slice (some ⟨wp.heap.size, 0, none⟩) 4 4) 4 (Lib.byteCells (fillB 4 0 x))) := by
                rw [fillB_zero, show Lib.byteCells (List.replicate 4 0) = List.replicate 4 (Value.int .u8 0) from by simp [Lib.byteCells]]
                exact Lib.hid hown
              have HB52 := Lib.hid ((Below.refl wp.heap.size wp).grown hgrow (Nat.le_refl _) (fun k hk => by cases hk))
              clear hown hgrow hi hzz0 hzz1 hzz2 hin
              go_wp2_with fail
              go_loopw [10, 12] (fun v i wr => ∃ q : Nat, q ≤ 4 ∧ i = .int .i64 q ∧ v = .int .u32 (dq x (4 - q) : Nat) ∧ Hid (wr.ownsRow wp.heap.size 5 1 (.slice (some ⟨wp.heap.size, 0, none⟩) 4 4) 4 (Lib.byteCells (fillB 4 (4 - q) x))) ∧ Hid (Below wp.heap.size wp wr)) (fun _ i _ => (intOf i).toNat)
              case atStart => exact ⟨4, by omega, rfl, by rw [Nat.sub_self, dq_zero], HW2, HB52⟩
              case round =>
                obtain ⟨q, hq, rfl, rfl, hO, hBq⟩ := hrel
                by_cases hlt2 : 0 < q
                · have hfl := fillB_length 4 (4 - q) x (by omega)
                  obtain ⟨v0, hc⟩ : ∃ v0, wr.cell? ⟨wp.heap.size, q - 1, none⟩ = some v0 := by
                    rw [hO.out.cellAt (q - 1) (by omega)]
                    exact ⟨_, List.getElem?_eq_getElem (by simp [Lib.byteCells, hfl]; omega)⟩
                  have hz := hO.out.frozenAt (q - 1)
                  have hst := fillB_step 4 (4 - q) x (by omega)
                  rw [show 4 - 1 - (4 - q) = q - 1 from by omega, show 4 - q + 1 = 4 - (q - 1) from by omega] at hst
                  have hsto := (hO.out.stored (q - 1) (.int .u8 ((UInt8.ofNat (x / 256 ^ (4 - q) % 256)).toNat : Int))).1
                  rw [byteCells_set, hst] at hsto
                  have hds := dq_succ x (4 - q)
                  rw [show 4 - q + 1 = 4 - (q - 1) from by omega] at hds
                  have hdb := dq_byte x (4 - q)
                  have hdl := dq_le x (4 - q)
                  have HSTO := Lib.hid hsto
                  have HDS := Lib.hid hds
                  have HDB := Lib.hid hdb
                  clear hst hsto hds hdb hfl
                  generalize dq x (4 - q) = d at *
                  have hd256 : (0 : Int) ≤ (d : Int) % 256 ∧ (d : Int) % 256 < 256 := by omega
                  go_wp2_with fail
                  rw [HDB.out]
                  go_roundw
                  case rel => exact ⟨q - 1, by omega, by go_num, by rw [HDS.out]; go_num, HSTO, Lib.hid (hBq.out.setCell (Nat.le_refl _) _)⟩
                  case measure => simp [intOf]; omega
                · obtain rfl : q = 0 := by omega
                  have hO2 := bytes_R_C hO.out (fillB_length 4 4 x (by omega))
                  have hR2 := Lib.hid (Kd.R_below hRo.out hBq.out)
                  have HO2 := Lib.hid hO2
                  have hB2 := Lib.hid (below_step hBo.out hBq.out)
                  have hsz2 : w.heap.size < wr.heap.size := Nat.lt_of_lt_of_le hso hBq.out.size
                  have hln : (Sh.bytes (HH.take t)).length + 4 ≤ 1000000 := by rw [HBL.out]; omega
                  have HLN2 := Lib.hid hln
                  have hfb : fillB 4 4 x = be 4 x := by unfold fillB; rfl
                  have HFB := Lib.hid hfb
                  clear hO2 hO hln hfb
                  go_wp2_with (first
                    | (at_builtin
                       refine app_rows (w0 := w) w.heap.size rfl (.tmp 70) (.tmp 71) rfl _ (Sh.bytes (HH.take t)) (fillB 4 4 x) _ _ _ rfl rfl hR2.out HO2.out hsz2 hB2.out HLN2.out ?_
                       intro v72 w6 hR6 hb6 hg6
                       rw [HFB.out, ← HBT.out] at hR6
                       have HR6 := Lib.hid hR6
                       have HB6 := Lib.hid hb6
                       have hs6 := hg6.size
                       clear hR6 hb6 hg6))
                  go_roundw
                  case rel => exact ⟨t + 1, _, rfl, by omega, by go_num, HR6, HB6, by omega⟩
                  case measure => simp [intOf]; omega
            · obtain rfl : t = 8 := by omega
              obtain ⟨Ax, cx, rfl, hcx, hCx⟩ := Kd.R_reads hRo.out
              have hcv2 : (convert 108 9 (.slice Ax (bts (Sh.bytes (HH.take 8))).length cx)).run Tryz.prog wr = .ok (.string (mkB (Sh.bytes (HH.take 8)))) wr := by
                rw [Kd.C_string Tryz.underlying108 Tryz.underlying5 Tryz.underlying9 hCx, bts, strOfNums_bytes]
              rw [List.take_of_length_le (show HH.length ≤ 8 by omega), ← HF.out] at hcv2
              rw [List.take_of_length_le (show HH.length ≤ 8 by omega), ← HF.out]
              generalize (bts (Sh.fin H buf.data.toList n)).length = Lx at *
              clear hCx hcx
              go_wp2_with fail
              go_ret
              exact ⟨rfl, hBo.out⟩
end Go.Proofs.YtgcflmhlegagbaaGreatDoor.K
end
section
set_option linter.unusedVariables false
set_option linter.unusedSimpArgs false
namespace Go.Proofs.YtgcflmhlegagbaaGreatDoor.K
open Go.RowKit Go.Proofs.YtgcflmhlegagbaaGreatDoorW.PrintWords Go.Proofs.YtgcflmhlegagbaaGreatDoorW.PrintLast Go.Proofs.YtgcflmhlegagbaaGreatDoorW.PrintMore
attribute [local go_sem] max2_int min2_int max_two min_two
attribute [local irreducible] Sh.sched Sh.rr Sh.ad Sh.sg0 Sh.sg1 S.num Sh.kw Sh.t1 Sh.t2 Sh.nt Sh.comp Sh.blocks Sh.take Sh.tail p2 dv dq fillB
open S (mkB be num)
def P8 (i : Nat) : List Nat := Sh.h0.take i ++ List.replicate (8 - i) 0
theorem P8_step (i : Nat) (h : i < 8) : ∃ z, (P8 i)[i]? = some z ∧ (P8 i).set i (Sh.h0.getD i 0) = P8 (i + 1) ∧ (P8 i).length = 8 := by
  have : i = 0 ∨ i = 1 ∨ i = 2 ∨ i = 3 ∨ i = 4 ∨ i = 5 ∨ i = 6 ∨ i = 7 := by omega
  rcases this with rfl | rfl | rfl | rfl | rfl | rfl | rfl | rfl <;> exact ⟨_, rfl, rfl, rfl⟩
theorem P8_end : P8 8 = Sh.h0 := rfl
theorem P8_zero : (sumCells (P8 0) ⟨#[]⟩ 0).toArray = zsum := rfl
attribute [local irreducible] Sh.h0 P8
set_option maxHeartbeats 4000000 in
set_option maxRecDepth 100000 in
theorem rnew_any (w : World) : Calls Tryz.prog 128 #[] w fun e w' => e = .returned (.agg (sumCells Sh.h0 ⟨#[]⟩ 0).toArray) ∧ Below w.heap.size w w' := by
  have hz148 : ∀ W, (zeroValue 148).run Tryz.prog W = .ok (.agg #[.int .u32 0, .int .u32 0, .int .u32 0, .int .u32 0, .int .u32 0, .int .u32 0, .int .u32 0, .int .u32 0, .string ⟨#[]⟩, .int .u64 0]) W := fun W => by kernel_rfl
  have hi148 : (Tryz.prog.info? 148).map (·.size) = some 10 := by kernel_rfl
  have hF := fun W => first_any W
  have HF := Lib.hid hF
  clear hF
  go_enter Tryz.func128, Tryz.ntmps128
  go_wp2_with fail
  refine (HF.out _).mono ?_
  rintro e w2 ⟨rfl, hrowF, hb2⟩
  have hr0 := Lib.hid (row_keep (heap_alloc2_old w (.cells zsum 148) (.cells zsum 148)) hb2)
  have hr1 := row_keep (heap_alloc2_new w (.cells zsum 148) (.cells zsum 148)) hb2
  have hsz : ((w.alloc (.cells zsum 148)).alloc (.cells zsum 148)).heap.size = w.heap.size + 2 := by simp
  have HB2 := Lib.hid (below_step (((Below.refl _ _).alloc (Nat.le_refl _) _).alloc (by simp) _) hb2)
  unfold zsum at hsz
  rw [hsz] at hrowF ⊢
  have HRF := Lib.hid hrowF
  have hr1' := Lib.hid (by rw [← P8_zero] at hr1; exact hr1)
  have h8l : Sh.h0.length = 8 := by unfold Sh.h0; rfl
  clear hb2 hsz hrowF hr1
  have HL8 := Lib.hid h8l
  clear h8l
  go_wp2_with fail
  go_loopw [7] (fun i wr => ∃ k : Nat, k ≤ 8 ∧ i = .int .i64 k ∧ Hid (wr.heap[w.heap.size + 1]? = some (.cells (sumCells (P8 k) ⟨#[]⟩ 0).toArray 148)) ∧ Hid (wr.heap[w.heap.size]? = some (.cells zsum 148)) ∧ Hid (wr.heap[w.heap.size + 2]? = some (.cells (wv Sh.h0).toArray 144)) ∧ Hid (Below w.heap.size w wr)) (fun i _ => 8 - (intOf i).toNat)
  case atStart => exact ⟨0, by omega, rfl, hr1', hr0, HRF, HB2⟩
  case round =>
    obtain ⟨k, hk, rfl, hX, hZ, hF, hB⟩ := hrel
    by_cases hlk : k < 8
    · obtain ⟨z, hz, hst, hpl⟩ := P8_step k hlk
      have cx : wr.cell? ⟨w.heap.size + 1, k, none⟩ = some (.int .u32 (z : Nat)) := (cell_of_row _ _ _ _ _ _ hX.out).trans (sumCells_get _ _ _ _ _ hz)
      have fx : wr.frozen? ⟨w.heap.size + 1, k, none⟩ = false := frozen_of_row _ _ _ _ _ hX.out
      have cf : wr.cell? ⟨w.heap.size + 2, k, none⟩ = some (.int .u32 (Sh.h0.getD k 0 : Nat)) := (cell_of_row _ _ _ _ _ _ hF.out).trans (wv_get _ _ _ (by
        rw [List.getD_eq_getElem?_getD, List.getElem?_eq_getElem (by rw [HL8.out]; exact hlk)]; rfl))
      have hs := set1 hX.out (sumCells_set (P8 k) k (Sh.h0.getD k 0) ⟨#[]⟩ 0 (by omega))
      rw [hst] at hs
      have HS := Lib.hid hs
      have hdk : decide ((k : Int) < 8) = true := by simp; omega
      clear hst hs
      generalize Sh.h0.getD k 0 = y at *
      go_wp2_with fail
      go_roundw
      case rel => exact ⟨k + 1, by omega, by go_num, HS, Lib.hid ((heap_setCell_other _ _ _ _ (by simp)).trans hZ.out), Lib.hid ((heap_setCell_other _ _ _ _ (by simp)).trans hF.out), Lib.hid (hB.out.setCell (by simp) _)⟩
      case measure => simp [intOf]; omega
    · obtain rfl : k = 8 := by omega
      have hX8 := hX.out
      rw [P8_end] at hX8
      obtain ⟨h1, h2⟩ := cells_size Sh.h0 ⟨#[]⟩ 0 HL8.out
      have HX8 := Lib.hid hX8
      have H1 := Lib.hid h1
      have H2 := Lib.hid h2
      clear hX8 h1 h2
      obtain ⟨C, hC⟩ : ∃ C, (sumCells Sh.h0 ⟨#[]⟩ 0).toArray = C := ⟨_, rfl⟩
      rw [hC] at HX8 H1 H2
      have HC := Lib.hid hC
      clear hC
      go_wp2_with (first
        | (refine wpList_load_row rfl 148 _ rfl (w.heap.size + 1) rfl 148 _ (0, 0) _ HX8.out Tryz.underlying148 rfl (by rw [hi148, H1.out]) ?_)
        | (refine wpList_store_row rfl 148 _ _ rfl w.heap.size _ rfl rfl 148 _ hZ.out (by rw [hi148, H1.out]) (by rw [H1.out]; rfl) H2.out ?_))
      refine bodyPost_ret (results_cell_row rfl _ _ w.heap.size 148 C (0, 0) _ rfl (setRow_heap _ _ _ _ _ _ hZ.out) Tryz.underlying148 rfl (by rw [hi148, H1.out])) rfl ?_
      exact ⟨by rw [HC.out], below_setRow hB.out (Nat.le_refl _) _⟩
theorem sum_fin (s : List UInt8) : Sh.fin (Sh.take Sh.h0 [] s).1 (Sh.take Sh.h0 [] s).2 s.length = Sh.sum s := by unfold Sh.sum; rfl
set_option maxHeartbeats 4000000 in
set_option maxRecDepth 100000 in
theorem rsum_any (s : ByteArray) (w : World) (hs : s.size ≤ 100000) : Calls Tryz.prog 106 #[.string s] w fun e w' => e = .returned (.string (mkB (Sh.sum (dat s)))) ∧ Below w.heap.size w w' := by
  have HN := Lib.hid (fun W => rnew_any W)
  obtain ⟨hl, hx⟩ := take_ok (dat s)
  have hrl := Sh.take_rest_length Sh.h0 [] (dat s)
  rw [List.length_nil, Nat.zero_add, dat_length] at hrl
  have hW := fun W => rwrite_any Sh.h0 ⟨#[]⟩ 0 s W h0_len h0_lt (by omega) (by show 0 + s.size < _; omega)
  rw [show (⟨#[]⟩ : ByteArray).data.toList = [] from rfl, show s.data.toList = dat s from rfl, Nat.zero_add] at hW
  have hE := fun W => rend_any (Sh.take Sh.h0 [] (dat s)).1 (mkB (Sh.take Sh.h0 [] (dat s)).2) s.size W hl hx (by omega) (by rw [S.mkB_size, hrl]; exact Nat.mod_lt _ (by decide))
  have e2 := sum_fin (dat s)
  rw [dat_length] at e2
  rw [mkB_toList, e2] at hE
  have HW := Lib.hid hW
  have HE := Lib.hid hE
  clear hW hE hl hx hrl e2
  go_enter Tryz.func106, Tryz.ntmps106
  go_wp2_with (first
    | (go_at_call 128
       with_reducible refine (HN.out _).mono ?_
       rintro e w1 ⟨rfl, hb1⟩
       have HB1 := Lib.hid hb1
       clear hb1)
    | (go_at_call 127
       with_reducible refine (HW.out _).mono ?_
       rintro e w2 ⟨rfl, hb2⟩
       have HB2 := Lib.hid (below_step HB1.out hb2)
       clear hb2)
    | (go_at_call 126
       with_reducible refine (HE.out _).mono ?_
       rintro e w3 ⟨rfl, hb3⟩
       have HB3 := Lib.hid (below_step HB2.out hb3)
       clear hb3))
  go_ret
  exact ⟨rfl, HB3.out⟩
end Go.Proofs.YtgcflmhlegagbaaGreatDoor.K
end
