import Derived.Test.YtjlmhndfpfgfkaaDoorTl
set_option linter.unusedVariables false
set_option linter.unusedSimpArgs false
namespace Go.Proofs.YtjlmhndfpfgfkaaDoor.E
open Go.RowKit Go.Proofs.YtjlmhndfpfgfkaaDoorW.PrintWords Go.Proofs.YtjlmhndfpfgfkaaDoorW.PrintLast Go.Proofs.YtjlmhndfpfgfkaaDoorW.PrintMore
attribute [local go_sem] max2_int min2_int max_two min_two
open S (mkB be num)
/-- a row of words of the call's own. -/
def RowAt (g n : Nat) (l : List Nat) (W : World) : Prop := l.length = n ∧ W.ownsRow g 25 1 (.slice (some ⟨g, 0, none⟩) n n) n (wv l)
theorem rowAt_cell {g n : Nat} {l : List Nat} {W : World} (h : RowAt g n l W) (j : Nat) (hj : j < n) : W.cell? ⟨g, j, none⟩ = some (.int .u64 (l.getD j 0 : Nat)) :=
  (h.2.cellAt j (by omega)).trans (wvl_get l j (by rw [h.1]; exact hj))
theorem rowAt_frozen {g n : Nat} {l : List Nat} {W : World} (h : RowAt g n l W) (j : Nat) : W.frozen? ⟨g, j, none⟩ = false := h.2.frozenAt j
theorem rowAt_below {g n : Nat} {l : List Nat} {W W' : World} (h : RowAt g n l W) (hb : Below W.heap.size W W') : RowAt g n l W' := ⟨h.1, pw_own_below h.2 hb⟩
theorem rowAt_set {g n : Nat} {l : List Nat} {W : World} (h : RowAt g n l W) (j x : Nat) : RowAt g n (l.set j x) (W.setCell ⟨g, j, none⟩ (.int .u64 (x : Nat))) := by
  have := (h.2.stored j (.int .u64 (x : Nat))).1
  rw [wvl_set] at this
  exact ⟨by rw [List.length_set]; exact h.1, this⟩
theorem rowAt_other {g n g' : Nat} {l : List Nat} {W : World} (h : RowAt g n l W) (hne : g ≠ g') (j : Nat) (v : Value) : RowAt g n l (W.setCell ⟨g', j, none⟩ v) :=
  ⟨h.1, own_move h.2 (fun k hk => heap_setCell_other _ _ _ _ (by simp [Value.ownBlock] at hk; show k ≠ g'; omega))⟩
theorem rowAt_lt {g n : Nat} {l : List Nat} {W : World} (h : RowAt g n l W) : g < W.heap.size := own_lt h.2 g (by simp [Value.ownBlock])
theorem rowAt_len {g n : Nat} {l : List Nat} {W : World} (h : RowAt g n l W) : l.length = n := h.1
theorem rowAt_zeros {g n : Nat} {W : World} (h : W.ownsRow g 25 1 (.slice (some ⟨g, 0, none⟩) n n) n (List.replicate n (Value.int .u64 0))) : RowAt g n (List.replicate n 0) W :=
  ⟨by simp, by rw [show wv (List.replicate n 0) = List.replicate n (Value.int .u64 0) from by simp [wv]]; exact h⟩
theorem rl_step {p deg s : Nat} {r R : List Nat} (h : Rt.rloop p deg (s + 1) r = some R) :
    r.getD (s / 16) 0 + 2 ^ (s % 16) < 65536 ∧ ((p * 65536 ^ (4 * deg) < Rt.val (r.set (s / 16) (r.getD (s / 16) 0 + 2 ^ (s % 16))) ^ deg ∧ Rt.rloop p deg s r = some R) ∨
      (¬ p * 65536 ^ (4 * deg) < Rt.val (r.set (s / 16) (r.getD (s / 16) 0 + 2 ^ (s % 16))) ^ deg ∧ Rt.rloop p deg s (r.set (s / 16) (r.getD (s / 16) 0 + 2 ^ (s % 16))) = some R)) := by
  rw [Rt.rloop] at h
  by_cases h1 : r.getD (s / 16) 0 + 2 ^ (s % 16) < 65536
  · rw [if_pos h1] at h
    by_cases h2 : p * 65536 ^ (4 * deg) < Rt.val (r.set (s / 16) (r.getD (s / 16) 0 + 2 ^ (s % 16))) ^ deg
    · rw [if_pos h2] at h; exact ⟨h1, .inl ⟨h2, h⟩⟩
    · rw [if_neg h2] at h; exact ⟨h1, .inr ⟨h2, h⟩⟩
  · rw [if_neg h1] at h; cases h
theorem set_back (r : List Nat) (v x : Nat) (h : v < r.length) : (r.set v x).set v (r.getD v 0) = r := by
  rw [List.set_set]
  apply List.ext_getElem?
  intro i
  rw [List.getElem?_set]
  split
  · rename_i e; subst e; rw [List.getD_eq_getElem?_getD, List.getElem?_eq_getElem h]; rfl
  · rfl
theorem whole_val (m p : Nat) : Rt.val ((List.replicate (m + 1) 0).set m p) = p * 65536 ^ m := by
  have := Rt.val_set (List.replicate (m + 1) 0) m p (by simp)
  rw [Rt.val_zeros] at this
  simp [List.getD_eq_getElem?_getD] at this
  exact this
theorem drop_val (l : List Nat) (q : Nat) (h : q < l.length) : Rt.val (l.drop q) = l.getD q 0 + 65536 * Rt.val (l.drop (q + 1)) := by
  rw [List.drop_eq_getElem_cons h, Rt.val]; simp [List.getD_eq_getElem?_getD, h]
theorem take_getD4 (r : List Nat) (q : Nat) (h : q < 4) : (r.take 4).getD q 0 = r.getD q 0 := Sh.take_getD r 4 q h
theorem rl_zero {p deg : Nat} {r R : List Nat} (h : Rt.rloop p deg 0 r = some R) : r = R := by rw [Rt.rloop] at h; exact Option.some.inj h
theorem drop_lt (r : List Nat) (hD : Rt.D r) (q : Nat) (h : q ≤ 4) : Rt.val ((r.take 4).drop q) < 18446744073709551616 := by
  refine Nat.lt_of_lt_of_le (Rt.val_lt _ (fun x hx => hD x (List.mem_of_mem_take (List.mem_of_mem_drop hx)))) ?_
  refine Nat.le_trans (Nat.pow_le_pow_right (by decide) (show ((r.take 4).drop q).length ≤ 4 by rw [List.length_drop, List.length_take]; omega)) (by decide)
theorem drop4 (r : List Nat) : Rt.val ((r.take 4).drop 4) = 0 := by rw [List.drop_eq_nil_of_le (by rw [List.length_take]; omega)]; rfl
attribute [local irreducible] Rt.val Rt.D RowAt Rt.rloop p2
set_option maxHeartbeats 4000000 in
set_option maxRecDepth 100000 in
theorem root_any (p deg n : Nat) (w : World) (hp : p < 65536) (hd : deg = 2 ∨ deg = 3) (hr : Rt.root p deg = some n) :
    Calls Tryd.prog 27 #[.int .u64 p, .int .i64 deg] w fun e w' => e = .returned (.int .u64 n) ∧ Below w.heap.size w w' := by
  have hdeg : 2 ≤ deg ∧ deg ≤ 3 := by omega
  obtain ⟨R, hR, hRn⟩ : ∃ R, Rt.rloop p deg 69 [0, 0, 0, 0, 0] = some R ∧ Rt.val (R.take 4) = n := by
    unfold Rt.root at hr
    cases h : Rt.rloop p deg 69 [0, 0, 0, 0, 0] with
    | none => rw [h] at hr; cases hr
    | some R => rw [h] at hr; exact ⟨R, rfl, by simpa using hr⟩
  have HR := Lib.hid hR
  have HRn := Lib.hid hRn
  clear hr hR hRn hd
  obtain ⟨i0, hi, hzz0, hzz1, hzz2⟩ := info_parts info25
  go_enter Tryd.func27, Tryd.ntmps27
  go_wp2_with (refine wpList_make_full _ rfl _ _ 31 rfl w.heap.size 25 i0 (.int .u64 0) 1 Tryd.underlying31 hi hzz0 hzz1 .i64 .i64 _ _ (4 * deg + 1) rfl rfl (by omega) (by omega) (by rw [hzz2]; omega) (by unfold maxLen; omega) (Nat.le_refl _) ?_)
  intro w1 hown hgrow
  rw [toList_madeCells_one] at hown
  have hW1 := rowAt_zeros hown
  have hB1 := (Below.refl w.heap.size w).grown hgrow (Nat.le_refl _) (fun k hk => by cases hk)
  have hg1 := rowAt_lt hW1
  have c1 := rowAt_cell hW1 (4 * deg) (by omega)
  have f1 := rowAt_frozen hW1 (4 * deg)
  have HW1 := Lib.hid hW1
  have HB1 := Lib.hid hB1
  clear hown hgrow hW1 hB1
  go_wp2_with (refine wpList_make_full _ rfl _ _ 31 rfl (w1.setCell ⟨w.heap.size, 4 * deg, none⟩ (.int .u64 (p : Nat))).heap.size 25 i0 (.int .u64 0) 1 Tryd.underlying31 hi hzz0 hzz1 .i64 .i64 _ _ 5 rfl rfl (by omega) (by omega) (by rw [hzz2]; omega) (by unfold maxLen; omega) (Nat.le_refl _) ?_)
  intro w2 hown hgrow
  rw [toList_madeCells_one] at hown
  have hR0 := rowAt_zeros hown
  have hW2 := rowAt_set HW1.out (4 * deg) p
  have hBs : Below w.heap.size w (w1.setCell ⟨w.heap.size, 4 * deg, none⟩ (.int .u64 (p : Nat))) := HB1.out.setCell (Nat.le_refl _) _
  have hB2 := (Below.refl (w1.setCell ⟨w.heap.size, 4 * deg, none⟩ (.int .u64 (p : Nat))).heap.size _).grown hgrow (Nat.le_refl _) (fun k hk => by cases hk)
  have hW3 := Lib.hid (rowAt_below hW2 hB2)
  have HB2 := Lib.hid (below_step hBs hB2)
  have hg2 := rowAt_lt hR0
  have hsz1 : (w1.setCell ⟨w.heap.size, 4 * deg, none⟩ (.int .u64 (p : Nat))).heap.size = w1.heap.size := by simp
  try rw [hsz1] at hR0
  try rw [hsz1] at hg2
  try rw [hsz1]
  have HR0 := Lib.hid hR0
  have hwv := Lib.hid (whole_val (4 * deg) p)
  have hwD : Hid (Rt.D ((List.replicate (4 * deg + 1) 0).set (4 * deg) p)) := Lib.hid (Rt.D_set (Rt.D_zeros _) hp)
  clear hown hgrow hi hzz0 hzz1 hzz2 c1 f1 hW2 hBs hB2 hsz1 hR0
  generalize (List.replicate (4 * deg + 1) 0).set (4 * deg) p = wl at *
  have hg12 : w.heap.size < w1.heap.size := hg1
  generalize hG : w1.heap.size = g at *
  clear hG HW1 HB1 hg1
  go_wp2_with fail
  go_loopw [7] (fun i wr => ∃ (k : Nat) (r : List Nat), k ≤ 69 ∧ i = .int .i64 ((k : Int) - 1) ∧ Hid (Rt.D r) ∧ Hid (Rt.rloop p deg k r = some R) ∧ Hid (RowAt g 5 r wr) ∧ Hid (RowAt w.heap.size (4 * deg + 1) wl wr) ∧ Hid (Below w.heap.size w wr)) (fun i _ => (intOf i + 1).toNat)
  case atStart => exact ⟨69, _, Nat.le_refl _, rfl, Lib.hid (Rt.D_zeros 5), HR, HR0, hW3, HB2⟩
  case round =>
    obtain ⟨k, r, hk, rfl, hD, hL, hRr, hWr, hB⟩ := hrel
    by_cases h0 : 0 < k
    · obtain ⟨s, rfl⟩ : ∃ s, k = s + 1 := ⟨k - 1, by omega⟩
      rw [show (((s + 1 : Nat) : Int) - 1) = (s : Int) from by omega]
      obtain ⟨hlt6, hcases⟩ := rl_step hL.out
      have hrl := rowAt_len hRr.out
      obtain ⟨u, hu⟩ : ∃ u, u = s % 16 := ⟨_, rfl⟩
      obtain ⟨v, hv⟩ : ∃ v, v = s / 16 := ⟨_, rfl⟩
      have hu1 : (s : Int) % 16 = (u : Int) := by omega
      have hv1 : (s : Int) / 16 = (v : Int) := by omega
      have hv2 : v < 5 := by omega
      have hu2 : u < 16 := by omega
      rw [← hu, ← hv] at hcases hlt6
      have hp2 : 2 ^ u = p2 u := by unfold p2; rfl
      rw [hp2] at hcases hlt6
      have HC := Lib.hid hcases
      have cR := rowAt_cell hRr.out v hv2
      have fR := rowAt_frozen hRr.out v
      have HU := Lib.hid hu
      have HV := Lib.hid hv
      have hdr := D_get hD.out v
      have hsb := Lib.hid (set_back r v (r.getD v 0 + p2 u) (by omega))
      clear hcases hu hv hp2
      generalize hrv : r.getD v 0 = rv at *
      have HRV := Lib.hid hrv
      clear hrv
      go_wp2_with fail
      go_loop [8, 9] (fun b i => ∃ j : Nat, j ≤ u ∧ i = .int .i64 j ∧ b = .int .u64 (p2 j : Nat)) (fun _ i => u - (intOf i).toNat)
      case atStart => exact ⟨0, Nat.zero_le _, rfl, by unfold p2; rfl⟩
      case round =>
        obtain ⟨j, hj, rfl, rfl⟩ := hrel
        by_cases hju : j < u
        · have hb1 := p2_b j (by omega)
          have hb2 := p2_b (j + 1) (by omega)
          rw [p2_s] at hb2
          have HS := Lib.hid (p2_s j)
          generalize p2 j = y at *
          go_wp2_with fail
          go_round
          case rel => exact ⟨j + 1, by omega, by go_num, by rw [HS.out]; go_num⟩
          case measure => simp [intOf]; omega
        · obtain rfl : j = u := by omega
          have hr1 := rowAt_set hRr.out v (rv + p2 j)
          rw [show ((rv + p2 j : Nat) : Int) = (rv : Int) + (p2 j : Int) from by omega] at hr1
          have hwl := rowAt_other hWr.out (show w.heap.size ≠ g by omega) v (.int .u64 ((rv : Int) + (p2 j : Int)))
          have hb1 : Below w.heap.size w (wr.setCell ⟨g, v, none⟩ (.int .u64 ((rv : Int) + (p2 j : Int)))) := hB.out.setCell (by show w.heap.size ≤ g; omega) _
          have hD1 := Rt.D_set (j := v) hD.out hlt6
          have Hr1 := Lib.hid hr1
          have Hwl := Lib.hid hwl
          have Hb1 := Lib.hid hb1
          have HD1 := Lib.hid hD1
          have hr1l := rowAt_len hr1
          have hgl := rowAt_lt hr1
          have hpb := p2_b j (by omega)
          clear hr1 hwl hb1 hD1
          go_wp2_with fail
          clear cR fR
          generalize hw1 : wr.setCell ⟨g, v, none⟩ (.int .u64 ((rv : Int) + (p2 j : Int))) = wx at *
          clear hw1
          generalize hr1e : r.set v (rv + p2 j) = r1 at *
          have HR1E := Lib.hid hr1e
          clear hr1e
          generalize p2 j = y at *
          go_loopw [10, 11] (fun q i wr => ∃ (i' : Nat) (ql : List Nat) (qg cq : Nat), 1 ≤ i' ∧ i' ≤ deg ∧ i = .int .i64 i' ∧ q = .slice (some ⟨qg, 0, none⟩) ql.length cq ∧ ql.length ≤ 5 * i' ∧ Hid (Rt.D ql) ∧ Hid (Rt.val ql = Rt.val r1 ^ i') ∧
              Hid (∀ j, j < ql.length → wr.cell? ⟨qg, j, none⟩ = some (.int .u64 (ql.getD j 0 : Nat))) ∧ qg < wr.heap.size ∧ Hid (RowAt g 5 r1 wr) ∧ Hid (RowAt w.heap.size (4 * deg + 1) wl wr) ∧ Hid (Below w.heap.size w wr)) (fun _ i _ => deg - (intOf i).toNat)
          case atStart =>
            refine ⟨1, r1, g, 5, Nat.le_refl _, by omega, rfl, by rw [hr1l], by omega, HD1, Lib.hid (by rw [Nat.pow_one]), Lib.hid (fun j hj => rowAt_cell Hr1.out j (by omega)), hgl, Hr1, Hwl, Hb1⟩
          case round =>
            obtain ⟨i', ql, qg, cq, hi1, hi2, rfl, rfl, hql, hDq, hVq, hCq, hqg, hRq, hWq, hBq⟩ := hrel
            by_cases hid : i' < deg
            · have hT := times_any ql r1 qg g cq 5 wr hqg (rowAt_lt hRq.out) hCq.out (fun j hj => rowAt_cell hRq.out j (by omega)) hDq.out HD1.out (by omega) (by omega)
              rw [hr1l] at hT
              have HT := Lib.hid hT
              clear hT
              go_wp2_with fail
              refine HT.out.mono ?_
              rintro e w3 ⟨l, rfl, hll, hDl, hvl, hown, hbl⟩
              have hRw : RowAt wr.heap.size (ql.length + 5) l w3 := by unfold RowAt; exact ⟨hll, hown⟩
              have HRw := Lib.hid hRw
              have HDl := Lib.hid hDl
              have HVl : Hid (Rt.val l = Rt.val r1 ^ (i' + 1)) := Lib.hid (by rw [hvl, hVq.out, Nat.pow_succ])
              have hq3 := Lib.hid (rowAt_below hRq.out hbl)
              have hW3' := Lib.hid (rowAt_below hWq.out hbl)
              have hB3 := Lib.hid (below_step hBq.out hbl)
              have hlt3 := rowAt_lt hRw
              have hdi : decide ((i' : Int) < (deg : Int)) = true := by simp; omega
              clear hown hbl hDl hvl hRw
              go_wp2_with fail
              go_roundw
              case rel => exact ⟨i' + 1, l, wr.heap.size, ql.length + 5, by omega, by omega, by go_num, by rw [hll], by omega, HDl, HVl, Lib.hid (fun j hj => rowAt_cell HRw.out j (by omega)), hlt3, hq3, hW3', hB3⟩
              case measure => simp [intOf]; omega
            · obtain rfl : i' = deg := by omega
              have hwll := rowAt_len hWq.out
              have hAb := above_any ql wl qg w.heap.size cq (4 * i' + 1) wr hCq.out (fun j hj => rowAt_cell hWq.out j (by omega)) hDq.out hwD.out (by omega) (by omega)
              rw [hwll, hwv.out, hVq.out] at hAb
              have cR := rowAt_cell hRq.out v hv2
              have fR := rowAt_frozen hRq.out v
              have hg1 : r1.getD v 0 = rv + y := by
                rw [← HR1E.out, List.getD_eq_getElem?_getD, List.getElem?_set, if_pos rfl, if_pos (by rw [hrl]; exact hv2)]; rfl
              rw [hg1] at cR
              rcases HC.out with ⟨hgt, hloop⟩ | ⟨hgt, hloop⟩
              · rw [show decide (p * 65536 ^ (4 * i') < Rt.val r1 ^ i') = true from by simp [hgt]] at hAb
                have HAb := Lib.hid hAb
                have hback := rowAt_set hRq.out v rv
                rw [hsb.out] at hback
                have hwb := rowAt_other hWq.out (show w.heap.size ≠ g by omega) v (.int .u64 (rv : Nat))
                have HBack := Lib.hid hback
                have HWb := Lib.hid hwb
                have HLoop := Lib.hid hloop
                clear hAb hback hwb hgt hloop hg1
                have hval : ((rv + y : Nat) : Int) - (y : Int) = (rv : Int) := by omega
                have hval2 : (rv : Int) + (y : Int) - (y : Int) = (rv : Int) := by omega
                go_wp2_with fail
                refine HAb.out.mono ?_
                rintro e w3 ⟨rfl, rfl⟩
                go_wp2_with fail
                go_roundw
                case rel => exact ⟨s, r, by omega, by go_num, hD, HLoop, HBack, HWb, Lib.hid (hBq.out.setCell (by show w.heap.size ≤ g; omega) _)⟩
                case measure => (simp [intOf] <;> omega)
              · rw [show decide (p * 65536 ^ (4 * i') < Rt.val r1 ^ i') = false from by simp; omega] at hAb
                have HAb := Lib.hid hAb
                have HLoop := Lib.hid hloop
                clear hAb hgt hloop hg1
                go_wp2_with fail
                refine HAb.out.mono ?_
                rintro e w3 ⟨rfl, rfl⟩
                go_wp2_with fail
                go_roundw
                case rel => exact ⟨s, r1, by omega, by go_num, HD1, HLoop, hRq, hWq, hBq⟩
                case measure => (simp [intOf] <;> omega)
    · obtain rfl : k = 0 := by omega
      obtain rfl : r = R := rl_zero hL.out
      have hrl := rowAt_len hRr.out
      go_wp2_with fail
      go_loop [12, 13] (fun b i => ∃ q : Nat, q ≤ 4 ∧ i = .int .i64 ((q : Int) - 1) ∧ b = .int .u64 (Rt.val ((r.take 4).drop q) : Nat)) (fun _ i => (intOf i + 1).toNat)
      case atStart => exact ⟨4, Nat.le_refl _, rfl, by rw [drop4]; rfl⟩
      case round =>
        obtain ⟨q, hq, rfl, rfl⟩ := hrel
        by_cases hq0 : 0 < q
        · obtain ⟨z, rfl⟩ : ∃ z, q = z + 1 := ⟨q - 1, by omega⟩
          rw [show (((z + 1 : Nat) : Int) - 1) = (z : Int) from by omega]
          have hstep := drop_val (r.take 4) z (by rw [List.length_take]; omega)
          rw [take_getD4 r z (by omega)] at hstep
          have cR := rowAt_cell hRr.out z (by omega)
          have hlt := drop_lt r hD.out z (by omega)
          rw [hstep] at hlt
          have HS := Lib.hid hstep
          clear hstep
          generalize Rt.val ((r.take 4).drop (z + 1)) = y at *
          generalize r.getD z 0 = x at *
          go_wp2_with fail
          go_round
          case rel => exact ⟨z, by omega, by go_num, by rw [HS.out]; go_num⟩
          case measure => (simp [intOf] <;> omega)
        · obtain rfl : q = 0 := by omega
          rw [List.drop_zero, HRn.out]
          go_wp2_with fail
          go_ret
          exact ⟨rfl, hB.out⟩
end Go.Proofs.YtjlmhndfpfgfkaaDoor.E
