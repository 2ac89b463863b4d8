/- The reference's meta.Right, for kind 4. -/
import Derived.Test.YtgcflmhlegagbaaGreatDoorQg
import Derived.Test.YtgcflmhlegagbaaGreatDoorQ7
import Derived.Deep.RegionHeld3
section
set_option linter.unusedVariables false
set_option linter.unusedSimpArgs false
namespace Go.Proofs.YtgcflmhlegagbaaGreatDoor.R
open Go.RowKit Go.Lib Go.Shelf Go.Proofs.YtgcflmhlegagbaaGreatDoorW.PrintWords Go.Proofs.YtgcflmhlegagbaaGreatDoorW.PrintLast Go.Proofs.YtgcflmhlegagbaaGreatDoorW.PrintMore
open E (dgP metaOk filesOk keysOk delegsOk allK fileP fileB rd70_nat)
open X (S25 k25 z25 at_T25 rd_T25 S53 k53 z53 S70 k70 z70)
def fileQ (l : List S25) (k : Nat) : Bool := fileB (l.getD k z25).f0 (l.getD k z25).f3 (l.getD k z25).f1 (l.getD k z25).f2
theorem filesOk_eq (l : List S25) : filesOk l = (ordOk l && (List.range l.length).all (fileQ l)) := by
  unfold filesOk ordOk allK fileP fileQ
  rw [Bool.eq_iff_iff]
  simp only [Bool.and_eq_true, List.all_eq_true, decide_eq_true_eq, ordAt, List.mem_range]
  constructor
  · rintro ⟨a, b⟩
    exact ⟨⟨fun k hk => (b k hk).2, a⟩, fun k hk => (b k hk).1⟩
  · rintro ⟨⟨a, b⟩, c⟩
    exact ⟨b, fun k hk => ⟨c k hk, a k hk⟩⟩
theorem fileB_eq (nm sm : ByteArray) (ver sz : Int) : fileB nm sm ver sz = (G.right false nm.data.toList && fileR nm ver sz sm) := by
  unfold fileB fileR
  simp only [Bool.and_assoc]
theorem all_no {p : Nat → Bool} {n k : Nat} (hk : k < n) (h : p k = false) : (List.range n).all p = false := by
  rw [Bool.eq_false_iff]
  intro h2
  rw [List.all_eq_true] at h2
  have := h2 k (List.mem_range.2 hk)
  rw [h] at this; cases this
theorem all_yes {p : Nat → Bool} {n : Nat} (h : ∀ k, k < n → p k = true) : (List.range n).all p = true := List.all_eq_true.2 (fun k hk => h k (List.mem_range.1 hk))
theorem metaOk_eq (v e : Int) (n4 : Nat) (lg : ByteArray) (files : List S25) (keys : List S70) (delegs : List S53) : metaOk v e n4 lg files keys delegs =
    (decide (1 ≤ v) && (decide (v ≤ 1000000) && (decide (0 ≤ e) && (decide (e ≤ 1099511627776) && (ordOk files && (decide (n4 = 0) && ((lg.toList == []) && (decide (delegs.length ≤ 16) && (keysR keys && ((List.range files.length).all (fileQ files) && (List.range delegs.length).all (fun k => dgP delegs k (delegs.getD k z53)))))))))))) := by
  have h1 : keysOk keys = keysR keys := (keysR_ok keys).symm
  unfold metaOk
  rw [filesOk_eq, h1]
  unfold delegsOk allK
  generalize decide (1 ≤ v) = a1
  generalize decide (v ≤ 1000000) = a2
  generalize decide (0 ≤ e) = a3
  generalize decide (e ≤ 1099511627776) = a4
  generalize ordOk files = a5
  generalize decide (n4 = 0) = a6
  generalize (lg.toList == []) = a7
  generalize decide (delegs.length ≤ 16) = a8
  generalize keysR keys = a9
  generalize (List.range files.length).all (fileQ files) = b1
  generalize List.all (List.range delegs.length) _ = b2
  cases a1 <;> cases a2 <;> cases a3 <;> cases a4 <;> cases a5 <;> cases a6 <;> cases a7 <;> cases a8 <;> cases a9 <;> cases b1 <;> cases b2 <;> rfl
/-- What the reference's Right wants of what it is asked about. -/
structure Fit (files : List S25) (keys : List S70) (delegs : List S53) : Prop where
  lf : files.length ≤ 1000
  lk : keys.length ≤ 1000
  ld : delegs.length ≤ 1000
  nf : ∀ i, (files.getD i z25).f0.size ≤ 140737488351232
  nk : ∀ i, (keys.getD i z70).f0.size ≤ 140737488351232
  nd : ∀ i, (delegs.getD i z53).f0.size ≤ 140737488351232
  ni : ∀ i j, ((delegs.getD i z53).f1.f0.getD j ByteArray.empty).size ≤ 140737488351232
  np : ∀ i, ∀ p ∈ (delegs.getD i z53).f2, p.size ≤ 140737488351232
attribute [local irreducible] G.right Nm.nameOk dgP ordOk keysR fileR fileQ metaOk
set_option maxHeartbeats 8000000 in
set_option maxRecDepth 100000 in
theorem meta_c (v e : Int) (lg : ByteArray) (A3 A4 A6 A7 : Option Addr) (n4 c3 c4 c6 c7 : Nat) (keys : List S70) (files : List S25) (delegs : List S53) (w : World)
    (hC3 : Kd.C k70 w A3 keys.length keys) (l3 : keys.length ≤ c3) (hC6 : Kd.C k25 w A6 files.length files) (l6 : files.length ≤ c6) (hC7 : Kd.C k53 w A7 delegs.length delegs) (l7 : delegs.length ≤ c7) (hfit : Fit files keys delegs) :
    Calls Tryz.prog 24 #[.agg #[.int .i64 4, .int .i64 v, .int .i64 e, .slice A3 keys.length c3, .slice A4 n4 c4, .string lg, .slice A6 files.length c6, .slice A7 delegs.length c7]] w fun e1 w' => e1 = .returned (.bool (metaOk v e n4 lg files keys delegs)) ∧ Below w.heap.size w w' := by
  have hbA : Below w.heap.size w (w.alloc (.cells #[.int .i64 4, .int .i64 v, .int .i64 e, .slice A3 keys.length c3, .slice A4 n4 c4, .string lg, .slice A6 files.length c6, .slice A7 delegs.length c7] 46)) := below_alloc (Below.refl _ _) _
  have HFIT := Aside0.mk hfit
  have HO := Aside0.mk (ord_c A6 c6 files (w.alloc (.cells #[.int .i64 4, .int .i64 v, .int .i64 e, .slice A3 keys.length c3, .slice A4 n4 c4, .string lg, .slice A6 files.length c6, .slice A7 delegs.length c7] 46)) (Kd.C_below hC6 hbA) l6 hfit.lf hfit.nf)
  have HK := Aside0.mk (fun (W : World) (hb : Below w.heap.size w W) => keys_c A3 c3 keys W (Kd.C_below hC3 hb) l3 hfit.lk hfit.nk)
  have HDG0 := Aside0.mk (fun (W : World) (hb : Below w.heap.size w W) (k : Nat) (hk : k < delegs.length) => deleg_c A7 c7 delegs k W (Kd.C_below hC7 hb) l7 hfit.ld hk (hfit.nd k) (hfit.ni k) (hfit.np k))
  have HC6 := Aside0.mk hC6
  have HQ0 := Aside0.mk (show (w.alloc (.cells #[.int .i64 4, .int .i64 v, .int .i64 e, .slice A3 keys.length c3, .slice A4 n4 c4, .string lg, .slice A6 files.length c6, .slice A7 delegs.length c7] 46)).cell? ⟨w.heap.size, 0, none⟩ = some (.int .i64 4) by simp)
  have HQ1 := Aside0.mk (show (w.alloc (.cells #[.int .i64 4, .int .i64 v, .int .i64 e, .slice A3 keys.length c3, .slice A4 n4 c4, .string lg, .slice A6 files.length c6, .slice A7 delegs.length c7] 46)).cell? ⟨w.heap.size, 1, none⟩ = some (.int .i64 v) by simp)
  have HQ2 := Aside0.mk (show (w.alloc (.cells #[.int .i64 4, .int .i64 v, .int .i64 e, .slice A3 keys.length c3, .slice A4 n4 c4, .string lg, .slice A6 files.length c6, .slice A7 delegs.length c7] 46)).cell? ⟨w.heap.size, 2, none⟩ = some (.int .i64 e) by simp)
  have HQ3 := Aside0.mk (show (w.alloc (.cells #[.int .i64 4, .int .i64 v, .int .i64 e, .slice A3 keys.length c3, .slice A4 n4 c4, .string lg, .slice A6 files.length c6, .slice A7 delegs.length c7] 46)).cell? ⟨w.heap.size, 3, none⟩ = some (.slice A3 keys.length c3) by simp)
  have HQ4 := Aside0.mk (show (w.alloc (.cells #[.int .i64 4, .int .i64 v, .int .i64 e, .slice A3 keys.length c3, .slice A4 n4 c4, .string lg, .slice A6 files.length c6, .slice A7 delegs.length c7] 46)).cell? ⟨w.heap.size, 4, none⟩ = some (.slice A4 n4 c4) by simp)
  have HQ5 := Aside0.mk (show (w.alloc (.cells #[.int .i64 4, .int .i64 v, .int .i64 e, .slice A3 keys.length c3, .slice A4 n4 c4, .string lg, .slice A6 files.length c6, .slice A7 delegs.length c7] 46)).cell? ⟨w.heap.size, 5, none⟩ = some (.string lg) by simp)
  have HQ6 := Aside0.mk (show (w.alloc (.cells #[.int .i64 4, .int .i64 v, .int .i64 e, .slice A3 keys.length c3, .slice A4 n4 c4, .string lg, .slice A6 files.length c6, .slice A7 delegs.length c7] 46)).cell? ⟨w.heap.size, 6, none⟩ = some (.slice A6 files.length c6) by simp)
  have HQ7 := Aside0.mk (show (w.alloc (.cells #[.int .i64 4, .int .i64 v, .int .i64 e, .slice A3 keys.length c3, .slice A4 n4 c4, .string lg, .slice A6 files.length c6, .slice A7 delegs.length c7] 46)).cell? ⟨w.heap.size, 7, none⟩ = some (.slice A7 delegs.length c7) by simp)
  have HBA := Aside0.mk hbA
  have eM := metaOk_eq v e n4 lg files keys delegs
  generalize metaOk v e n4 lg files keys delegs = R at *
  generalize ordOk files = bo at *
  generalize keysR keys = bk at *
  clear hbA hC3 hC6 hC7 hfit
  go_enter Tryz.func24, Tryz.ntmps24
  by_cases hv1 : v < 1
  · have hF : R = false := by rw [eM, decide_eq_false (show ¬ 1 ≤ v by omega)]; rfl
    clear eM HO HK HDG0
    go_wp2
    go_ret
    exact ⟨by first | rfl | (rw [hF]; rfl), HBA.out⟩
  by_cases hv2 : 1000000 < v
  · have hF : R = false := by rw [eM, decide_eq_false (show ¬ v ≤ 1000000 by omega), Bool.false_and, Bool.and_false]
    clear eM HO HK HDG0
    go_wp2
    go_ret
    exact ⟨by first | rfl | (rw [hF]; rfl), HBA.out⟩
  by_cases he1 : e < 0
  · have hF : R = false := by rw [eM, decide_eq_false (show ¬ 0 ≤ e by omega), Bool.false_and, Bool.and_false, Bool.and_false]
    clear eM HO HK HDG0
    go_wp2
    go_ret
    exact ⟨by first | rfl | (rw [hF]; rfl), HBA.out⟩
  by_cases he2 : 1099511627776 < e
  · have hF : R = false := by rw [eM, decide_eq_false (show ¬ e ≤ 1099511627776 by omega), Bool.false_and, Bool.and_false, Bool.and_false, Bool.and_false]
    clear eM HO HK HDG0
    go_wp2
    go_ret
    exact ⟨by first | rfl | (rw [hF]; rfl), HBA.out⟩
  rw [decide_eq_true (show 1 ≤ v by omega), decide_eq_true (show v ≤ 1000000 by omega), decide_eq_true (show 0 ≤ e by omega), decide_eq_true (show e ≤ 1099511627776 by omega), Bool.true_and, Bool.true_and, Bool.true_and, Bool.true_and] at eM
  cases bo
  · have hF : R = false := by rw [eM]; rfl
    clear eM HK HDG0
    go_wp2_with (first
      | (go_at_call 48; (with_reducible refine HO.out.mono ?_); rintro e1 w1 ⟨rfl, hb1⟩; have B1 := Aside0.mk (below_step HBA.out hb1); have m0 := (hb1.cell (World.block_lt_of_cell? _ _ HQ0.out)).trans HQ0.out; have m1 := (hb1.cell (World.block_lt_of_cell? _ _ HQ1.out)).trans HQ1.out; have m2 := (hb1.cell (World.block_lt_of_cell? _ _ HQ2.out)).trans HQ2.out; have m3 := (hb1.cell (World.block_lt_of_cell? _ _ HQ3.out)).trans HQ3.out; have m4 := (hb1.cell (World.block_lt_of_cell? _ _ HQ4.out)).trans HQ4.out; have m5 := (hb1.cell (World.block_lt_of_cell? _ _ HQ5.out)).trans HQ5.out; have m6 := (hb1.cell (World.block_lt_of_cell? _ _ HQ6.out)).trans HQ6.out; have m7 := (hb1.cell (World.block_lt_of_cell? _ _ HQ7.out)).trans HQ7.out; clear hb1))
    go_ret
    exact ⟨by first | rfl | (rw [hF]; rfl), B1.out⟩
  rw [Bool.true_and] at eM
  by_cases hn4 : n4 = 0
  · subst hn4
    rw [decide_eq_true rfl, Bool.true_and] at eM
    cases hlg : (lg.toList == [])
    · have hF : R = false := by rw [eM, hlg]; rfl
      have hlg2 : lg.toList ≠ [] := beq_eq_false_iff_ne.1 hlg
      clear eM HK HDG0
      go_wp2_with (first
        | (go_at_call 48; (with_reducible refine HO.out.mono ?_); rintro e1 w1 ⟨rfl, hb1⟩; have B1 := Aside0.mk (below_step HBA.out hb1); have m0 := (hb1.cell (World.block_lt_of_cell? _ _ HQ0.out)).trans HQ0.out; have m1 := (hb1.cell (World.block_lt_of_cell? _ _ HQ1.out)).trans HQ1.out; have m2 := (hb1.cell (World.block_lt_of_cell? _ _ HQ2.out)).trans HQ2.out; have m3 := (hb1.cell (World.block_lt_of_cell? _ _ HQ3.out)).trans HQ3.out; have m4 := (hb1.cell (World.block_lt_of_cell? _ _ HQ4.out)).trans HQ4.out; have m5 := (hb1.cell (World.block_lt_of_cell? _ _ HQ5.out)).trans HQ5.out; have m6 := (hb1.cell (World.block_lt_of_cell? _ _ HQ6.out)).trans HQ6.out; have m7 := (hb1.cell (World.block_lt_of_cell? _ _ HQ7.out)).trans HQ7.out; clear hb1))
      go_ret
      exact ⟨by first | rfl | (rw [hF]; rfl), B1.out⟩
    · rw [hlg, Bool.true_and] at eM
      have hlg2 : lg.toList = [] := beq_iff_eq.1 hlg
      by_cases hd : 16 < delegs.length
      · have hF : R = false := by rw [eM, decide_eq_false (show ¬ delegs.length ≤ 16 by omega)]; rfl
        have hdz : (16 : Int) < (delegs.length : Int) := by omega
        clear eM HK HDG0
        go_wp2_with (first
          | (go_at_call 48; (with_reducible refine HO.out.mono ?_); rintro e1 w1 ⟨rfl, hb1⟩; have B1 := Aside0.mk (below_step HBA.out hb1); have m0 := (hb1.cell (World.block_lt_of_cell? _ _ HQ0.out)).trans HQ0.out; have m1 := (hb1.cell (World.block_lt_of_cell? _ _ HQ1.out)).trans HQ1.out; have m2 := (hb1.cell (World.block_lt_of_cell? _ _ HQ2.out)).trans HQ2.out; have m3 := (hb1.cell (World.block_lt_of_cell? _ _ HQ3.out)).trans HQ3.out; have m4 := (hb1.cell (World.block_lt_of_cell? _ _ HQ4.out)).trans HQ4.out; have m5 := (hb1.cell (World.block_lt_of_cell? _ _ HQ5.out)).trans HQ5.out; have m6 := (hb1.cell (World.block_lt_of_cell? _ _ HQ6.out)).trans HQ6.out; have m7 := (hb1.cell (World.block_lt_of_cell? _ _ HQ7.out)).trans HQ7.out; clear hb1))
        go_ret
        exact ⟨by first | rfl | (rw [hF]; rfl), B1.out⟩
      have hdz : ¬ (16 : Int) < (delegs.length : Int) := by omega
      rw [decide_eq_true (show delegs.length ≤ 16 by omega), Bool.true_and] at eM
      cases bk
      · have hF : R = false := by rw [eM]; rfl
        clear eM HDG0
        go_wp2_with (first
          | (go_at_call 48; (with_reducible refine HO.out.mono ?_); rintro e1 w1 ⟨rfl, hb1⟩; have B1 := Aside0.mk (below_step HBA.out hb1); have m0 := (hb1.cell (World.block_lt_of_cell? _ _ HQ0.out)).trans HQ0.out; have m1 := (hb1.cell (World.block_lt_of_cell? _ _ HQ1.out)).trans HQ1.out; have m2 := (hb1.cell (World.block_lt_of_cell? _ _ HQ2.out)).trans HQ2.out; have m3 := (hb1.cell (World.block_lt_of_cell? _ _ HQ3.out)).trans HQ3.out; have m4 := (hb1.cell (World.block_lt_of_cell? _ _ HQ4.out)).trans HQ4.out; have m5 := (hb1.cell (World.block_lt_of_cell? _ _ HQ5.out)).trans HQ5.out; have m6 := (hb1.cell (World.block_lt_of_cell? _ _ HQ6.out)).trans HQ6.out; have m7 := (hb1.cell (World.block_lt_of_cell? _ _ HQ7.out)).trans HQ7.out; clear hb1)
          | (go_at_call 50; (with_reducible refine (HK.out _ B1.out).mono ?_); rintro e2 w2 ⟨rfl, hb2⟩; have B2 := Aside0.mk (below_step B1.out hb2); replace m0 := (hb2.cell (World.block_lt_of_cell? _ _ m0)).trans m0; replace m1 := (hb2.cell (World.block_lt_of_cell? _ _ m1)).trans m1; replace m2 := (hb2.cell (World.block_lt_of_cell? _ _ m2)).trans m2; replace m3 := (hb2.cell (World.block_lt_of_cell? _ _ m3)).trans m3; replace m4 := (hb2.cell (World.block_lt_of_cell? _ _ m4)).trans m4; replace m5 := (hb2.cell (World.block_lt_of_cell? _ _ m5)).trans m5; replace m6 := (hb2.cell (World.block_lt_of_cell? _ _ m6)).trans m6; replace m7 := (hb2.cell (World.block_lt_of_cell? _ _ m7)).trans m7; clear hb2))
        go_ret
        exact ⟨by first | rfl | (rw [hF]; rfl), B2.out⟩
      rw [Bool.true_and] at eM
      have HEM := Lib.hid eM
      clear eM
      go_wp2_with (first
        | (go_at_call 48; (with_reducible refine HO.out.mono ?_); rintro e1 w1 ⟨rfl, hb1⟩; have B1 := Aside0.mk (below_step HBA.out hb1); have m0 := (hb1.cell (World.block_lt_of_cell? _ _ HQ0.out)).trans HQ0.out; have m1 := (hb1.cell (World.block_lt_of_cell? _ _ HQ1.out)).trans HQ1.out; have m2 := (hb1.cell (World.block_lt_of_cell? _ _ HQ2.out)).trans HQ2.out; have m3 := (hb1.cell (World.block_lt_of_cell? _ _ HQ3.out)).trans HQ3.out; have m4 := (hb1.cell (World.block_lt_of_cell? _ _ HQ4.out)).trans HQ4.out; have m5 := (hb1.cell (World.block_lt_of_cell? _ _ HQ5.out)).trans HQ5.out; have m6 := (hb1.cell (World.block_lt_of_cell? _ _ HQ6.out)).trans HQ6.out; have m7 := (hb1.cell (World.block_lt_of_cell? _ _ HQ7.out)).trans HQ7.out; clear hb1)
        | (go_at_call 50; (with_reducible refine (HK.out _ B1.out).mono ?_); rintro e2 w2 ⟨rfl, hb2⟩; have B2 := Aside0.mk (below_step B1.out hb2); replace m0 := (hb2.cell (World.block_lt_of_cell? _ _ m0)).trans m0; replace m1 := (hb2.cell (World.block_lt_of_cell? _ _ m1)).trans m1; replace m2 := (hb2.cell (World.block_lt_of_cell? _ _ m2)).trans m2; replace m3 := (hb2.cell (World.block_lt_of_cell? _ _ m3)).trans m3; replace m4 := (hb2.cell (World.block_lt_of_cell? _ _ m4)).trans m4; replace m5 := (hb2.cell (World.block_lt_of_cell? _ _ m5)).trans m5; replace m6 := (hb2.cell (World.block_lt_of_cell? _ _ m6)).trans m6; replace m7 := (hb2.cell (World.block_lt_of_cell? _ _ m7)).trans m7; clear hb2))
      have M0 := Aside0.mk m0
      have M7 := Aside0.mk m7
      have hlf := HFIT.out.lf
      have hld := HFIT.out.ld
      clear m0 m1 m2 m3 m4 m5 m6 m7
      go_loopg [135] files.length (fun gg s135 wr => ∃ k : Nat, k ≤ files.length ∧ files.length - k ≤ gg ∧ s135 = .int .i64 k ∧ Aside (Below w2.heap.size w2 wr) ∧ Aside (∀ j, j < k → fileQ files j = true))
      case atStart => exact ⟨0, Nat.zero_le _, by omega, rfl, Below.refl _ _, fun j hj => absurd hj (Nat.not_lt_zero _)⟩
      case round =>
        obtain ⟨k, hk, hg, rfl, BW, AQ⟩ := hrel
        by_cases hlt : k < files.length
        · have hltz : (k : Int) < (files.length : Int) := by omega
          have hk0 : (0 : Int) ≤ (k : Int) := by omega
          obtain ⟨ad, rfl, c0, c1, c2, c3'⟩ := at_T25 HC6.out (k : Int) (by omega) (by omega)
          rw [rd25, Int.toNat_natCast] at c0 c1 c2 c3'
          have hfs := HFIT.out.nf k
          have eQ : fileQ files k = (G.right false (files.getD k z25).f0.data.toList && fileR (files.getD k z25).f0 (files.getD k z25).f1 (files.getD k z25).f2 (files.getD k z25).f3) := by
            rw [← fileB_eq]; unfold fileQ; rfl
          obtain ⟨f, hf⟩ : ∃ f, files.getD k z25 = f := ⟨_, rfl⟩
          rw [hf] at c0 c1 c2 c3' hfs eQ
          replace c0 := (B2.out.cell (World.block_lt_of_cell? w _ c0)).trans c0
          replace c0 := (BW.out.cell (World.block_lt_of_cell? w2 _ c0)).trans c0
          replace c1 := (B2.out.cell (World.block_lt_of_cell? w _ c1)).trans c1
          replace c1 := (BW.out.cell (World.block_lt_of_cell? w2 _ c1)).trans c1
          replace c2 := (B2.out.cell (World.block_lt_of_cell? w _ c2)).trans c2
          replace c2 := (BW.out.cell (World.block_lt_of_cell? w2 _ c2)).trans c2
          replace c3' := (B2.out.cell (World.block_lt_of_cell? w _ c3')).trans c3'
          replace c3' := (BW.out.cell (World.block_lt_of_cell? w2 _ c3')).trans c3'
          have HFL := Aside0.mk (fun W => file_c f.f0 f.f1 f.f2 f.f3 W)
          have HGL := Aside0.mk (fun W => glob_c f.f0 false W hfs)
          generalize fileR f.f0 f.f1 f.f2 f.f3 = bf at *
          generalize G.right false f.f0.data.toList = bg at *
          have hb2 : Below wr.heap.size wr (wr.alloc (.cells #[.string f.f0, .int .i64 f.f1, .int .i64 f.f2, .string f.f3] 25)) := below_alloc (Below.refl _ _) _
          have BA2 := Aside0.mk (below_step BW.out hb2)
          have F0 := (BW.out.cell (World.block_lt_of_cell? _ _ M0.out)).trans M0.out
          have K0 := Aside0.mk ((hb2.cell (World.block_lt_of_cell? _ _ F0)).trans F0)
          have kk0 := K0.out
          have P0 := Aside0.mk (show (wr.alloc (.cells #[.string f.f0, .int .i64 f.f1, .int .i64 f.f2, .string f.f3] 25)).cell? ⟨wr.heap.size, 0, none⟩ = some (.string f.f0) by simp)
          have P1 := Aside0.mk (show (wr.alloc (.cells #[.string f.f0, .int .i64 f.f1, .int .i64 f.f2, .string f.f3] 25)).cell? ⟨wr.heap.size, 1, none⟩ = some (.int .i64 f.f1) by simp)
          have P2 := Aside0.mk (show (wr.alloc (.cells #[.string f.f0, .int .i64 f.f1, .int .i64 f.f2, .string f.f3] 25)).cell? ⟨wr.heap.size, 2, none⟩ = some (.int .i64 f.f2) by simp)
          have P3 := Aside0.mk (show (wr.alloc (.cells #[.string f.f0, .int .i64 f.f1, .int .i64 f.f2, .string f.f3] 25)).cell? ⟨wr.heap.size, 3, none⟩ = some (.string f.f3) by simp)
          clear hb2 hf
          cases bf
          · have hF : R = false := by rw [HEM.out, all_no hlt (by rw [eQ, Bool.and_false])]; rfl
            clear eQ
            go_wp2_with (first
              | (go_at_call 51; (with_reducible refine (HFL.out _).mono ?_); rintro e4 w4 ⟨rfl, hb4⟩; have B4 := Aside0.mk (below_step BA2.out hb4); have x0 := (hb4.cell (World.block_lt_of_cell? _ _ K0.out)).trans K0.out; have y0 := (hb4.cell (World.block_lt_of_cell? _ _ P0.out)).trans P0.out; clear hb4))
            go_ret
            exact ⟨by first | rfl | (rw [hF]; rfl), below_step B2.out B4.out⟩
          cases bg
          · have hF : R = false := by rw [HEM.out, all_no hlt (by rw [eQ]; rfl)]; rfl
            clear eQ
            go_wp2_with (first
              | (go_at_call 51; (with_reducible refine (HFL.out _).mono ?_); rintro e4 w4 ⟨rfl, hb4⟩; have B4 := Aside0.mk (below_step BA2.out hb4); have x0 := (hb4.cell (World.block_lt_of_cell? _ _ K0.out)).trans K0.out; have y0 := (hb4.cell (World.block_lt_of_cell? _ _ P0.out)).trans P0.out; clear hb4)
              | (go_at_call 52; (with_reducible refine (HGL.out _).mono ?_); rintro e5 w5 ⟨rfl, hb5⟩; have B5 := Aside0.mk (below_step B4.out hb5); clear hb5))
            go_ret
            exact ⟨by first | rfl | (rw [hF]; rfl), below_step B2.out B5.out⟩
          have AQ2 := Aside0.mk (show ∀ j, j < k + 1 → fileQ files j = true from fun j hj => by
            by_cases ej : j = k
            · subst ej; rw [eQ]; rfl
            · exact AQ.out j (by omega))
          clear eQ
          go_wp2_with (first
            | (go_at_call 51; (with_reducible refine (HFL.out _).mono ?_); rintro e4 w4 ⟨rfl, hb4⟩; have B4 := Aside0.mk (below_step BA2.out hb4); have x0 := (hb4.cell (World.block_lt_of_cell? _ _ K0.out)).trans K0.out; have y0 := (hb4.cell (World.block_lt_of_cell? _ _ P0.out)).trans P0.out; clear hb4)
            | (go_at_call 52; (with_reducible refine (HGL.out _).mono ?_); rintro e5 w5 ⟨rfl, hb5⟩; have B5 := Aside0.mk (below_step B4.out hb5); clear hb5))
          go_roundg (files.length - (k + 1))
          case measure => omega
          case rel => exact ⟨k + 1, by omega, by omega, by go_num, B5.out, AQ2.out⟩
        · have hltz : ¬ (k : Int) < (files.length : Int) := by omega
          have hEM := HEM.out
          rw [all_yes (fun j hj => AQ.out j (by omega)), Bool.true_and] at hEM
          have HEM2 := Lib.hid hEM
          have F7 := (BW.out.cell (World.block_lt_of_cell? _ _ M7.out)).trans M7.out
          clear hEM HEM AQ
          go_wp2
          clear F7
          have BW3 := Aside0.mk BW.out
          generalize hwo2 : wr = wo2 at *
          clear hwo2 BW
          go_loopg [181] delegs.length (fun gg s181 wr => ∃ k : Nat, k ≤ delegs.length ∧ delegs.length - k ≤ gg ∧ s181 = .int .i64 k ∧ Aside (Below w2.heap.size w2 wr) ∧ Aside (∀ j, j < k → dgP delegs j (delegs.getD j z53) = true))
          case atStart => exact ⟨0, Nat.zero_le _, by omega, rfl, BW3.out, fun j hj => absurd hj (Nat.not_lt_zero _)⟩
          case round =>
            obtain ⟨m, hm, hg2, rfl, BY, AD⟩ := hrel
            by_cases hltm : m < delegs.length
            · have hltmz : (m : Int) < (delegs.length : Int) := by omega
              have F7 := (BY.out.cell (World.block_lt_of_cell? _ _ M7.out)).trans M7.out
              have BD := Aside0.mk (below_step B2.out BY.out)
              obtain ⟨bd, hbd⟩ : ∃ b, dgP delegs m (delegs.getD m z53) = b := ⟨_, rfl⟩
              have HDG := Aside0.mk (fun (W : World) (hb : Below w.heap.size w W) => HDG0.out W hb m hltm)
              rw [hbd] at HDG
              cases bd
              · have hF : R = false := by rw [HEM2.out]; exact all_no hltm hbd
                clear hbd
                go_wp2_with (first
                  | (go_at_call 53; (with_reducible refine (HDG.out _ BD.out).mono ?_); rintro e6 w6 ⟨rfl, hb6⟩; have B6 := Aside0.mk (below_step BY.out hb6); clear hb6))
                go_ret
                exact ⟨by first | rfl | (rw [hF]; rfl), below_step B2.out B6.out⟩
              · have AD2 := Aside0.mk (show ∀ j, j < m + 1 → dgP delegs j (delegs.getD j z53) = true from fun j hj => by
                  by_cases ej : j = m
                  · subst ej; exact hbd
                  · exact AD.out j (by omega))
                clear hbd
                go_wp2_with (first
                  | (go_at_call 53; (with_reducible refine (HDG.out _ BD.out).mono ?_); rintro e6 w6 ⟨rfl, hb6⟩; have B6 := Aside0.mk (below_step BY.out hb6); clear hb6))
                go_roundg (delegs.length - (m + 1))
                case measure => omega
                case rel => exact ⟨m + 1, by omega, by omega, by go_num, B6.out, AD2.out⟩
            · have hltmz : ¬ (m : Int) < (delegs.length : Int) := by omega
              have hF : R = true := by rw [HEM2.out]; exact all_yes (fun j hj => AD.out j (by omega))
              go_wp2
              go_ret
              exact ⟨by first | rfl | (rw [hF]; rfl), below_step B2.out BY.out⟩
  · have hF : R = false := by rw [eM, decide_eq_false hn4]; rfl
    have hn4z : (0 : Int) < (n4 : Int) := by omega
    have hn4n : 0 < n4 := by omega
    clear eM HK HDG0
    go_wp2_with (first
      | (go_at_call 48; (with_reducible refine HO.out.mono ?_); rintro e1 w1 ⟨rfl, hb1⟩; have B1 := Aside0.mk (below_step HBA.out hb1); have m0 := (hb1.cell (World.block_lt_of_cell? _ _ HQ0.out)).trans HQ0.out; have m1 := (hb1.cell (World.block_lt_of_cell? _ _ HQ1.out)).trans HQ1.out; have m2 := (hb1.cell (World.block_lt_of_cell? _ _ HQ2.out)).trans HQ2.out; have m3 := (hb1.cell (World.block_lt_of_cell? _ _ HQ3.out)).trans HQ3.out; have m4 := (hb1.cell (World.block_lt_of_cell? _ _ HQ4.out)).trans HQ4.out; have m5 := (hb1.cell (World.block_lt_of_cell? _ _ HQ5.out)).trans HQ5.out; have m6 := (hb1.cell (World.block_lt_of_cell? _ _ HQ6.out)).trans HQ6.out; have m7 := (hb1.cell (World.block_lt_of_cell? _ _ HQ7.out)).trans HQ7.out; clear hb1))
    go_ret
    exact ⟨by first | rfl | (rw [hF]; rfl), B1.out⟩
end Go.Proofs.YtgcflmhlegagbaaGreatDoor.R
end
section
set_option linter.unusedVariables false
set_option linter.unusedSimpArgs false
namespace Go.Proofs.YtgcflmhlegagbaaGreatDoor.R
open Go.RowKit Go.Lib Go.Shelf Go.Proofs.YtgcflmhlegagbaaGreatDoorW.PrintWords Go.Proofs.YtgcflmhlegagbaaGreatDoorW.PrintLast Go.Proofs.YtgcflmhlegagbaaGreatDoorW.PrintMore
open E (heldAt heldOk metaR metaOk allK)
open X (S48 k48 z48 rd_T48 at_T48 k70 k28 k25 k53)
structure FitH (l : List S48) : Prop where
  len : l.length ≤ 1000
  nm : ∀ i, (l.getD i z48).f0.size ≤ 140737488351232
  fit : ∀ i, Fit (l.getD i z48).f1.f6 (l.getD i z48).f1.f3 (l.getD i z48).f1.f7
theorem heldOk_no {l : List S48} {k : Nat} (hk : k < l.length) (h : heldAt l k (l.getD k z48) = false) : heldOk l = false := by
  unfold heldOk
  rw [E.allK_false (heldAt l) z48 l k hk h, Bool.and_false]
theorem heldOk_yes {l : List S48} (h : ∀ k, k < l.length → heldAt l k (l.getD k z48) = true) : heldOk l = decide (l.length ≤ 32) := by
  unfold heldOk
  rw [E.allK_true (heldAt l) z48 l h, Bool.and_true]
attribute [local irreducible] metaR Nm.nameOk heldOk heldAt
set_option maxHeartbeats 8000000 in
set_option maxRecDepth 100000 in
theorem held_c (A : Option Addr) (c : Nat) (l : List S48) (w : World) (hA : Kd.C k48 w A l.length l) (hlc : l.length ≤ c) (hfit : FitH l) :
    Calls Tryz.prog 10 #[.slice A l.length c] w fun e w' => e = .returned (.bool (heldOk l)) ∧ Below w.heap.size w w' := by
  have hl := hfit.len
  have HFIT := Aside0.mk hfit
  clear hfit
  go_enter Tryz.func10, Tryz.ntmps10
  go_wp2
  have HA := Aside0.mk hA
  clear hA
  go_loopg [8] l.length (fun gg s8 wr => ∃ kk : Nat, kk ≤ l.length ∧ l.length - kk ≤ gg ∧ s8 = .int .i64 kk ∧ Aside (Below w.heap.size w wr) ∧ Aside (∀ j, j < kk → heldAt l j (l.getD j z48) = true))
  case atStart => exact ⟨0, Nat.zero_le _, by omega, rfl, Below.refl _ w, fun j hj => absurd hj (Nat.not_lt_zero _)⟩
  case round =>
    obtain ⟨kk, hkk, hg, rfl, BW, A1⟩ := hrel
    by_cases hlt : kk < l.length
    · have hltz : (kk : Int) < (l.length : Int) := by omega
      have hk0 : (0 : Int) ≤ (kk : Int) := by omega
      obtain ⟨ad, a4, k4, a5, k5, a7, k7, a8, k8, rfl, c0, c1, c2, c3, c4, c5, c6, c7, c8, l4, g4, l5, g5, l7, g7, l8, g8⟩ := at_T48 HA.out (kk : Int) (by omega) (by omega)
      have er : rd_T48 l kk = l.getD kk z48 := by unfold rd_T48; rw [Int.toNat_natCast]
      have hns := HFIT.out.nm kk
      have hft := HFIT.out.fit kk
      obtain ⟨x, hx⟩ : ∃ x, l.getD kk z48 = x := ⟨_, rfl⟩
      rw [hx] at hns hft
      rw [er, hx, Int.toNat_natCast] at c0 c1 c2 c3 c4 c5 c6 c7 c8
      rw [er, hx] at l4 g4 l5 g5 l7 g7 l8 g8
      replace c0 := (BW.out.cell (World.block_lt_of_cell? w _ c0)).trans c0
      replace c1 := (BW.out.cell (World.block_lt_of_cell? w _ c1)).trans c1
      replace c2 := (BW.out.cell (World.block_lt_of_cell? w _ c2)).trans c2
      replace c3 := (BW.out.cell (World.block_lt_of_cell? w _ c3)).trans c3
      replace c4 := (BW.out.cell (World.block_lt_of_cell? w _ c4)).trans c4
      replace c5 := (BW.out.cell (World.block_lt_of_cell? w _ c5)).trans c5
      replace c6 := (BW.out.cell (World.block_lt_of_cell? w _ c6)).trans c6
      replace c7 := (BW.out.cell (World.block_lt_of_cell? w _ c7)).trans c7
      replace c8 := (BW.out.cell (World.block_lt_of_cell? w _ c8)).trans c8
      have hbA : Below w.heap.size w (wr.alloc (.cells #[.string x.f0, .int .i64 x.f1.f0, .int .i64 x.f1.f1, .int .i64 x.f1.f2, .slice a4 x.f1.f3.length k4, .slice a5 x.f1.f4.length k5, .string x.f1.f5, .slice a7 x.f1.f6.length k7, .slice a8 x.f1.f7.length k8] 48)) := below_alloc BW.out _
      have HX := Lib.hid hx
      have hn := name_c x.f0 (wr.alloc (.cells #[.string x.f0, .int .i64 x.f1.f0, .int .i64 x.f1.f1, .int .i64 x.f1.f2, .slice a4 x.f1.f3.length k4, .slice a5 x.f1.f4.length k5, .string x.f1.f5, .slice a7 x.f1.f6.length k7, .slice a8 x.f1.f7.length k8] 48)) hns
      have hm := fun (W : World) (hb : Below w.heap.size w W) => meta_c x.f1.f1 x.f1.f2 x.f1.f5 a4 a5 a7 a8 x.f1.f4.length k4 k5 k7 k8 x.f1.f3 x.f1.f6 x.f1.f7 W (Kd.C_below g4 hb) l4 (Kd.C_below g7 hb) l7 (Kd.C_below g8 hb) l8 hft
      have HQ0 := Aside0.mk (show (wr.alloc (.cells #[.string x.f0, .int .i64 x.f1.f0, .int .i64 x.f1.f1, .int .i64 x.f1.f2, .slice a4 x.f1.f3.length k4, .slice a5 x.f1.f4.length k5, .string x.f1.f5, .slice a7 x.f1.f6.length k7, .slice a8 x.f1.f7.length k8] 48)).cell? ⟨wr.heap.size, 0, none⟩ = some (.string x.f0) by simp)
      have HQ1 := Aside0.mk (show (wr.alloc (.cells #[.string x.f0, .int .i64 x.f1.f0, .int .i64 x.f1.f1, .int .i64 x.f1.f2, .slice a4 x.f1.f3.length k4, .slice a5 x.f1.f4.length k5, .string x.f1.f5, .slice a7 x.f1.f6.length k7, .slice a8 x.f1.f7.length k8] 48)).cell? ⟨wr.heap.size, 1, none⟩ = some (.int .i64 x.f1.f0) by simp)
      have HQ2 := Aside0.mk (show (wr.alloc (.cells #[.string x.f0, .int .i64 x.f1.f0, .int .i64 x.f1.f1, .int .i64 x.f1.f2, .slice a4 x.f1.f3.length k4, .slice a5 x.f1.f4.length k5, .string x.f1.f5, .slice a7 x.f1.f6.length k7, .slice a8 x.f1.f7.length k8] 48)).cell? ⟨wr.heap.size, 2, none⟩ = some (.int .i64 x.f1.f1) by simp)
      have HQ3 := Aside0.mk (show (wr.alloc (.cells #[.string x.f0, .int .i64 x.f1.f0, .int .i64 x.f1.f1, .int .i64 x.f1.f2, .slice a4 x.f1.f3.length k4, .slice a5 x.f1.f4.length k5, .string x.f1.f5, .slice a7 x.f1.f6.length k7, .slice a8 x.f1.f7.length k8] 48)).cell? ⟨wr.heap.size, 3, none⟩ = some (.int .i64 x.f1.f2) by simp)
      have HQ4 := Aside0.mk (show (wr.alloc (.cells #[.string x.f0, .int .i64 x.f1.f0, .int .i64 x.f1.f1, .int .i64 x.f1.f2, .slice a4 x.f1.f3.length k4, .slice a5 x.f1.f4.length k5, .string x.f1.f5, .slice a7 x.f1.f6.length k7, .slice a8 x.f1.f7.length k8] 48)).cell? ⟨wr.heap.size, 4, none⟩ = some (.slice a4 x.f1.f3.length k4) by simp)
      have HQ5 := Aside0.mk (show (wr.alloc (.cells #[.string x.f0, .int .i64 x.f1.f0, .int .i64 x.f1.f1, .int .i64 x.f1.f2, .slice a4 x.f1.f3.length k4, .slice a5 x.f1.f4.length k5, .string x.f1.f5, .slice a7 x.f1.f6.length k7, .slice a8 x.f1.f7.length k8] 48)).cell? ⟨wr.heap.size, 5, none⟩ = some (.slice a5 x.f1.f4.length k5) by simp)
      have HQ6 := Aside0.mk (show (wr.alloc (.cells #[.string x.f0, .int .i64 x.f1.f0, .int .i64 x.f1.f1, .int .i64 x.f1.f2, .slice a4 x.f1.f3.length k4, .slice a5 x.f1.f4.length k5, .string x.f1.f5, .slice a7 x.f1.f6.length k7, .slice a8 x.f1.f7.length k8] 48)).cell? ⟨wr.heap.size, 6, none⟩ = some (.string x.f1.f5) by simp)
      have HQ7 := Aside0.mk (show (wr.alloc (.cells #[.string x.f0, .int .i64 x.f1.f0, .int .i64 x.f1.f1, .int .i64 x.f1.f2, .slice a4 x.f1.f3.length k4, .slice a5 x.f1.f4.length k5, .string x.f1.f5, .slice a7 x.f1.f6.length k7, .slice a8 x.f1.f7.length k8] 48)).cell? ⟨wr.heap.size, 7, none⟩ = some (.slice a7 x.f1.f6.length k7) by simp)
      have HQ8 := Aside0.mk (show (wr.alloc (.cells #[.string x.f0, .int .i64 x.f1.f0, .int .i64 x.f1.f1, .int .i64 x.f1.f2, .slice a4 x.f1.f3.length k4, .slice a5 x.f1.f4.length k5, .string x.f1.f5, .slice a7 x.f1.f6.length k7, .slice a8 x.f1.f7.length k8] 48)).cell? ⟨wr.heap.size, 8, none⟩ = some (.slice a8 x.f1.f7.length k8) by simp)
      have eH : heldAt l kk x = (Nm.nameOk x.f0.data.toList && (x.f1.f0 == 4) && metaR x && !((l.take kk).any (fun y => y.f0.toList == x.f0.toList))) := by unfold heldAt; rfl
      have hT1 : ∀ j, j < kk → ((l.getD j z48).f0.toList == x.f0.toList) = true → (l.take kk).any (fun z => z.f0.toList == x.f0.toList) = true := fun j hj h => any_take l z48 (fun z => z.f0.toList == x.f0.toList) kk j (by omega) hj h
      have hT2 : (∀ j, j < kk → ((l.getD j z48).f0.toList == x.f0.toList) = false) → (l.take kk).any (fun z => z.f0.toList == x.f0.toList) = false := fun h => any_take_no l z48 (fun z => z.f0.toList == x.f0.toList) kk (by omega) h
      have eM : metaOk x.f1.f1 x.f1.f2 x.f1.f4.length x.f1.f5 x.f1.f6 x.f1.f3 x.f1.f7 = metaR x := by unfold metaR; rfl
      rw [eM] at hm
      have HBA := Aside0.mk hbA
      clear er hx hbA l4 g4 l5 g5 l7 g7 l8 g8 eM hft hns
      generalize metaR x = bm at *
      generalize Nm.nameOk x.f0.data.toList = bn at *
      generalize (l.take kk).any (fun y => y.f0.toList == x.f0.toList) = bs at *
      generalize hkd : x.f1.f0 = kd at *
      have HN := Aside0.mk hn
      have HT1 := Aside0.mk hT1
      have HT2 := Aside0.mk hT2
      clear hn hkd hT1 hT2
      have key : ∀ b, heldAt l kk x = b → b = false → heldOk l = false := fun b h h2 => heldOk_no hlt (by rw [HX.out, h, h2])
      cases bn
      · have hF := key _ eH rfl
        clear key eH hm
        go_wp2_with (first
          | (go_at_call 23; (with_reducible refine HN.out.mono ?_); rintro e w2 ⟨rfl, hb2⟩; have B2 := Aside0.mk (below_step HBA.out hb2); have m0 := (hb2.cell (World.block_lt_of_cell? _ _ HQ0.out)).trans HQ0.out; have m1 := (hb2.cell (World.block_lt_of_cell? _ _ HQ1.out)).trans HQ1.out; have m2 := (hb2.cell (World.block_lt_of_cell? _ _ HQ2.out)).trans HQ2.out; have m3 := (hb2.cell (World.block_lt_of_cell? _ _ HQ3.out)).trans HQ3.out; have m4 := (hb2.cell (World.block_lt_of_cell? _ _ HQ4.out)).trans HQ4.out; have m5 := (hb2.cell (World.block_lt_of_cell? _ _ HQ5.out)).trans HQ5.out; have m6 := (hb2.cell (World.block_lt_of_cell? _ _ HQ6.out)).trans HQ6.out; have m7 := (hb2.cell (World.block_lt_of_cell? _ _ HQ7.out)).trans HQ7.out; have m8 := (hb2.cell (World.block_lt_of_cell? _ _ HQ8.out)).trans HQ8.out; clear hb2))
        go_ret
        exact ⟨by first | rfl | (rw [hF]; rfl), B2.out⟩
      by_cases h4 : kd = 4
      · subst h4
        have HM := Aside0.mk hm
        clear hm
        cases bm
        · have hF := key _ eH rfl
          clear key eH
          go_wp2_with (first
            | (go_at_call 23; (with_reducible refine HN.out.mono ?_); rintro e w2 ⟨rfl, hb2⟩; have B2 := Aside0.mk (below_step HBA.out hb2); have m0 := (hb2.cell (World.block_lt_of_cell? _ _ HQ0.out)).trans HQ0.out; have m1 := (hb2.cell (World.block_lt_of_cell? _ _ HQ1.out)).trans HQ1.out; have m2 := (hb2.cell (World.block_lt_of_cell? _ _ HQ2.out)).trans HQ2.out; have m3 := (hb2.cell (World.block_lt_of_cell? _ _ HQ3.out)).trans HQ3.out; have m4 := (hb2.cell (World.block_lt_of_cell? _ _ HQ4.out)).trans HQ4.out; have m5 := (hb2.cell (World.block_lt_of_cell? _ _ HQ5.out)).trans HQ5.out; have m6 := (hb2.cell (World.block_lt_of_cell? _ _ HQ6.out)).trans HQ6.out; have m7 := (hb2.cell (World.block_lt_of_cell? _ _ HQ7.out)).trans HQ7.out; have m8 := (hb2.cell (World.block_lt_of_cell? _ _ HQ8.out)).trans HQ8.out; clear hb2)
            | (go_at_call 24; (with_reducible refine (HM.out _ B2.out).mono ?_); rintro e w3 ⟨rfl, hb3⟩; have B3 := Aside0.mk (below_step B2.out hb3); have M0 := Aside0.mk ((hb3.cell (World.block_lt_of_cell? _ _ m0)).trans m0); clear m0 m1 m2 m3 m4 m5 m6 m7 m8 hb3))
          go_ret
          exact ⟨by first | rfl | (rw [hF]; rfl), B3.out⟩
        have HEH := Lib.hid (show heldAt l kk x = !bs from eH)
        have HKEY := Aside0.mk key
        clear key eH
        go_wp2_with (first
          | (go_at_call 23; (with_reducible refine HN.out.mono ?_); rintro e w2 ⟨rfl, hb2⟩; have B2 := Aside0.mk (below_step HBA.out hb2); have m0 := (hb2.cell (World.block_lt_of_cell? _ _ HQ0.out)).trans HQ0.out; have m1 := (hb2.cell (World.block_lt_of_cell? _ _ HQ1.out)).trans HQ1.out; have m2 := (hb2.cell (World.block_lt_of_cell? _ _ HQ2.out)).trans HQ2.out; have m3 := (hb2.cell (World.block_lt_of_cell? _ _ HQ3.out)).trans HQ3.out; have m4 := (hb2.cell (World.block_lt_of_cell? _ _ HQ4.out)).trans HQ4.out; have m5 := (hb2.cell (World.block_lt_of_cell? _ _ HQ5.out)).trans HQ5.out; have m6 := (hb2.cell (World.block_lt_of_cell? _ _ HQ6.out)).trans HQ6.out; have m7 := (hb2.cell (World.block_lt_of_cell? _ _ HQ7.out)).trans HQ7.out; have m8 := (hb2.cell (World.block_lt_of_cell? _ _ HQ8.out)).trans HQ8.out; clear hb2)
          | (go_at_call 24; (with_reducible refine (HM.out _ B2.out).mono ?_); rintro e w3 ⟨rfl, hb3⟩; have B3 := Aside0.mk (below_step B2.out hb3); have M0 := Aside0.mk ((hb3.cell (World.block_lt_of_cell? _ _ m0)).trans m0); clear m0 m1 m2 m3 m4 m5 m6 m7 m8 hb3))
        generalize hg12 : wr.heap.size = g12 at M0 ⊢
        go_loopg [5] kk (fun gg s5 wr => ∃ j : Nat, j ≤ kk ∧ kk - j ≤ gg ∧ s5 = .int .i64 j ∧ Aside (Below w3.heap.size w3 wr) ∧ Aside (∀ m, m < j → ((l.getD m z48).f0.toList == x.f0.toList) = false))
        case atStart => exact ⟨0, Nat.zero_le _, by omega, rfl, Below.refl _ _, fun m hm => absurd hm (Nat.not_lt_zero _)⟩
        case round =>
          clear c0 c1 c2 c3 c4 c5 c6 c7 c8
          obtain ⟨j, hj, hg2, rfl, BZ, AZ⟩ := hrel
          by_cases hltj : j < kk
          · have hltjz : (j : Int) < (kk : Int) := by omega
            have hj0 : (0 : Int) ≤ (j : Int) := by omega
            have hjl : (j : Int) < (l.length : Int) := by omega
            obtain ⟨ad', _, _, _, _, _, _, _, _, e', q0, _⟩ := at_T48 HA.out (j : Int) (by omega) (by omega)
            injection e' with e'
            subst e'
            have er2 : rd_T48 l j = l.getD j z48 := by unfold rd_T48; rw [Int.toNat_natCast]
            rw [er2, Int.toNat_natCast] at q0
            replace q0 := (B3.out.cell (World.block_lt_of_cell? w _ q0)).trans q0
            replace q0 := (BZ.out.cell (World.block_lt_of_cell? w3 _ q0)).trans q0
            have F0 := (BZ.out.cell (World.block_lt_of_cell? _ _ M0.out)).trans M0.out
            obtain ⟨z, hz⟩ : ∃ z, (l.getD j z48).f0 = z := ⟨_, rfl⟩
            rw [hz] at q0
            go_upto_region 9 with (fail)
            go_region_held3 (fun W_ => W_.cell? ⟨g12, 0, none⟩ = some (.string x.f0) ∧ W_.cell? (ad.add (j * 9)) = some (.string z)) (go_keep) (fail)
            have BD := Lib.hid (below_drew BZ.out)
            clear q0 F0
            cases e : (z.toList == x.f0.toList)
            · have AZ2 := Aside0.mk (show ∀ m, m < j + 1 → ((l.getD m z48).f0.toList == x.f0.toList) = false from fun m hm => by
                by_cases em : m = j
                · subst em; rw [hz]; exact e
                · exact AZ.out m (by omega))
              go_wp2
              go_roundg (kk - (j + 1))
              case measure => omega
              case rel => exact ⟨j + 1, by omega, by omega, by go_num, BD.out, AZ2.out⟩
            · have hF : heldOk l = false := HKEY.out _ HEH.out (by rw [HT1.out j hltj (by rw [hz]; exact e)]; rfl)
              go_wp2
              go_ret
              exact ⟨by first | rfl | (rw [hF]; rfl), below_step B3.out BD.out⟩
          · obtain rfl : j = kk := by omega
            have hT : heldAt l j x = true := by rw [HEH.out, HT2.out AZ.out]; rfl
            go_wp2
            go_roundg (l.length - (j + 1))
            case measure => omega
            case rel =>
              refine ⟨j + 1, by omega, by omega, by go_num, below_step B3.out BZ.out, (show Aside _ from fun m hm => ?_)⟩
              by_cases em : m = j
              · subst em; rw [HX.out]; exact hT
              · exact A1.out m (by omega)
      · have e4 : (kd == (4 : Int)) = false := beq_eq_false_iff_ne.2 h4
        have hF := key _ eH (by rw [e4]; rfl)
        clear key eH hm
        go_wp2_with (first
          | (go_at_call 23; (with_reducible refine HN.out.mono ?_); rintro e w2 ⟨rfl, hb2⟩; have B2 := Aside0.mk (below_step HBA.out hb2); have m0 := (hb2.cell (World.block_lt_of_cell? _ _ HQ0.out)).trans HQ0.out; have m1 := (hb2.cell (World.block_lt_of_cell? _ _ HQ1.out)).trans HQ1.out; have m2 := (hb2.cell (World.block_lt_of_cell? _ _ HQ2.out)).trans HQ2.out; have m3 := (hb2.cell (World.block_lt_of_cell? _ _ HQ3.out)).trans HQ3.out; have m4 := (hb2.cell (World.block_lt_of_cell? _ _ HQ4.out)).trans HQ4.out; have m5 := (hb2.cell (World.block_lt_of_cell? _ _ HQ5.out)).trans HQ5.out; have m6 := (hb2.cell (World.block_lt_of_cell? _ _ HQ6.out)).trans HQ6.out; have m7 := (hb2.cell (World.block_lt_of_cell? _ _ HQ7.out)).trans HQ7.out; have m8 := (hb2.cell (World.block_lt_of_cell? _ _ HQ8.out)).trans HQ8.out; clear hb2))
        go_ret
        exact ⟨by first | rfl | (rw [hF]; rfl), B2.out⟩
    · have hltz : ¬ (kk : Int) < (l.length : Int) := by omega
      have hT := heldOk_yes (fun k hk => A1.out k (by omega))
      by_cases h32 : l.length ≤ 32
      · have h32z : (l.length : Int) ≤ 32 := by omega
        rw [decide_eq_true h32] at hT
        go_wp2
        go_ret
        exact ⟨by first | rfl | (rw [hT]; rfl), BW.out⟩
      · have h32z : ¬ (l.length : Int) ≤ 32 := by omega
        rw [decide_eq_false h32] at hT
        go_wp2
        go_ret
        exact ⟨by first | rfl | (rw [hT]; rfl), BW.out⟩
end Go.Proofs.YtgcflmhlegagbaaGreatDoor.R
end
