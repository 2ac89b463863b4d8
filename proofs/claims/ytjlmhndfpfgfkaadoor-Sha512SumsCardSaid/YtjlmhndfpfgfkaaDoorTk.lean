import Derived.Test.YtjlmhndfpfgfkaaDoorTi
import Derived.Test.YtjlmhndfpfgfkaaDoorRoot
set_option linter.unusedVariables false
set_option linter.unusedSimpArgs false
namespace Go.Proofs.YtjlmhndfpfgfkaaDoor.E
open Go.RowKit Go.Proofs.YtjlmhndfpfgfkaaDoorW.PrintWords Go.Proofs.YtjlmhndfpfgfkaaDoorW.PrintLast Go.Proofs.YtjlmhndfpfgfkaaDoorW.PrintMore
attribute [local go_sem] max2_int min2_int max_two min_two
open S (mkB be num)
theorem wvl_set (l : List Nat) (j x : Nat) : (wv l).set j (.int .u64 (x : Nat)) = wv (l.set j x) := by simp [wv, List.map_set]
theorem wvl_get (l : List Nat) (j : Nat) (h : j < l.length) : (wv l)[j]? = some (.int .u64 (l.getD j 0 : Nat)) := by
  simp [wv, h]
theorem D_get {l : List Nat} (h : Rt.D l) (j : Nat) : l.getD j 0 < 65536 := Rt.D_getD h j
/-- what times gives: a row of the call's own, its value. -/
def Prod (w : World) (v n : Nat) (e : Ending) (w' : World) : Prop :=
  ∃ l : List Nat, e = .returned (.slice (some ⟨w.heap.size, 0, none⟩) n n) ∧ l.length = n ∧ Rt.D l ∧ Rt.val l = v ∧ w'.ownsRow w.heap.size 25 1 (.slice (some ⟨w.heap.size, 0, none⟩) n n) n (wv l) ∧ Below w.heap.size w w'
attribute [local irreducible] Rt.val Rt.D
set_option maxHeartbeats 4000000 in
set_option maxRecDepth 100000 in
theorem times_any (a b : List Nat) (ga gb ca cb : Nat) (w : World) (hga : ga < w.heap.size) (hgb : gb < w.heap.size) (ha : ∀ j, j < a.length → w.cell? ⟨ga, j, none⟩ = some (.int .u64 (a.getD j 0 : Nat)))
    (hb : ∀ j, j < b.length → w.cell? ⟨gb, j, none⟩ = some (.int .u64 (b.getD j 0 : Nat))) (da : Rt.D a) (db : Rt.D b) (hla : a.length ≤ 100) (hlb : b.length ≤ 100) :
    Calls Tryd.prog 32 #[.slice (some ⟨ga, 0, none⟩) a.length ca, .slice (some ⟨gb, 0, none⟩) b.length cb] w (Prod w (Rt.val a * Rt.val b) (a.length + b.length)) := by
  have HA := Lib.hid ha
  have HB := Lib.hid hb
  have HDA := Lib.hid da
  have HDB := Lib.hid db
  clear ha hb da db
  obtain ⟨i0, hi, hzz0, hzz1, hzz2⟩ := info_parts info25
  go_enter Tryd.func32, Tryd.ntmps32
  go_wp2_with (refine wpList_make_full _ rfl _ _ 31 rfl w.heap.size 25 i0 (.int .u64 0) 1 Tryd.underlying31 hi hzz0 hzz1 .i64 .i64 _ _ (a.length + b.length) rfl rfl (by omega) (by omega) (by rw [hzz2]; omega) (by unfold maxLen; omega) (Nat.le_refl _) ?_)
  intro w1 hown hgrow
  rw [toList_madeCells_one] at hown
  have HO : Hid (w1.ownsRow w.heap.size 25 1 (.slice (some ⟨w.heap.size, 0, none⟩) (a.length + b.length) (a.length + b.length)) (a.length + b.length) (wv (List.replicate (a.length + b.length) 0))) := by
    rw [show wv (List.replicate (a.length + b.length) 0) = List.replicate (a.length + b.length) (Value.int .u64 0) from by simp [wv]]
    exact Lib.hid hown
  have HB1 := Lib.hid ((Below.refl w.heap.size w).grown hgrow (Nat.le_refl _) (fun k hk => by cases hk))
  clear hown hgrow hi hzz0 hzz1 hzz2
  go_wp2_with fail
  go_loopw [17] (fun i wr => ∃ (t : Nat) (l : List Nat), t ≤ a.length ∧ i = .int .i64 t ∧ l.length = a.length + b.length ∧ Hid (Rt.D l) ∧ Hid (∀ j, t + b.length ≤ j → l.getD j 0 = 0) ∧ Hid (Rt.val l = Rt.val (a.take t) * Rt.val b) ∧
      Hid (wr.ownsRow w.heap.size 25 1 (.slice (some ⟨w.heap.size, 0, none⟩) (a.length + b.length) (a.length + b.length)) (a.length + b.length) (wv l)) ∧ Hid (Below w.heap.size w wr)) (fun i _ => a.length - (intOf i).toNat)
  case atStart =>
    refine ⟨0, _, Nat.zero_le _, rfl, List.length_replicate, Lib.hid (Rt.D_zeros _), Lib.hid (fun j hj => ?_), Lib.hid ?_, HO, HB1⟩
    · rw [List.getD_eq_getElem?_getD, List.getElem?_replicate]; split <;> rfl
    · rw [Rt.val_zeros, List.take_zero]; unfold Rt.val; simp
  case round =>
    obtain ⟨t, l, ht, rfl, hll, hD, hZ, hV, hO, hBe⟩ := hrel
    by_cases hlt : t < a.length
    · have hda := D_get HDA.out t
      have cA : wr.cell? ⟨ga, t, none⟩ = some (.int .u64 (a.getD t 0 : Nat)) := (hBe.out.cell (by exact hga)).trans (HA.out t hlt)
      have hVA := Rt.val_take a t hlt
      have HVA := Lib.hid hVA
      clear hVA
      generalize a.getD t 0 = at' at *
      have hdt : decide ((t : Int) < (a.length : Int)) = true := by simp; omega
      go_wp2_with fail
      go_loopw [7, 22] (fun c i wr => ∃ (k cc : Nat) (m : List Nat), k ≤ b.length ∧ i = .int .i64 k ∧ c = .int .u64 cc ∧ cc < 65536 ∧ m.length = a.length + b.length ∧ Hid (Rt.D m) ∧ Hid (∀ j, t + b.length ≤ j → m.getD j 0 = 0) ∧
          Hid (Rt.val m + cc * 65536 ^ (t + k) = Rt.val (a.take t) * Rt.val b + at' * 65536 ^ t * Rt.val (b.take k)) ∧
          Hid (wr.ownsRow w.heap.size 25 1 (.slice (some ⟨w.heap.size, 0, none⟩) (a.length + b.length) (a.length + b.length)) (a.length + b.length) (wv m)) ∧ Hid (Below w.heap.size w wr)) (fun _ i _ => b.length - (intOf i).toNat)
      case atStart => exact ⟨0, 0, l, Nat.zero_le _, rfl, rfl, by decide, hll, hD, hZ, Lib.hid (by rw [hV.out, List.take_zero]; unfold Rt.val; simp), hO, hBe⟩
      case round =>
        obtain ⟨k, cc, m, hk, rfl, rfl, hcc, hml, hD2, hZ2, hV2, hO2, hBe2⟩ := hrel
        by_cases hlk : k < b.length
        · have hdb := D_get HDB.out k
          have hdo := D_get hD2.out (t + k)
          have cB : wr.cell? ⟨gb, k, none⟩ = some (.int .u64 (b.getD k 0 : Nat)) := (hBe2.out.cell (by exact hgb)).trans (HB.out k hlk)
          have cA2 : wr.cell? ⟨ga, t, none⟩ = some (.int .u64 (at' : Nat)) := by
            rw [hBe2.out.cell (by exact hga), ← cA, hBe.out.cell (by exact hga)]
          have cO : wr.cell? ⟨w.heap.size, t + k, none⟩ = some (.int .u64 (m.getD (t + k) 0 : Nat)) := (hO2.out.cellAt (t + k) (by omega)).trans (wvl_get m (t + k) (by omega))
          have fO := hO2.out.frozenAt (t + k)
          have hVB := Rt.val_take b k hlk
          generalize b.getD k 0 = bk at *
          generalize hmo : m.getD (t + k) 0 = o at *
          have hp : at' * bk ≤ 65535 * 65535 := Nat.mul_le_mul (by omega) (by omega)
          have hpe : (at' : Int) * (bk : Int) = ((at' * bk : Nat) : Int) := by simp
          obtain ⟨T, hT⟩ : ∃ T, T = cc + o + at' * bk := ⟨_, rfl⟩
          have hE : (cc : Int) + (o : Int) + (at' : Int) * (bk : Int) = (T : Int) := by rw [hT]; simp
          have hT2 : T < 4294967296 := by omega
          have hvs := Rt.val_set m (t + k) (T % 65536) (by omega)
          rw [hmo] at hvs
          have hstep := Rt.inner_step (Rt.val m) cc o at' bk t k T hT _ hvs _ hV2.out
          have hrel2 : Rt.val (m.set (t + k) (T % 65536)) + T / 65536 * 65536 ^ (t + (k + 1)) = Rt.val (a.take t) * Rt.val b + at' * 65536 ^ t * Rt.val (b.take (k + 1)) := by
            rw [hstep, hVB, Nat.pow_add, Nat.mul_add, ← Nat.add_assoc]
            congr 1
            rw [Nat.mul_assoc at' bk, ← Nat.mul_assoc bk, Nat.mul_comm bk, Nat.mul_assoc (65536 ^ t), ← Nat.mul_assoc at']
          have hZ3 : ∀ j, t + b.length ≤ j → (m.set (t + k) (T % 65536)).getD j 0 = 0 := by
            intro j hj
            rw [List.getD_eq_getElem?_getD, List.getElem?_set_ne (by omega), ← List.getD_eq_getElem?_getD]
            exact hZ2.out j hj
          have hD3 := Rt.D_set (j := t + k) hD2.out (show T % 65536 < 65536 from Nat.mod_lt _ (by decide))
          have HE := Lib.hid hE
          have HREL := Lib.hid hrel2
          have HZ3 := Lib.hid hZ3
          have HD3 := Lib.hid hD3
          have hcd : T / 65536 < 65536 := by omega
          have hdk : decide ((k : Int) < (b.length : Int)) = true := by simp; omega
          clear hE hrel2 hZ3 hD3 hstep hvs hVB hpe hmo hT
          have q1 : IntKind.i64.wrap ((t : Int) + (k : Int)) = (t : Int) + (k : Int) := by simp [IntKind.wrap, IntKind.signed, IntKind.bits]; omega
          have q2 : (0 : Int) ≤ (t : Int) + (k : Int) := by omega
          have q3 : ((t : Int) + (k : Int)).toNat = t + k := by omega
          have q4 : (t : Int) + (k : Int) < (a.length : Int) + (b.length : Int) := by omega
          go_wp2_with fail
          go_quiet (fail)
          rw [HE.out]
          clear cA2 cB cO fO
          have hO3 := pw_own_below hO2.out (drewN_below (Below.refl _ _) nq)
          have hB3 := Lib.hid (pw_below_drewN hBe2.out nq)
          generalize World.drewN wr nq = wd at *
          have cO : wd.cell? ⟨w.heap.size, t + k, none⟩ = some (.int .u64 (m.getD (t + k) 0 : Nat)) := (hO3.cellAt (t + k) (by omega)).trans (wvl_get m (t + k) (by omega))
          have fO := hO3.frozenAt (t + k)
          have hst := (hO3.stored (t + k) (.int .u64 ((T % 65536 : Nat) : Int))).1
          rw [wvl_set] at hst
          have HST := Lib.hid hst
          clear hst
          have hO3' := Lib.hid hO3
          clear hO3
          go_wp2_with fail
          go_roundw
          case rel => exact ⟨k + 1, T / 65536, _, by omega, by go_num, by go_num, hcd, by rw [List.length_set]; exact hml, HD3, HZ3, HREL, HST, Lib.hid (hB3.out.setCell (Nat.le_refl _) _)⟩
          case measure => simp [intOf]; omega
        · obtain rfl : k = b.length := by omega
          have cO : wr.cell? ⟨w.heap.size, t + b.length, none⟩ = some (.int .u64 (m.getD (t + b.length) 0 : Nat)) := (hO2.out.cellAt (t + b.length) (by omega)).trans (wvl_get m (t + b.length) (by omega))
          have fO := hO2.out.frozenAt (t + b.length)
          have hst := (hO2.out.stored (t + b.length) (.int .u64 (cc : Nat))).1
          rw [wvl_set] at hst
          have hvs := Rt.val_set m (t + b.length) cc (by omega)
          rw [hZ2.out (t + b.length) (Nat.le_refl _), Nat.zero_mul, Nat.add_zero, hV2.out, List.take_of_length_le (Nat.le_refl _)] at hvs
          have hval : Rt.val (m.set (t + b.length) cc) = Rt.val (a.take (t + 1)) * Rt.val b := by
            rw [hvs, HVA.out, Nat.add_mul]
          have hZ3 : ∀ j, t + 1 + b.length ≤ j → (m.set (t + b.length) cc).getD j 0 = 0 := by
            intro j hj
            rw [List.getD_eq_getElem?_getD, List.getElem?_set_ne (by omega), ← List.getD_eq_getElem?_getD]
            exact hZ2.out j (by omega)
          have hD3 := Rt.D_set (j := t + b.length) hD2.out hcc
          have HST := Lib.hid hst
          have HVAL := Lib.hid hval
          have HZ3 := Lib.hid hZ3
          have HD3 := Lib.hid hD3
          clear hst hvs hval hZ3 hD3
          go_wp2_with fail
          go_roundw
          case rel => exact ⟨t + 1, _, by omega, by go_num, by rw [List.length_set]; exact hml, HD3, HZ3, HVAL, HST, Lib.hid (hBe2.out.setCell (Nat.le_refl _) _)⟩
          case measure => simp [intOf]; omega
    · obtain rfl : t = a.length := by omega
      have hVv := hV.out
      rw [List.take_of_length_le (Nat.le_refl _)] at hVv
      have HVv := Lib.hid hVv
      clear hVv
      go_wp2_with fail
      go_ret
      exact ⟨l, rfl, hll, hD.out, HVv.out, hO.out, hBe.out⟩
end Go.Proofs.YtjlmhndfpfgfkaaDoor.E
