-- Written by a program of this session (wip/tools/xprint.py).
import Derived.Test.YtcofnmeocpedoaaX0
import Derived.Test.YtcofnmeocpedoaaX6
import Derived.Test.YtcofnmeocpedoaaX12
import Derived.Test.YtcofnmeocpedoaaX15
import Derived.Test.YtcofnmeocpedoaaE
namespace Go.Proofs.Ytcofnmeocpedoaa.X
open Go.RowKit Go.Proofs.YtcofnmeocpedoaaW.PrintWords Go.Proofs.YtcofnmeocpedoaaW.PrintLast Go.Proofs.YtcofnmeocpedoaaW.PrintMore
open Go.Proofs.Ytcofnmeocpedoaa.E
attribute [local go_sem] max2_int min2_int max_two min_two max_three min_three max_four min_four   -- for this text's walks alone
set_option linter.unusedVariables false
set_option linter.unusedSimpArgs false

/-! ### imprimaturlaw01_OctetApart: function 7 -/
mutual
def imprimaturlaw01_OctetApart.j0 : Nat → List ByteArray → List ByteArray → Int → ByteArray → ByteArray → Bool → Option (Bool)
  | 0, _, _, _, _, _, _ => none
  | k + 1, x0, x1, x2, x7, x9, x34 => if x34 = true then ((imprimaturlaw01_alive.f k).bind fun t227 => (some t227)) else ((imprimaturref01_Same.f k x0 x1).bind fun t228 => (if ((x7.toList == x9.toList) != t228) = true then (imprimaturlaw01_OctetApart.j1 k x0 x2 x7 true) else ((imprimaturlaw01_alive.f k).bind fun t229 => (imprimaturlaw01_OctetApart.j1 k x0 x2 x7 (!t229)))))
def imprimaturlaw01_OctetApart.j1 : Nat → List ByteArray → Int → ByteArray → Bool → Option (Bool)
  | 0, _, _, _, _ => none
  | k + 1, x0, x2, x7, x46 => if x46 = true then (some false) else (if 0 ≤ (mn (mx x2 0) (x7.size : Int)) then (if (mn (mx x2 0) (x7.size : Int)) ≤ (x7.size : Int) then ((octet_Unpack.f k (x7.extract 0 ((mn (mx x2 0) (x7.size : Int)) : Int).toNat)).bind fun bt230 => (imprimaturlaw01_OctetApart.l0 k x0 (mn (mx x2 0) (x7.size : Int)) bt230.1 bt230.2 0 0)) else (none)) else (none))
def imprimaturlaw01_OctetApart.l0 : Nat → List ByteArray → Int → List ByteArray → Int → Int → Int → Option (Bool)
  | 0, _, _, _, _, _, _ => none
  | k + 1, x0, x2, x11, x12, x13, x14 => if x13 = x2 then (if x12 = 0 then (if 0 ≤ x14 then (if x14 ≤ (x0.length : Int) then ((imprimaturref01_Same.f k x11 (x0.take (x14 : Int).toNat)).bind fun t238 => (some t238)) else (none)) else (none)) else (some false)) else (if x14 = (x0.length : Int) then (if x12 = 3 then (some ((x11.length : Int) == 0)) else (some false)) else (if x13 > x2 then (if x12 = 3 then (some ((x11.length : Int) == 0)) else (some false)) else (if 0 ≤ x14 then (if x14 < (x0.length : Int) then (imprimaturlaw01_OctetApart.l0 k x0 x2 x11 x12 (wrap64 (x13 + (wrap64 (4 + ((rdOf ByteArray.empty x0 x14).size : Int))))) (wrap64 (x14 + 1))) else (none)) else (none))))
end
def imprimaturlaw01_OctetApart.f (k : Nat) (l0 : List ByteArray) (l1 : List ByteArray) (a2 : Int) : Option (Bool) := (imprimaturlaw01_few.f l0).bind fun t217 => ((imprimaturlaw01_few.f l1).bind fun t220 => ((octet_Pack.f t217).bind fun bt223 => ((octet_Pack.f t220).bind fun bt225 => (if bt223.2 = 0 then (imprimaturlaw01_OctetApart.j0 k t217 t220 a2 bt223.1 bt225.1 (bt225.2 != 0)) else (imprimaturlaw01_OctetApart.j0 k t217 t220 a2 bt223.1 bt225.1 true)))))
theorem imprimaturlaw01_OctetApart.mono_l : ∀ k, (∀ y0 y1 y2 y3 y4 y5, LeO (imprimaturlaw01_OctetApart.j0 k y0 y1 y2 y3 y4 y5) (imprimaturlaw01_OctetApart.j0 (k + 1) y0 y1 y2 y3 y4 y5)) ∧ (∀ y0 y1 y2 y3, LeO (imprimaturlaw01_OctetApart.j1 k y0 y1 y2 y3) (imprimaturlaw01_OctetApart.j1 (k + 1) y0 y1 y2 y3)) ∧ (∀ y0 y1 y2 y3 y4 y5, LeO (imprimaturlaw01_OctetApart.l0 k y0 y1 y2 y3 y4 y5) (imprimaturlaw01_OctetApart.l0 (k + 1) y0 y1 y2 y3 y4 y5))
  | 0 => ⟨fun _ _ _ _ _ _ r h => by simp [imprimaturlaw01_OctetApart.j0] at h, fun _ _ _ _ r h => by simp [imprimaturlaw01_OctetApart.j1] at h, fun _ _ _ _ _ _ r h => by simp [imprimaturlaw01_OctetApart.l0] at h⟩
  | k + 1 => by
    obtain ⟨ih0, ih1, ih2⟩ := imprimaturlaw01_OctetApart.mono_l k
    refine ⟨?_, ?_, ?_⟩
    · intro y0 y1 y2 y3 y4 y5
      unfold imprimaturlaw01_OctetApart.j0
      repeat' first
      | (with_reducible exact ih0 _ _ _ _ _ _)
      | (with_reducible exact ih1 _ _ _ _)
      | (with_reducible exact ih2 _ _ _ _ _ _)
      | (with_reducible exact imprimaturlaw01_alive.mono _)
      | (with_reducible exact imprimaturref01_Same.mono _ _ _)
      | (with_reducible exact octet_Unpack.mono _ _)
      | (with_reducible exact LeO.refl _)
      | (with_reducible exact LeO.none _)
      | (with_reducible refine LeO.ite ?_ ?_)
      | (with_reducible refine LeO.bind ?_ (fun _ => ?_))
      | exact ih0 _ _ _ _ _ _
      | exact ih1 _ _ _ _
      | exact ih2 _ _ _ _ _ _
      | exact imprimaturlaw01_alive.mono _
      | exact imprimaturref01_Same.mono _ _ _
      | exact octet_Unpack.mono _ _
      | exact LeO.none _
      | refine LeO.ite ?_ ?_
      | refine LeO.bind ?_ (fun _ => ?_)
    · intro y0 y1 y2 y3
      unfold imprimaturlaw01_OctetApart.j1
      repeat' first
      | (with_reducible exact ih0 _ _ _ _ _ _)
      | (with_reducible exact ih1 _ _ _ _)
      | (with_reducible exact ih2 _ _ _ _ _ _)
      | (with_reducible exact imprimaturlaw01_alive.mono _)
      | (with_reducible exact imprimaturref01_Same.mono _ _ _)
      | (with_reducible exact octet_Unpack.mono _ _)
      | (with_reducible exact LeO.refl _)
      | (with_reducible exact LeO.none _)
      | (with_reducible refine LeO.ite ?_ ?_)
      | (with_reducible refine LeO.bind ?_ (fun _ => ?_))
      | exact ih0 _ _ _ _ _ _
      | exact ih1 _ _ _ _
      | exact ih2 _ _ _ _ _ _
      | exact imprimaturlaw01_alive.mono _
      | exact imprimaturref01_Same.mono _ _ _
      | exact octet_Unpack.mono _ _
      | exact LeO.none _
      | refine LeO.ite ?_ ?_
      | refine LeO.bind ?_ (fun _ => ?_)
    · intro y0 y1 y2 y3 y4 y5
      unfold imprimaturlaw01_OctetApart.l0
      repeat' first
      | (with_reducible exact ih0 _ _ _ _ _ _)
      | (with_reducible exact ih1 _ _ _ _)
      | (with_reducible exact ih2 _ _ _ _ _ _)
      | (with_reducible exact imprimaturlaw01_alive.mono _)
      | (with_reducible exact imprimaturref01_Same.mono _ _ _)
      | (with_reducible exact octet_Unpack.mono _ _)
      | (with_reducible exact LeO.refl _)
      | (with_reducible exact LeO.none _)
      | (with_reducible refine LeO.ite ?_ ?_)
      | (with_reducible refine LeO.bind ?_ (fun _ => ?_))
      | exact ih0 _ _ _ _ _ _
      | exact ih1 _ _ _ _
      | exact ih2 _ _ _ _ _ _
      | exact imprimaturlaw01_alive.mono _
      | exact imprimaturref01_Same.mono _ _ _
      | exact octet_Unpack.mono _ _
      | exact LeO.none _
      | refine LeO.ite ?_ ?_
      | refine LeO.bind ?_ (fun _ => ?_)
theorem imprimaturlaw01_OctetApart.mono : ∀ a0 a1 a2 k, LeO (imprimaturlaw01_OctetApart.f k a0 a1 a2) (imprimaturlaw01_OctetApart.f (k + 1) a0 a1 a2) := by
  intro a0 a1 a2 k
  obtain ⟨ih0, ih1, ih2⟩ := imprimaturlaw01_OctetApart.mono_l k
  unfold imprimaturlaw01_OctetApart.f
  repeat' first
      | (with_reducible exact ih0 _ _ _ _ _ _)
      | (with_reducible exact ih1 _ _ _ _)
      | (with_reducible exact ih2 _ _ _ _ _ _)
      | (with_reducible exact imprimaturlaw01_alive.mono _)
      | (with_reducible exact imprimaturref01_Same.mono _ _ _)
      | (with_reducible exact octet_Unpack.mono _ _)
      | (with_reducible exact LeO.refl _)
      | (with_reducible exact LeO.none _)
      | (with_reducible refine LeO.ite ?_ ?_)
      | (with_reducible refine LeO.bind ?_ (fun _ => ?_))
      | exact ih0 _ _ _ _ _ _
      | exact ih1 _ _ _ _
      | exact ih2 _ _ _ _ _ _
      | exact imprimaturlaw01_alive.mono _
      | exact imprimaturref01_Same.mono _ _ _
      | exact octet_Unpack.mono _ _
      | exact LeO.none _
      | refine LeO.ite ?_ ?_
      | refine LeO.bind ?_ (fun _ => ?_)
set_option maxHeartbeats 8000000 in
set_option maxRecDepth 100000 in
theorem imprimaturlaw01_OctetApart.calls (k : Nat) (A0 : Option Addr) (c0 : Nat) (l0 : List ByteArray) (A1 : Option Addr) (c1 : Nat) (l1 : List ByteArray) (a2 : Int) (r : Bool) (w : World) (hr0 : Kd.C Kd.string w A0 l0.length l0) (hc0 : l0.length ≤ c0) (hr1 : Kd.C Kd.string w A1 l1.length l1) (hc1 : l1.length ≤ c1) (h : imprimaturlaw01_OctetApart.f k l0 l1 a2 = some r) :
    Calls Try.prog 7 #[.slice A0 l0.length c0, .slice A1 l1.length c1, .int .i64 a2] w fun e w' => e = .returned (.bool r) ∧ Below w.heap.size w w' := by
  have HR0 := Aside0.mk hr0
  have HC0 := Aside0.mk hc0
  clear hr0 hc0
  have HR1 := Aside0.mk hr1
  have HC1 := Aside0.mk hc1
  clear hr1 hc1
  have HB := Aside0.mk (Below.refl w.heap.size w)
  have H : ((imprimaturlaw01_few.f l0).bind fun t217 => ((imprimaturlaw01_few.f l1).bind fun t220 => ((octet_Pack.f t217).bind fun bt223 => ((octet_Pack.f t220).bind fun bt225 => (if bt223.2 = 0 then (imprimaturlaw01_OctetApart.j0 k t217 t220 a2 bt223.1 bt225.1 (bt225.2 != 0)) else (imprimaturlaw01_OctetApart.j0 k t217 t220 a2 bt223.1 bt225.1 true)))))) = some r := h
  clear h
  replace H := Option.bind_eq_some_iff.mp H
  obtain ⟨t217, A40, H⟩ := H
  replace H : ((imprimaturlaw01_few.f l1).bind fun t220 => ((octet_Pack.f t217).bind fun bt223 => ((octet_Pack.f t220).bind fun bt225 => (if bt223.2 = 0 then (imprimaturlaw01_OctetApart.j0 k t217 t220 a2 bt223.1 bt225.1 (bt225.2 != 0)) else (imprimaturlaw01_OctetApart.j0 k t217 t220 a2 bt223.1 bt225.1 true))))) = some r := H
  have A4 := Aside0.mk A40
  clear A40
  replace H := Option.bind_eq_some_iff.mp H
  obtain ⟨t220, A50, H⟩ := H
  replace H : ((octet_Pack.f t217).bind fun bt223 => ((octet_Pack.f t220).bind fun bt225 => (if bt223.2 = 0 then (imprimaturlaw01_OctetApart.j0 k t217 t220 a2 bt223.1 bt225.1 (bt225.2 != 0)) else (imprimaturlaw01_OctetApart.j0 k t217 t220 a2 bt223.1 bt225.1 true)))) = some r := H
  have A5 := Aside0.mk A50
  clear A50
  replace H := Option.bind_eq_some_iff.mp H
  obtain ⟨⟨t223, t224⟩, A60, H⟩ := H
  replace H : ((octet_Pack.f t220).bind fun bt225 => (if t224 = 0 then (imprimaturlaw01_OctetApart.j0 k t217 t220 a2 t223 bt225.1 (bt225.2 != 0)) else (imprimaturlaw01_OctetApart.j0 k t217 t220 a2 t223 bt225.1 true))) = some r := H
  have A6 := Aside0.mk A60
  clear A60
  replace H := Option.bind_eq_some_iff.mp H
  obtain ⟨⟨t225, t226⟩, A70, H⟩ := H
  replace H : (if t224 = 0 then (imprimaturlaw01_OctetApart.j0 k t217 t220 a2 t223 t225 (t226 != 0)) else (imprimaturlaw01_OctetApart.j0 k t217 t220 a2 t223 t225 true)) = some r := H
  have A7 := Aside0.mk A70
  clear A70
  have HC8 := Aside0.mk H
  clear H
  go_enter Try.func7, Try.ntmps7
  go_upto_region 4 with (first | ((with_reducible refine gate_callee (f := 18) rfl ?_); refine goesL_ (some 16) rfl rfl Try.func18 (by kernel_rfl) rfl #[.slice A0 l0.length c0] rfl (by (try simp only [List.map_toArray, List.map_cons, List.map_nil]); first | done | rfl | (simp only [List.length_drop, List.length_take]; rfl)) ?_; (with_reducible refine (imprimaturlaw01_few.calls _ _ l0 t217 _ ?side1 ?side2 A4.out).mono ?_); (case side1 => repeat (first | exact HR0.out | (with_reducible refine Kd.C_alloc ?_ _) | (with_reducible refine Kd.C_drewN ?_ _) | (with_reducible refine Kd.C_drew ?_))); (case side2 => exact HC0.out); rintro e w9 ⟨v218, rfl, ho0, hb⟩; refine ⟨_, rfl, ?_⟩; have n0_ := Aside0.mk (Kd.R_lower ho0 (below_size (by repeat (first | (with_reducible first | exact HB.out | apply below_alloc | apply pw_below_drewN | apply below_drew1) | exact HB.out)))); have n1_ := Aside0.mk (below_step (by repeat (first | (with_reducible first | exact HB.out | apply below_alloc | apply pw_below_drewN | apply below_drew1) | exact HB.out)) hb); clear HB; have HO219 := n0_; have HB := n1_; clear n0_ n1_; (try clear hb); (try clear hb2); (try clear hk); (try clear hi); (try clear ho0)) | ((with_reducible refine gate_callee (f := 18) rfl ?_); refine goesL_ (some 18) rfl rfl Try.func18 (by kernel_rfl) rfl #[.slice A1 l1.length c1] rfl (by (try simp only [List.map_toArray, List.map_cons, List.map_nil]); first | done | rfl | (simp only [List.length_drop, List.length_take]; rfl)) ?_; (with_reducible refine (imprimaturlaw01_few.calls _ _ l1 t220 _ ?side1 ?side2 A5.out).mono ?_); (case side1 => repeat (first | exact (Kd.C_below HR1.out HB.out) | (with_reducible refine Kd.C_alloc ?_ _) | (with_reducible refine Kd.C_drewN ?_ _) | (with_reducible refine Kd.C_drew ?_))); (case side2 => exact HC1.out); rintro e w10 ⟨v221, rfl, ho0, hb⟩; refine ⟨_, rfl, ?_⟩; have n0_ := Aside0.mk (Kd.R_elder' (by (with_reducible repeat (first | apply Kd.R_alloc | apply Kd.R_drewN | apply Kd.R_drew)); exact HO219.out) (Kd.R_base ho0) hb); have n1_ := Aside0.mk (Kd.R_lower (Kd.R_new' ho0 (Kd.R_lt (by (with_reducible repeat (first | apply Kd.R_alloc | apply Kd.R_drewN | apply Kd.R_drew)); exact HO219.out))) (below_size (by repeat (first | (with_reducible first | exact HB.out | apply below_alloc | apply pw_below_drewN | apply below_drew1) | exact HB.out)))); have n2_ := Aside0.mk (below_step (by repeat (first | (with_reducible first | exact HB.out | apply below_alloc | apply pw_below_drewN | apply below_drew1) | exact HB.out)) hb); clear HO219; clear HB; have HO219 := n0_; have HO222 := n1_; have HB := n2_; clear n0_ n1_ n2_; (try clear hb); (try clear hb2); (try clear hk); (try clear hi); (try clear ho0); obtain ⟨Ao11, co11, eo11⟩ := Kd.R_slice HO219.out; subst eo11) | ((with_reducible refine gate_callee (f := 19) rfl ?_); refine goesL_ (some 21) rfl rfl Try.func19 (by kernel_rfl) rfl #[.slice Ao11 t217.length co11] rfl (by (try simp only [List.map_toArray, List.map_cons, List.map_nil]); first | done | rfl | (simp only [List.length_drop, List.length_take]; rfl)) ?_; (with_reducible refine (octet_Pack.calls _ _ t217 t223 t224 _ ?side1 ?side2 A6.out).mono ?_); (case side1 => repeat (first | exact (Kd.R_reads' HO219.out).2.2 | (with_reducible refine Kd.C_alloc ?_ _) | (with_reducible refine Kd.C_drewN ?_ _) | (with_reducible refine Kd.C_drew ?_))); (case side2 => exact (Kd.R_reads' HO219.out).2.1); rintro e w12 ⟨rfl, hb⟩; refine ⟨_, rfl, ?_⟩; have n0_ := Aside0.mk (Kd.R_below (by (with_reducible repeat (first | apply Kd.R_alloc | apply Kd.R_drewN | apply Kd.R_drew)); exact HO219.out) hb); have n1_ := Aside0.mk (Kd.R_below (by (with_reducible repeat (first | apply Kd.R_alloc | apply Kd.R_drewN | apply Kd.R_drew)); exact HO222.out) hb); have n2_ := Aside0.mk (below_step (by repeat (first | (with_reducible first | exact HB.out | apply below_alloc | apply pw_below_drewN | apply below_drew1) | exact HB.out)) hb); clear HO219; clear HO222; clear HB; have HO219 := n0_; have HO222 := n1_; have HB := n2_; clear n0_ n1_ n2_; (try clear hb); (try clear hb2); (try clear hk); (try clear hi); obtain ⟨Ao13, co13, eo13⟩ := Kd.R_slice HO222.out; subst eo13) | ((with_reducible refine gate_callee (f := 19) rfl ?_); refine goesL_ (some 26) rfl rfl Try.func19 (by kernel_rfl) rfl #[.slice Ao13 t220.length co13] rfl (by (try simp only [List.map_toArray, List.map_cons, List.map_nil]); first | done | rfl | (simp only [List.length_drop, List.length_take]; rfl)) ?_; (with_reducible refine (octet_Pack.calls _ _ t220 t225 t226 _ ?side1 ?side2 A7.out).mono ?_); (case side1 => repeat (first | exact (Kd.R_reads' HO222.out).2.2 | (with_reducible refine Kd.C_alloc ?_ _) | (with_reducible refine Kd.C_drewN ?_ _) | (with_reducible refine Kd.C_drew ?_))); (case side2 => exact (Kd.R_reads' HO222.out).2.1); rintro e w14 ⟨rfl, hb⟩; refine ⟨_, rfl, ?_⟩; have n0_ := Aside0.mk (Kd.R_below (by (with_reducible repeat (first | apply Kd.R_alloc | apply Kd.R_drewN | apply Kd.R_drew)); exact HO219.out) hb); have n1_ := Aside0.mk (Kd.R_below (by (with_reducible repeat (first | apply Kd.R_alloc | apply Kd.R_drewN | apply Kd.R_drew)); exact HO222.out) hb); have n2_ := Aside0.mk (below_step (by repeat (first | (with_reducible first | exact HB.out | apply below_alloc | apply pw_below_drewN | apply below_drew1) | exact HB.out)) hb); clear HO219; clear HO222; clear HB; have HO219 := n0_; have HO222 := n1_; have HB := n2_; clear n0_ n1_ n2_; (try clear hb); (try clear hb2); (try clear hk); (try clear hi)))
  (try simp only [Act.put, List.setIfInBounds_toArray, List.set_cons_zero, List.set_cons_succ])
  go_cut [34] (fun v34 wc => ∃ (kq : Nat) (x34_7 : Bool), v34 = .bool x34_7 ∧ Aside0 (imprimaturlaw01_OctetApart.j0 kq t217 t220 a2 t223 t225 x34_7 = some r) ∧ Aside0 (kq ≤ k) ∧ Aside0 (Kd.R Kd.string 9 wc w.heap.size (fun k_ => some k_ ≠ ((.slice Ao13 t220.length co13) : Value).ownBlock) (.slice Ao11 t217.length co11) t217) ∧ Aside0 (Kd.R Kd.string 9 wc w.heap.size (fun k_ => some k_ ≠ ((.slice Ao11 t217.length co11) : Value).ownBlock) (.slice Ao13 t220.length co13) t220) ∧ Aside0 (Below w.heap.size w wc))
  case first =>
    have H := HC8.out
    clear HC8
    by_cases c15 : t224 = 0
    · rw [if_pos c15] at H
      have c15b0 : (t224 == 0) = true := beq_iff_eq.mpr c15
      have c15b1 : (t224 != 0) = false := bne_eq_false_iff_eq.mpr c15
      clear c15
      (first | rw [c15b0] | (simp only [i64_w, i32_w]; rw [c15b0]) | skip)
      have H' := Aside0.mk H
      clear H
      go_wp2
      go_meet
      case rel => exact ⟨_, ((t226 != 0)), (by first | rfl | (simp; done) | (simp [*]; done)), H', ⟨by first | omega | exact Nat.le_refl _⟩, ⟨by (with_reducible repeat (first | apply Kd.R_alloc | apply Kd.R_drewN | apply Kd.R_drew)); exact Kd.R_mono HO219.out (fun _ hk => hk.2)⟩, ⟨by (with_reducible repeat (first | apply Kd.R_alloc | apply Kd.R_drewN | apply Kd.R_drew)); exact Kd.R_mono HO222.out (fun _ hk => hk.2)⟩, ⟨by repeat (first | (with_reducible first | exact HB.out | apply below_alloc | apply pw_below_drewN | apply below_drew1) | exact HB.out)⟩⟩
    · rw [if_neg c15] at H
      have c15b0 : (t224 == 0) = false := beq_eq_false_iff_ne.mpr c15
      have c15b1 : (t224 != 0) = true := bne_iff_ne.mpr c15
      (first | rw [c15b0] | (simp only [i64_w, i32_w]; rw [c15b0]) | skip)
      have H' := Aside0.mk H
      clear H
      go_wp2
      go_meet
      case rel => exact ⟨_, (true), (by first | rfl | (simp; done) | (simp [*]; done)), H', ⟨by first | omega | exact Nat.le_refl _⟩, ⟨by (with_reducible repeat (first | apply Kd.R_alloc | apply Kd.R_drewN | apply Kd.R_drew)); exact Kd.R_mono HO219.out (fun _ hk => hk.2)⟩, ⟨by (with_reducible repeat (first | apply Kd.R_alloc | apply Kd.R_drewN | apply Kd.R_drew)); exact Kd.R_mono HO222.out (fun _ hk => hk.2)⟩, ⟨by repeat (first | (with_reducible first | exact HB.out | apply below_alloc | apply pw_below_drewN | apply below_drew1) | exact HB.out)⟩⟩
  case rest =>
    clear HC8
    try clear c1
    try clear p2
    try clear c7
    try clear c15
    try clear c15b0
    try clear c15b1
    obtain ⟨kq, x34_7, rfl, HA, HJ7, HO_0, HO_1, HB⟩ := hcut
    cases kq with
    | zero => exact absurd HA.out (by simp [imprimaturlaw01_OctetApart.j0])
    | succ kj7 =>
      have H := HA.out
      clear HA
      simp only [imprimaturlaw01_OctetApart.j0] at H
      by_cases c16 : x34_7 = true
      · subst c16
        have H1 : ((imprimaturlaw01_alive.f kj7).bind fun t227 => (some t227)) = some r := by rw [if_pos rfl] at H; exact H
        clear H
        have H := H1
        clear H1
        replace H := Option.bind_eq_some_iff.mp H
        obtain ⟨t227, A170, H⟩ := H
        replace H : (some t227) = some r := H
        have A17 := Aside0.mk A170
        clear A170
        obtain rfl := Option.some.inj H
        go_wp2_with (first | ((with_reducible refine gate_callee (f := 14) rfl ?_); refine goesL_ (some 35) rfl rfl Try.func14 (by kernel_rfl) rfl #[] rfl (by (try simp only [List.map_toArray, List.map_cons, List.map_nil]); first | done | rfl | (simp only [List.length_drop, List.length_take]; rfl)) ?_; (with_reducible refine (imprimaturlaw01_alive.calls kj7  t227 _ A17.out).mono ?_); rintro e w18 ⟨rfl, hb⟩; refine ⟨_, rfl, ?_⟩; have n0_ := Aside0.mk (Kd.R_below (by (with_reducible repeat (first | apply Kd.R_alloc | apply Kd.R_drewN | apply Kd.R_drew)); exact HO_0.out) hb); have n1_ := Aside0.mk (Kd.R_below (by (with_reducible repeat (first | apply Kd.R_alloc | apply Kd.R_drewN | apply Kd.R_drew)); exact HO_1.out) hb); have n2_ := Aside0.mk (below_step (by repeat (first | (with_reducible first | exact HB.out | apply below_alloc | apply pw_below_drewN | apply below_drew1) | exact HB.out)) hb); clear HO_0; clear HO_1; clear HB; have HO_0 := n0_; have HO_1 := n1_; have HB := n2_; clear n0_ n1_ n2_; (try clear hb); (try clear hb2); (try clear hk); (try clear hi)))
        go_ret
        exact ⟨by first | rfl | (simp [errW_none, errW_some] <;> rfl) | (simp [*, errW_none, errW_some] <;> rfl), by repeat (first | (with_reducible first | exact HB.out | apply below_alloc | apply pw_below_drewN | apply below_drew1) | exact HB.out)⟩
      · replace c16 := Bool.eq_false_iff.mpr c16
        subst c16
        have H1 : ((imprimaturref01_Same.f kj7 t217 t220).bind fun t228 => (if ((t223.toList == t225.toList) != t228) = true then (imprimaturlaw01_OctetApart.j1 kj7 t217 a2 t223 true) else ((imprimaturlaw01_alive.f kj7).bind fun t229 => (imprimaturlaw01_OctetApart.j1 kj7 t217 a2 t223 (!t229))))) = some r := by rw [if_neg (show ¬ (false = true) by decide)] at H; exact H
        clear H
        have H := H1
        clear H1
        have HC19 := Aside0.mk H
        clear H
        go_upto_region 6 with (fail)
        go_cut [46] (fun v46 wc => ∃ (kq : Nat) (x46_18 : Bool), v46 = .bool x46_18 ∧ Aside0 (imprimaturlaw01_OctetApart.j1 kq t217 a2 t223 x46_18 = some r) ∧ Aside0 (kq ≤ kj7) ∧ Aside0 (Kd.R Kd.string 9 wc w.heap.size (fun _ => True) (.slice Ao11 t217.length co11) t217) ∧ Aside0 (Below w.heap.size w wc))
        case first =>
          have H := HC19.out
          clear HC19
          replace H := Option.bind_eq_some_iff.mp H
          obtain ⟨t228, A200, H⟩ := H
          replace H : (if ((t223.toList == t225.toList) != t228) = true then (imprimaturlaw01_OctetApart.j1 kj7 t217 a2 t223 true) else ((imprimaturlaw01_alive.f kj7).bind fun t229 => (imprimaturlaw01_OctetApart.j1 kj7 t217 a2 t223 (!t229)))) = some r := H
          have A20 := Aside0.mk A200
          clear A200
          by_cases c21 : ((t223.toList == t225.toList) != t228) = true
          · rw [if_pos c21] at H
            have c21b0 : ((t223.toList == t225.toList) != t228) = true := c21
            (try (have c21b1 : decide ((t223.toList == t225.toList) = t228) = false := by simpa using c21))
            (try (have c21b2 : ((t223.toList == t225.toList) == t228) = false := by simpa using c21))
            (try (have c21b3 : ¬ ((t223.toList == t225.toList) = t228) := by simpa using c21))
            clear c21
            (first | rw [c21b0] | (simp only [i64_w, i32_w]; rw [c21b0]) | skip)
            have H' := Aside0.mk H
            clear H
            go_wp2_with (first | ((with_reducible refine gate_callee (f := 23) rfl ?_); refine goesL_ (some 41) rfl rfl Try.func23 (by kernel_rfl) rfl #[.slice Ao11 t217.length co11, .slice Ao13 t220.length co13] rfl (by (try simp only [List.map_toArray, List.map_cons, List.map_nil]); first | done | rfl | (simp only [List.length_drop, List.length_take]; rfl)) ?_; (with_reducible refine (imprimaturref01_Same.calls kj7 _ _ t217 _ _ t220 t228 _ ?side1 ?side2 ?side3 ?side4 A20.out).mono ?_); (case side1 => repeat (first | exact (Kd.R_reads' HO_0.out).2.2 | (with_reducible refine Kd.C_alloc ?_ _) | (with_reducible refine Kd.C_drewN ?_ _) | (with_reducible refine Kd.C_drew ?_))); (case side2 => exact (Kd.R_reads' HO_0.out).2.1); (case side3 => repeat (first | exact (Kd.R_reads' HO_1.out).2.2 | (with_reducible refine Kd.C_alloc ?_ _) | (with_reducible refine Kd.C_drewN ?_ _) | (with_reducible refine Kd.C_drew ?_))); (case side4 => exact (Kd.R_reads' HO_1.out).2.1); rintro e w' ⟨rfl, ⟨nd, rfl⟩⟩; refine ⟨_, rfl, ?_⟩))
            go_meet
            case rel => exact ⟨_, (true), (by first | rfl | (simp; done) | (simp [*]; done)), H', ⟨by have := HJ7.out; first | omega | exact Nat.le_refl _⟩, ⟨by (with_reducible repeat (first | apply Kd.R_alloc | apply Kd.R_drewN | apply Kd.R_drew)); exact Kd.R_mono HO_0.out (fun _ hk => trivial)⟩, ⟨by repeat (first | (with_reducible first | exact HB.out | apply below_alloc | apply pw_below_drewN | apply below_drew1) | exact HB.out)⟩⟩
          · rw [if_neg c21] at H
            have c21b0 : ((t223.toList == t225.toList) != t228) = false := by simpa using c21
            (try (have c21b1 : decide ((t223.toList == t225.toList) = t228) = true := by simpa using c21))
            (try (have c21b2 : ((t223.toList == t225.toList) == t228) = true := by simpa using c21))
            clear c21
            (first | rw [c21b0] | (simp only [i64_w, i32_w]; rw [c21b0]) | skip)
            replace H := Option.bind_eq_some_iff.mp H
            obtain ⟨t229, A220, H⟩ := H
            replace H : (imprimaturlaw01_OctetApart.j1 kj7 t217 a2 t223 (!t229)) = some r := H
            have A22 := Aside0.mk A220
            clear A220
            have H' := Aside0.mk H
            clear H
            go_wp2_with (first | ((with_reducible refine gate_callee (f := 23) rfl ?_); refine goesL_ (some 41) rfl rfl Try.func23 (by kernel_rfl) rfl #[.slice Ao11 t217.length co11, .slice Ao13 t220.length co13] rfl (by (try simp only [List.map_toArray, List.map_cons, List.map_nil]); first | done | rfl | (simp only [List.length_drop, List.length_take]; rfl)) ?_; (with_reducible refine (imprimaturref01_Same.calls kj7 _ _ t217 _ _ t220 t228 _ ?side1 ?side2 ?side3 ?side4 A20.out).mono ?_); (case side1 => repeat (first | exact (Kd.R_reads' HO_0.out).2.2 | (with_reducible refine Kd.C_alloc ?_ _) | (with_reducible refine Kd.C_drewN ?_ _) | (with_reducible refine Kd.C_drew ?_))); (case side2 => exact (Kd.R_reads' HO_0.out).2.1); (case side3 => repeat (first | exact (Kd.R_reads' HO_1.out).2.2 | (with_reducible refine Kd.C_alloc ?_ _) | (with_reducible refine Kd.C_drewN ?_ _) | (with_reducible refine Kd.C_drew ?_))); (case side4 => exact (Kd.R_reads' HO_1.out).2.1); rintro e w' ⟨rfl, ⟨nd, rfl⟩⟩; refine ⟨_, rfl, ?_⟩) | (go_at_call 14; (with_reducible refine (imprimaturlaw01_alive.calls kj7  t229 _ A22.out).mono ?_); rintro e w23 ⟨rfl, hb⟩; have n0_ := Aside0.mk (Kd.R_below (by (with_reducible repeat (first | apply Kd.R_alloc | apply Kd.R_drewN | apply Kd.R_drew)); exact HO_0.out) hb); have n1_ := Aside0.mk (Kd.R_below (by (with_reducible repeat (first | apply Kd.R_alloc | apply Kd.R_drewN | apply Kd.R_drew)); exact HO_1.out) hb); have n2_ := Aside0.mk (below_step (by repeat (first | (with_reducible first | exact HB.out | apply below_alloc | apply pw_below_drewN | apply below_drew1) | exact HB.out)) hb); clear HO_0; clear HO_1; clear HB; have HO_0 := n0_; have HO_1 := n1_; have HB := n2_; clear n0_ n1_ n2_; (try clear hb); (try clear hb2); (try clear hk); (try clear hi)))
            go_meet
            case rel => exact ⟨_, (!t229), (by first | rfl | (simp; done) | (simp [*]; done)), H', ⟨by have := HJ7.out; first | omega | exact Nat.le_refl _⟩, ⟨by (with_reducible repeat (first | apply Kd.R_alloc | apply Kd.R_drewN | apply Kd.R_drew)); exact Kd.R_mono HO_0.out (fun _ hk => trivial)⟩, ⟨by repeat (first | (with_reducible first | exact HB.out | apply below_alloc | apply pw_below_drewN | apply below_drew1) | exact HB.out)⟩⟩
        case rest =>
          clear HC19
          try clear c1
          try clear c2
          try clear p2
          try clear c7
          try clear c14
          try clear c15
          try clear c15b0
          try clear c15b1
          try clear c16
          try clear c18
          try clear c19
          try clear c21
          try clear c21b0
          try clear c21b1
          try clear c21b2
          try clear c23
          try clear p2
          obtain ⟨kq, x46_18, rfl, HA, HJ18, HO_0, HB⟩ := hcut
          cases kq with
          | zero => exact absurd HA.out (by simp [imprimaturlaw01_OctetApart.j1])
          | succ kj18 =>
            have H := HA.out
            clear HA
            simp only [imprimaturlaw01_OctetApart.j1] at H
            by_cases c24 : x46_18 = true
            · subst c24
              have H1 : (some false) = some r := by rw [if_pos rfl] at H; exact H
              clear H
              have H := H1
              clear H1
              obtain rfl := Option.some.inj H
              go_wp2
              go_ret
              exact ⟨by first | rfl | (simp [errW_none, errW_some] <;> rfl) | (simp [*, errW_none, errW_some] <;> rfl), by repeat (first | (with_reducible first | exact HB.out | apply below_alloc | apply pw_below_drewN | apply below_drew1) | exact HB.out)⟩
            · replace c24 := Bool.eq_false_iff.mpr c24
              subst c24
              have H1 : (if 0 ≤ (mn (mx a2 0) (t223.size : Int)) then (if (mn (mx a2 0) (t223.size : Int)) ≤ (t223.size : Int) then ((octet_Unpack.f kj18 (t223.extract 0 ((mn (mx a2 0) (t223.size : Int)) : Int).toNat)).bind fun bt230 => (imprimaturlaw01_OctetApart.l0 kj18 t217 (mn (mx a2 0) (t223.size : Int)) bt230.1 bt230.2 0 0)) else (none)) else (none)) = some r := by rw [if_neg (show ¬ (false = true) by decide)] at H; exact H
              clear H
              have H := H1
              clear H1
              obtain ⟨ji25, hji25⟩ : ∃ j_ : Int, (mx a2 0) = j_ := ⟨_, rfl⟩
              replace H : (if 0 ≤ (mn (ji25) (t223.size : Int)) then (if (mn (ji25) (t223.size : Int)) ≤ (t223.size : Int) then ((octet_Unpack.f kj18 (t223.extract 0 ((mn (ji25) (t223.size : Int)) : Int).toNat)).bind fun bt230 => (imprimaturlaw01_OctetApart.l0 kj18 t217 (mn (ji25) (t223.size : Int)) bt230.1 bt230.2 0 0)) else (none)) else (none)) = some r := by first | (rw [hji25] at H; exact H) | (simp only [hji25] at H ⊢; exact H)
              have hji25_ : (if a2 < 0 then 0 else a2) = ji25 := hji25
              obtain ⟨ji26, hji26⟩ : ∃ j_ : Int, (mn (ji25) (t223.size : Int)) = j_ := ⟨_, rfl⟩
              replace H : (if 0 ≤ (ji26) then (if (ji26) ≤ (t223.size : Int) then ((octet_Unpack.f kj18 (t223.extract 0 ((ji26) : Int).toNat)).bind fun bt230 => (imprimaturlaw01_OctetApart.l0 kj18 t217 ji26 bt230.1 bt230.2 0 0)) else (none)) else (none)) = some r := by first | (rw [hji26] at H; exact H) | (simp only [hji26] at H ⊢; exact H)
              have hji26_ : (if (t223.size : Int) < (ji25) then (t223.size : Int) else (ji25)) = ji26 := hji26
              by_cases c27 : 0 ≤ (ji26)
              · rw [if_pos c27] at H
                have c27b0 := eq_true c27
                have c27b1 : decide (0 ≤ (ji26)) = true := decide_eq_true c27
                clear c27
                by_cases c28 : (ji26) ≤ (t223.size : Int)
                · rw [if_pos c28] at H
                  have c28b0 := eq_true c28
                  have c28b1 : decide ((ji26) ≤ (t223.size : Int)) = true := decide_eq_true c28
                  clear c28
                  replace H := Option.bind_eq_some_iff.mp H
                  obtain ⟨⟨t230, t231⟩, A290, H⟩ := H
                  replace H : (imprimaturlaw01_OctetApart.l0 kj18 t217 ji26 t230 t231 0 0) = some r := H
                  have A29 := Aside0.mk A290
                  clear A290
                  have H' := Aside0.mk H
                  clear H
                  go_wp2_with (first | ((with_reducible refine gate_callee (f := 20) rfl ?_); refine goesL_ (some 56) rfl rfl Try.func20 (by kernel_rfl) rfl #[.string (t223.extract 0 ((ji26) : Int).toNat)] rfl (by (try simp only [List.map_toArray, List.map_cons, List.map_nil]); first | done | (simp only [hji26]; rfl) | rfl | (simp only [List.length_drop, List.length_take]; rfl)) ?_; (with_reducible refine (octet_Unpack.calls kj18 (t223.extract 0 ((ji26) : Int).toNat) t230 t231 _ A29.out).mono ?_); rintro e w30 ⟨v232, rfl, ho0, hb⟩; refine ⟨_, rfl, ?_⟩; have n0_ := Aside0.mk (Kd.R_elder' (by (with_reducible repeat (first | apply Kd.R_alloc | apply Kd.R_drewN | apply Kd.R_drew)); exact HO_0.out) (Kd.R_base ho0) hb); have n1_ := Aside0.mk (Kd.R_lower (Kd.R_new' ho0 (Kd.R_lt (by (with_reducible repeat (first | apply Kd.R_alloc | apply Kd.R_drewN | apply Kd.R_drew)); exact HO_0.out))) (below_size (by repeat (first | (with_reducible first | exact HB.out | apply below_alloc | apply pw_below_drewN | apply below_drew1) | exact HB.out)))); have n2_ := Aside0.mk (below_step (by repeat (first | (with_reducible first | exact HB.out | apply below_alloc | apply pw_below_drewN | apply below_drew1) | exact HB.out)) hb); clear HO_0; clear HB; have HO_0 := n0_; have HO233 := n1_; have HB := n2_; clear n0_ n1_ n2_; (try clear hb); (try clear hb2); (try clear hk); (try clear hi); (try clear ho0)))
                  go_loopg [13, 14] kj18 (fun kq v13 v14 w' => ∃ (x13_3 : Int) (x14_3 : Int), v13 = .int .i64 x13_3 ∧ v14 = .int .i64 x14_3 ∧ Aside0 (imprimaturlaw01_OctetApart.l0 kq t217 ji26 t230 t231 x13_3 x14_3 = some r) ∧ Aside0 (kq ≤ kj18) ∧ Aside0 (Kd.R Kd.string 9 w' w.heap.size (fun k_ => some k_ ≠ (v232 : Value).ownBlock) (.slice Ao11 t217.length co11) t217) ∧ Aside0 (Kd.R Kd.string 9 w' w.heap.size (fun k_ => some k_ ≠ ((.slice Ao11 t217.length co11) : Value).ownBlock) v232 t230) ∧ Aside0 (Below w.heap.size w w'))
                  case atStart => exact ⟨(0), (0), (by first | rfl | (simp; done) | (simp [*]; done)), (by first | rfl | (simp; done) | (simp [*]; done)), H', ⟨Nat.le_refl _⟩, ⟨by (with_reducible repeat (first | apply Kd.R_alloc | apply Kd.R_drewN | apply Kd.R_drew)); exact Kd.R_mono HO_0.out (fun _ hk => hk.2)⟩, ⟨by (with_reducible repeat (first | apply Kd.R_alloc | apply Kd.R_drewN | apply Kd.R_drew)); exact Kd.R_mono HO233.out (fun _ hk => hk.2)⟩, ⟨by repeat (first | (with_reducible first | exact HB.out | apply below_alloc | apply pw_below_drewN | apply below_drew1) | exact HB.out)⟩⟩
                  case round =>
                    clear H'
                    try clear c1
                    try clear c2
                    try clear p2
                    try clear c7
                    try clear c14
                    try clear c15
                    try clear c15b0
                    try clear c15b1
                    try clear c16
                    try clear c18
                    try clear c19
                    try clear c20
                    try clear c21
                    try clear c21b0
                    try clear c21b1
                    try clear c21b2
                    try clear c23
                    try clear c24
                    try clear c27
                    try clear c27b0
                    try clear c27b1
                    try clear c28
                    try clear c28b0
                    try clear c28b1
                    try clear p2
                    obtain ⟨x13_3, x14_3, rfl, rfl, HA, HK3, HO_0, HO_11, HB⟩ := hrel
                    cases gk with
                    | zero => exact absurd HA.out (by simp [imprimaturlaw01_OctetApart.l0])
                    | succ k3 =>
                      have H := HA.out
                      clear HA
                      simp only [imprimaturlaw01_OctetApart.l0] at H
                      by_cases c31 : x13_3 = ji26
                      · rw [if_pos c31] at H
                        have c31b0 : (x13_3 == ji26) = true := beq_iff_eq.mpr c31
                        have c31b1 : (x13_3 != ji26) = false := bne_eq_false_iff_eq.mpr c31
                        clear c31
                        by_cases c32 : t231 = 0
                        · rw [if_pos c32] at H
                          have c32b0 : (t231 == 0) = true := beq_iff_eq.mpr c32
                          have c32b1 : (t231 != 0) = false := bne_eq_false_iff_eq.mpr c32
                          clear c32
                          by_cases c33 : 0 ≤ x14_3
                          · rw [if_pos c33] at H
                            have c33b0 := eq_true c33
                            have c33b1 : decide (0 ≤ x14_3) = true := decide_eq_true c33
                            clear c33
                            by_cases c34 : x14_3 ≤ (t217.length : Int)
                            · rw [if_pos c34] at H
                              have c34b0 := eq_true c34
                              have c34b1 : decide (x14_3 ≤ (t217.length : Int)) = true := decide_eq_true c34
                              clear c34
                              obtain ⟨y234, hy234⟩ : ∃ y_ : List ByteArray, y_ = (t217.take (x14_3 : Int).toNat) := ⟨_, rfl⟩
                              replace H : ((imprimaturref01_Same.f k3 t230 y234).bind fun t238 => (some t238)) = some r := by first | (rw [hy234]; with_reducible exact H) | (have H2_ := (Option.bind_some _ _).symm.trans H; rw [hy234]; with_reducible exact H2_) | (have H2_ := (Option.bind_some _ _).symm.trans H; with_reducible exact H2_) | with_reducible exact H | (rw [hy234]; exact H) | exact H
                              have Ny234 := Aside0.mk hy234
                              clear hy234
                              replace H := Option.bind_eq_some_iff.mp H
                              obtain ⟨t238, A350, H⟩ := H
                              replace H : (some t238) = some r := H
                              have A35 := Aside0.mk A350
                              clear A350
                              obtain rfl := Option.some.inj H
                              have q36 : (x14_3 : Int) ≤ ((t217.length : Int) : Int) := of_decide_eq_true (by first | (with_reducible assumption) | assumption)
                              obtain ⟨i036, hi036, _, hsz36, _⟩ := info_parts info9
                              have hroom36 : t217.length ≤ co11 := (Kd.R_reads' HO_0.out).2.1
                              have hC36 : Kd.C Kd.string _ Ao11 t217.length t217 := (Kd.R_reads' HO_0.out).2.2
                              have hcut36 := cut_to (P := Try.prog) 38 9 .i64 Try.underlying38 hi036 Ao11 t217.length co11 x14_3 (of_decide_eq_true (by first | (with_reducible assumption) | assumption)) q36 hroom36
                              have hr36 := Kd.C_take (m := (x14_3 : Int).toNat) hC36 (by omega)
                              have hy36 : y234.length = (x14_3 : Int).toNat := (by rw [Ny234.out, List.length_take]; omega)
                              rw [← Ny234.out] at hr36
                              rw [← hy36] at hcut36
                              have HR237 := Aside0.mk hr36
                              have HC237 := Aside0.mk (show y234.length ≤ co11 from by omega)
                              clear hr36 hC36 hroom36 hi036 hsz36
                              have KY36 := Aside0.mk hy36
                              clear hy36
                              have KL36 := Aside0.mk (show (x14_3 : Int).toNat ≤ t217.length from by omega)
                              replace q36 := eq_true q36
                              obtain ⟨Ao37, co37, eo37⟩ := Kd.R_slice HO_11.out
                              subst eo37
                              go_wp2_with (first | (go_at_call 23; (with_reducible refine (imprimaturref01_Same.calls k3 _ _ t230 _ _ y234 t238 _ ?side1 ?side2 ?side3 ?side4 A35.out).mono ?_); (case side1 => repeat (first | exact (Kd.R_reads' HO_11.out).2.2 | (with_reducible refine Kd.C_alloc ?_ _) | (with_reducible refine Kd.C_drewN ?_ _) | (with_reducible refine Kd.C_drew ?_))); (case side2 => exact (Kd.R_reads' HO_11.out).2.1); (case side3 => repeat (first | exact (by repeat (first | (with_reducible exact HR237.out) | (with_reducible refine Kd.C_alloc ?_ _) | (with_reducible refine Kd.C_drewN ?_ _) | (with_reducible refine Kd.C_drew ?_) | exact HR237.out)) | (with_reducible refine Kd.C_alloc ?_ _) | (with_reducible refine Kd.C_drewN ?_ _) | (with_reducible refine Kd.C_drew ?_))); (case side4 => exact HC237.out); rintro e w' ⟨rfl, ⟨nd, rfl⟩⟩))
                              go_ret
                              exact ⟨by first | rfl | (simp [errW_none, errW_some] <;> rfl) | (simp only [← hji25, ← hji26]; first | rfl | (simp [errW_none, errW_some] <;> rfl)) | (simp [*, errW_none, errW_some] <;> rfl), by repeat (first | (with_reducible first | exact HB.out | apply below_alloc | apply pw_below_drewN | apply below_drew1) | exact HB.out)⟩
                            · rw [if_neg c34] at H
                              exact absurd H (by simp)
                          · rw [if_neg c33] at H
                            exact absurd H (by simp)
                        · rw [if_neg c32] at H
                          have c32b0 : (t231 == 0) = false := beq_eq_false_iff_ne.mpr c32
                          have c32b1 : (t231 != 0) = true := bne_iff_ne.mpr c32
                          obtain rfl := Option.some.inj H
                          go_wp2
                          go_ret
                          exact ⟨by first | rfl | (simp [errW_none, errW_some] <;> rfl) | (simp only [← hji25, ← hji26]; first | rfl | (simp [errW_none, errW_some] <;> rfl)) | (simp [*, errW_none, errW_some] <;> rfl), by repeat (first | (with_reducible first | exact HB.out | apply below_alloc | apply pw_below_drewN | apply below_drew1) | exact HB.out)⟩
                      · rw [if_neg c31] at H
                        have c31b0 : (x13_3 == ji26) = false := beq_eq_false_iff_ne.mpr c31
                        have c31b1 : (x13_3 != ji26) = true := bne_iff_ne.mpr c31
                        by_cases c38 : x14_3 = (t217.length : Int)
                        · rw [if_pos c38] at H
                          have c38b0 : (x14_3 == (t217.length : Int)) = true := beq_iff_eq.mpr c38
                          have c38b1 : (x14_3 != (t217.length : Int)) = false := bne_eq_false_iff_eq.mpr c38
                          clear c38
                          by_cases c39 : t231 = 3
                          · rw [if_pos c39] at H
                            have c39b0 : (t231 == 3) = true := beq_iff_eq.mpr c39
                            have c39b1 : (t231 != 3) = false := bne_eq_false_iff_eq.mpr c39
                            clear c39
                            obtain rfl := Option.some.inj H
                            obtain ⟨Ao40, co40, eo40⟩ := Kd.R_slice HO_11.out
                            subst eo40
                            go_wp2
                            go_ret
                            exact ⟨by first | rfl | (simp [errW_none, errW_some] <;> rfl) | (simp only [← hji25, ← hji26]; first | rfl | (simp [errW_none, errW_some] <;> rfl)) | (simp [*, errW_none, errW_some] <;> rfl), by repeat (first | (with_reducible first | exact HB.out | apply below_alloc | apply pw_below_drewN | apply below_drew1) | exact HB.out)⟩
                          · rw [if_neg c39] at H
                            have c39b0 : (t231 == 3) = false := beq_eq_false_iff_ne.mpr c39
                            have c39b1 : (t231 != 3) = true := bne_iff_ne.mpr c39
                            obtain rfl := Option.some.inj H
                            go_wp2
                            go_ret
                            exact ⟨by first | rfl | (simp [errW_none, errW_some] <;> rfl) | (simp only [← hji25, ← hji26]; first | rfl | (simp [errW_none, errW_some] <;> rfl)) | (simp [*, errW_none, errW_some] <;> rfl), by repeat (first | (with_reducible first | exact HB.out | apply below_alloc | apply pw_below_drewN | apply below_drew1) | exact HB.out)⟩
                        · rw [if_neg c38] at H
                          have c38b0 : (x14_3 == (t217.length : Int)) = false := beq_eq_false_iff_ne.mpr c38
                          have c38b1 : (x14_3 != (t217.length : Int)) = true := bne_iff_ne.mpr c38
                          by_cases c41 : x13_3 > ji26
                          · rw [if_pos c41] at H
                            have c41b0 : decide (ji26 < x13_3) = true := decide_eq_true c41
                            clear c41
                            by_cases c42 : t231 = 3
                            · rw [if_pos c42] at H
                              have c42b0 : (t231 == 3) = true := beq_iff_eq.mpr c42
                              have c42b1 : (t231 != 3) = false := bne_eq_false_iff_eq.mpr c42
                              clear c42
                              obtain rfl := Option.some.inj H
                              obtain ⟨Ao43, co43, eo43⟩ := Kd.R_slice HO_11.out
                              subst eo43
                              go_wp2
                              go_ret
                              exact ⟨by first | rfl | (simp [errW_none, errW_some] <;> rfl) | (simp only [← hji25, ← hji26]; first | rfl | (simp [errW_none, errW_some] <;> rfl)) | (simp [*, errW_none, errW_some] <;> rfl), by repeat (first | (with_reducible first | exact HB.out | apply below_alloc | apply pw_below_drewN | apply below_drew1) | exact HB.out)⟩
                            · rw [if_neg c42] at H
                              have c42b0 : (t231 == 3) = false := beq_eq_false_iff_ne.mpr c42
                              have c42b1 : (t231 != 3) = true := bne_iff_ne.mpr c42
                              obtain rfl := Option.some.inj H
                              go_wp2
                              go_ret
                              exact ⟨by first | rfl | (simp [errW_none, errW_some] <;> rfl) | (simp only [← hji25, ← hji26]; first | rfl | (simp [errW_none, errW_some] <;> rfl)) | (simp [*, errW_none, errW_some] <;> rfl), by repeat (first | (with_reducible first | exact HB.out | apply below_alloc | apply pw_below_drewN | apply below_drew1) | exact HB.out)⟩
                          · rw [if_neg c41] at H
                            have c41b0 : decide (ji26 < x13_3) = false := decide_eq_false c41
                            clear c41
                            by_cases c44 : 0 ≤ x14_3
                            · rw [if_pos c44] at H
                              have c44b0 : decide (0 ≤ x14_3) = true := decide_eq_true c44
                              clear c44
                              by_cases c45 : x14_3 < (t217.length : Int)
                              · rw [if_pos c45] at H
                                have c45b0 : decide (x14_3 < (t217.length : Int)) = true := decide_eq_true c45
                                clear c45
                                have H' := Aside0.mk H
                                clear H
                                have p239 : 0 ≤ (x14_3 : Int) := of_decide_eq_true (by first | (with_reducible assumption) | assumption)
                                have q239 : x14_3 < (t217.length : Int) := of_decide_eq_true (by first | (with_reducible assumption) | assumption)
                                obtain ⟨ad239, e239, hx239_0⟩ := Kd.at_string (Kd.R_reads' HO_0.out).2.2 x14_3 p239 q239
                                cases e239
                                replace p239 := eq_true p239
                                replace q239 := eq_true q239
                                go_wp2
                                go_roundg k3
                                case measure => have := HJ7.out; have := HJ18.out; have := HK3.out; omega
                                case rel => exact ⟨(wrap64 (x13_3 + (wrap64 (4 + ((rdOf ByteArray.empty t217 x14_3).size : Int))))), (wrap64 (x14_3 + 1)), (by first | rfl | (simp; done) | (simp [*]; done)), (by first | rfl | (simp; done) | (simp [*]; done)), H', ⟨by have := HJ7.out; have := HJ18.out; have := HK3.out; omega⟩, ⟨by (with_reducible repeat (first | apply Kd.R_alloc | apply Kd.R_drewN | apply Kd.R_drew)); exact HO_0.out⟩, ⟨by (with_reducible repeat (first | apply Kd.R_alloc | apply Kd.R_drewN | apply Kd.R_drew)); exact HO_11.out⟩, ⟨by repeat (first | (with_reducible first | exact HB.out | apply below_alloc | apply pw_below_drewN | apply below_drew1) | exact HB.out)⟩⟩
                              · rw [if_neg c45] at H
                                exact absurd H (by simp)
                            · rw [if_neg c44] at H
                              exact absurd H (by simp)
                · rw [if_neg c28] at H
                  exact absurd H (by simp)
              · rw [if_neg c27] at H
                exact absurd H (by simp)

end Go.Proofs.Ytcofnmeocpedoaa.X
