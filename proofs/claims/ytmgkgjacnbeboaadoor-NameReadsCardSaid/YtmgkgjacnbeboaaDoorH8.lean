/- name.Parse of a text whose first part is "log". -/
import Derived.Test.YtmgkgjacnbeboaaDoorH7
set_option linter.unusedVariables false
set_option linter.unusedSimpArgs false
namespace Go.Proofs.YtmgkgjacnbeboaaDoor.E
open Go.RowKit Go.Lib Go.Shelf Go.Proofs.YtmgkgjacnbeboaaDoorW.PrintWords Go.Proofs.YtmgkgjacnbeboaaDoorW.PrintLast Go.Proofs.YtmgkgjacnbeboaaDoorW.PrintMore
open S (mkB)
attribute [local irreducible] Nm.nameOk Nm.within Lib.itoa Lib.mapD Lib.join S.hexs Nm.kd KD Nm.metaN Nm.dataN Nm.logN Nm.nmS G.split Nm.atoiV S.unhex
theorem wpOp_of {P : Program} {ops : Array Oper} {Q : Exit → Act → World → Prop} {i : Nat} {o : Oper} {a : Act} {w : World} {K : Act → World → Prop} (hi : ops[i]? = some o) (hg : o.guard = none) (h : o.wp P a w K Q) : wpOp P ops Q i K a w := by
  unfold wpOp
  rw [hi]
  show (if Region.wanted o (yielded ops a.tmps) = true then _ else _)
  rw [if_pos (by simp [Region.wanted, hg])]
  exact .inl h
theorem step_value {P : Program} {o : Oper} {a : Act} {w : World} {K : Act → World → Prop} {Q : Exit → Act → World → Prop} (v : Value) (hrun : (execOp a.eval o).run P w = .ok (.value v) w) (h : K (a.put o.dst v) w) : o.wp P a w K Q := by
  unfold Oper.wp; rw [hrun]; exact h
theorem step_call {P : Program} {o : Oper} {a : Act} {w : World} {K : Act → World → Prop} {Q : Exit → Act → World → Prop} (f : FuncId) (args : Array Value) (hrun : (execOp a.eval o).run P w = .ok (.enter f args) w) {R : Ending → World → Prop} (hc : Calls P f args w R) (h : ∀ e w', R e w' → ∃ v, e = .returned v ∧ K (a.put o.dst v) w') : o.wp P a w K Q := by
  unfold Oper.wp; rw [hrun]
  exact hc.mono fun e w' hr => by
    obtain ⟨v, rfl, hk⟩ := h e w' hr
    exact hk
theorem law14 {P : Program} {ops : Array Oper} {Q : Exit → Act → World → Prop} {id : Nat} {w : World} {t0 t1 t2 t3 t4 t5 t6 t7 t8 t9 t10 t11 t12 t13 t14 t15 t16 t17 t18 t19 t20 t21 t22 t23 t24 t25 t26 t27 t28 t29 t30 t31 t32 t33 t34 t35 t36 t37 t38 t39 t40 t41 t42 t43 t44 t45 t46 t47 t48 t49 t50 t51 t52 t53 t54 t55 t56 t57 t58 t59 t60 t61 t62 t63 t64 t65 t66 t67 t68 t69 t70 t71 t72 t73 t74 t75 t76 t77 t78 : Value} (hm : P.follows .mixedOrders = true) (J : Array Bool → (Nat → Value) → World → Prop)
    (hsz : ops.size = 13) (hac : ∀ (i : Nat) (o : Oper), ops[i]? = some o → ∀ e ∈ o.after, e.on < i)
    (hJ : ∀ listed x w, J listed x w → listed.size = 13)
    (hstep : ∀ listed (x : Nat → Value) w i o, J listed x w → ops[i]? = some o → (∀ e ∈ o.after, Region.binds .any e = true → listed.getD e.on false = true) →
      wpOp P ops Q i (fun a' w' => ∃ y : Nat → Value, a' = ⟨#[t0, t1, t2, t3, t4, t5, t6, t7, t8, t9, t10, t11, t12, t13, t14, t15, t16, t17, t18, t19, t20, t21, t22, t23, t24, t25, t26, t27, t28, t29, t30, t31, t32, t33, t34, t35, t36, t37, t38, t39, t40, t41, t42, t43, t44, t45, t46, t47, y 48, y 49, y 50, y 51, y 52, y 53, y 54, y 55, y 56, y 57, y 58, y 59, t60, t61, t62, t63, t64, t65, t66, t67, t68, t69, t70, t71, t72, t73, t74, t75, t76, t77, t78], []⟩ ∧ J (listed.setIfInBounds i true) y w') ⟨#[t0, t1, t2, t3, t4, t5, t6, t7, t8, t9, t10, t11, t12, t13, t14, t15, t16, t17, t18, t19, t20, t21, t22, t23, t24, t25, t26, t27, t28, t29, t30, t31, t32, t33, t34, t35, t36, t37, t38, t39, t40, t41, t42, t43, t44, t45, t46, t47, x 48, x 49, x 50, x 51, x 52, x 53, x 54, x 55, x 56, x 57, x 58, x 59, t60, t61, t62, t63, t64, t65, t66, t67, t68, t69, t70, t71, t72, t73, t74, t75, t76, t77, t78], []⟩ w)
    (hdone : ∀ listed (x : Nat → Value) w, J listed x w → (∀ i, i < 13 → listed.getD i true = true) → Q .normal ⟨#[t0, t1, t2, t3, t4, t5, t6, t7, t8, t9, t10, t11, t12, t13, t14, t15, t16, t17, t18, t19, t20, t21, t22, t23, t24, t25, t26, t27, t28, t29, t30, t31, t32, t33, t34, t35, t36, t37, t38, t39, t40, t41, t42, t43, t44, t45, t46, t47, x 48, x 49, x 50, x 51, x 52, x 53, x 54, x 55, x 56, x 57, x 58, x 59, t60, t61, t62, t63, t64, t65, t66, t67, t68, t69, t70, t71, t72, t73, t74, t75, t76, t77, t78], []⟩ w)
    (h0 : ∀ x : Nat → Value, J (Array.replicate 13 false) x { w with drawn := w.drawn + 1 }) :
    (Code.region id ops true).wp P Q ⟨#[t0, t1, t2, t3, t4, t5, t6, t7, t8, t9, t10, t11, t12, t13, t14, t15, t16, t17, t18, t19, t20, t21, t22, t23, t24, t25, t26, t27, t28, t29, t30, t31, t32, t33, t34, t35, t36, t37, t38, t39, t40, t41, t42, t43, t44, t45, t46, t47, t48, t49, t50, t51, t52, t53, t54, t55, t56, t57, t58, t59, t60, t61, t62, t63, t64, t65, t66, t67, t68, t69, t70, t71, t72, t73, t74, t75, t76, t77, t78], []⟩ w := by
  refine wp_region_any hm ?_
  refine wpAny_inv (fun listed a w => ∃ x : Nat → Value, a = ⟨#[t0, t1, t2, t3, t4, t5, t6, t7, t8, t9, t10, t11, t12, t13, t14, t15, t16, t17, t18, t19, t20, t21, t22, t23, t24, t25, t26, t27, t28, t29, t30, t31, t32, t33, t34, t35, t36, t37, t38, t39, t40, t41, t42, t43, t44, t45, t46, t47, x 48, x 49, x 50, x 51, x 52, x 53, x 54, x 55, x 56, x 57, x 58, x 59, t60, t61, t62, t63, t64, t65, t66, t67, t68, t69, t70, t71, t72, t73, t74, t75, t76, t77, t78], []⟩ ∧ J listed x w) ?_ ?_ _ _ _ _ ?_ ?_
  · rintro listed a w i o ⟨x, rfl, hj⟩ ho hn hd
    exact hstep listed x w i o hj ho hd
  · rintro listed a w ⟨x, rfl, hj⟩ hr
    exact hdone listed x w hj (fun i hi => all_listed ((hJ _ _ _ hj).trans hsz.symm) hac hr i (hsz ▸ hi))
  · rw [hsz]
    exact ⟨fun k => match k with | 48 => t48 | 49 => t49 | 50 => t50 | 51 => t51 | 52 => t52 | 53 => t53 | 54 => t54 | 55 => t55 | 56 => t56 | 57 => t57 | 58 => t58 | 59 => t59 | _ => undef, rfl, h0 _⟩
  · rw [hsz]; decide
theorem owns_below {W W' : World} {D n : Nat} {d : DataW Unit} (h : W.ownsMap Tryd.prog 9 pairR D n d) (hb : Below W.heap.size W W') : W'.ownsMap Tryd.prog 9 pairR D n d := by
  obtain ⟨es, clock, h1, h2⟩ := h
  exact ⟨es, clock, (hb.block D (lt_of_at h1)).trans h1, h2⟩
theorem owns_set {W : World} {D n g : Nat} {d : DataW Unit} {cs old : Array Value} {t : TypeId} (h : W.ownsMap Tryd.prog 9 pairR D n d) (hg : W.heap[g]? = some (.cells old t (0, 0))) : (W.setRow g cs).ownsMap Tryd.prog 9 pairR D n d := by
  obtain ⟨es, clock, h1, h2⟩ := h
  refine ⟨es, clock, (setRow_other W g D cs ?_).trans h1, h2⟩
  rintro rfl
  rw [hg] at h1; cases h1
theorem Pst.drew {w : World} {g2 g5 B : Nat} {xs : List ByteArray} {c2 c5 : Array Value} {W : World} (h : Pst w g2 g5 B xs c2 c5 W) : Pst w g2 g5 B xs c2 c5 { W with drawn := W.drawn + 1 } :=
  ⟨h.hb.drew, h.h2, h.h5, ⟨h.hr.at_, h.hr.lt⟩, h.l2, h.l5, h.n25, h.n2B, h.n5B⟩
/-- What lies in the slots of the region that asks for a log's thing. -/
def F14 (sl : Value) (r1 r2 r3 : ByteArray) (kv nv v2 v3 : Int) : Nat → Value → World → Prop
  | 48, v, W => ∃ D, v = .map (some D) ∧ W.ownsMap Tryd.prog 9 pairR D 4 KD
  | 49, v, _ => v = sl
  | 50, v, _ => v = .string r1
  | 51, v, _ => v = .agg #[.int .i64 kv, .int .i64 nv]
  | 52, v, _ => v = .int .i64 kv
  | 53, v, _ => v = sl
  | 54, v, _ => v = .string r2
  | 55, v, _ => v = .int .i64 v2
  | 56, v, _ => v = sl
  | 57, v, _ => v = .string r3
  | 58, v, _ => v = .int .i64 v3
  | 59, v, _ => v = .agg #[.int .i64 kv, .string ⟨#[]⟩, .string ⟨#[]⟩, .int .i64 v2, .int .i64 v3]
  | _, _, _ => True
def zs0 : Array Value := #[.int .i64 0, .string ⟨#[]⟩, .string ⟨#[]⟩, .int .i64 0, .int .i64 0]
structure J14 (w : World) (g2 g5 B : Nat) (xs : List ByteArray) (sl : Value) (r1 r2 r3 : ByteArray) (kv nv v2 v3 : Int) (listed : Array Bool) (x : Nat → Value) (W : World) : Prop where
  sz : listed.size = 13
  z : listed.getD 12 false = false → Pst w g2 g5 B xs zs0 zs0 W
  c : listed.getD 12 false = true → Pst w g2 g5 B xs zs0 #[.int .i64 kv, .string ⟨#[]⟩, .string ⟨#[]⟩, .int .i64 v2, .int .i64 v3] W
  f : ∀ j, j < 12 → listed.getD j false = true → F14 sl r1 r2 r3 kv nv v2 v3 (48 + j) (x (48 + j)) W
variable {w : World} {g2 g5 B : Nat} {xs : List ByteArray} {sl : Value} {r1 r2 r3 : ByteArray} {kv nv v2 v3 : Int} {listed : Array Bool} {x : Nat → Value} {W W' : World}
theorem J14.row (h : J14 w g2 g5 B xs sl r1 r2 r3 kv nv v2 v3 listed x W) : Row B xs W ∧ Below w.heap.size w W := by
  cases e : listed.getD 12 false with
  | false => exact ⟨(h.z e).hr, (h.z e).hb⟩
  | true => exact ⟨(h.c e).hr, (h.c e).hb⟩
theorem F14.below {k : Nat} {v : Value} (h : F14 sl r1 r2 r3 kv nv v2 v3 k v W) (hb : Below W.heap.size W W') : F14 sl r1 r2 r3 kv nv v2 v3 k v W' := by
  by_cases e : k = 48
  · subst e
    obtain ⟨D, h1, h2⟩ := h
    exact ⟨D, h1, owns_below h2 hb⟩
  · unfold F14 at h ⊢
    split at h <;> first | exact absurd rfl e | exact h
theorem J14.next (i : Nat) (hi : i < 12) (h : J14 w g2 g5 B xs sl r1 r2 r3 kv nv v2 v3 listed x W) (hb : Below W.heap.size W W') (v : Value) (hv : F14 sl r1 r2 r3 kv nv v2 v3 (48 + i) v W') :
    J14 w g2 g5 B xs sl r1 r2 r3 kv nv v2 v3 (listed.setIfInBounds i true) (fun k => if k = 48 + i then v else x k) W' := by
  have e12 : (listed.setIfInBounds i true).getD 12 false = listed.getD 12 false := getD_set_ne false (by omega)
  refine ⟨by rw [Array.size_setIfInBounds]; exact h.sz, fun e => (h.z (e12.symm.trans e)).step hb, fun e => (h.c (e12.symm.trans e)).step hb, fun j hj e => ?_⟩
  by_cases hij : j = i
  · subst hij
    simp only [if_pos]
    exact hv
  · have ej : (listed.setIfInBounds i true).getD j false = listed.getD j false := getD_set_ne false (fun h => hij h.symm)
    simp only [show ¬ (48 + j = 48 + i) by omega, if_false]
    exact (h.f j hj (ej.symm.trans e)).below hb
theorem index43 (kv nv : Int) (W : World) : (Instr.index 43 (.agg #[.int .i64 kv, .int .i64 nv]) (.int .i64 0)).run Tryd.prog W = .ok (.int .i64 kv) W := by kernel_rfl
theorem look_f (W : World) (B : Nat) (s : ByteArray) (hs : s.size ≤ 9223372036854775807) (h : W.ownsMap Tryd.prog 9 pairR B 4 KD) :
    (Instr.lookup 45 (.map (some B)) (.string s) false).run Tryd.prog W = .ok (.agg #[.int .i64 (((Nm.kd s.data.toList).map (·.1)).getD 0), .int .i64 (((Nm.kd s.data.toList).map (·.2)).getD 0)]) W := by
  have hl := look_any W B s hs h
  cases hk : Nm.kd s.data.toList with
  | none => exact (hl.2 hk).2
  | some p => obtain ⟨k, n⟩ := p; exact (hl.1 k n hk).2
theorem getD_any {a : Array Bool} {i : Nat} (h : i < a.size) : a.getD i true = a.getD i false := by simp [h]
theorem J14.all5 (h : J14 w g2 g5 B xs sl r1 r2 r3 kv nv v2 v3 listed x W) : ∃ u0 u1 u2 u3 u4, W.heap[g5]? = some (.cells #[u0, u1, u2, u3, u4] 30 (0, 0)) := by
  cases e : listed.getD 12 false with
  | false => exact ⟨_, _, _, _, _, (h.z e).h5⟩
  | true => exact ⟨_, _, _, _, _, (h.c e).h5⟩
theorem F14.set {k : Nat} {v : Value} {cs old : Array Value} {t : TypeId} {g : Nat} (h : F14 sl r1 r2 r3 kv nv v2 v3 k v W) (hg : W.heap[g]? = some (.cells old t (0, 0))) : F14 sl r1 r2 r3 kv nv v2 v3 k v (W.setRow g cs) := by
  by_cases e : k = 48
  · subst e
    obtain ⟨D, h1, h2⟩ := h
    exact ⟨D, h1, owns_set h2 hg⟩
  · unfold F14 at h ⊢
    split at h <;> first | exact absurd rfl e | exact h
theorem J14.done (h : J14 w g2 g5 B xs sl r1 r2 r3 kv nv v2 v3 listed x W) : J14 w g2 g5 B xs sl r1 r2 r3 kv nv v2 v3 (listed.setIfInBounds 12 true) x (W.setRow g5 #[.int .i64 kv, .string ⟨#[]⟩, .string ⟨#[]⟩, .int .i64 v2, .int .i64 v3]) := by
  have e12 : (listed.setIfInBounds 12 true).getD 12 false = true := by have := h.sz; simp [this]
  have hP : ∃ c5, Pst w g2 g5 B xs zs0 c5 W := by
    cases e : listed.getD 12 false with
    | false => exact ⟨_, h.z e⟩
    | true => exact ⟨_, h.c e⟩
  obtain ⟨c5, hP⟩ := hP
  refine ⟨by rw [Array.size_setIfInBounds]; exact h.sz, fun e => absurd (e12.symm.trans e) (by decide), fun e => hP.set5 _, fun j hj e => ?_⟩
  have ej : (listed.setIfInBounds 12 true).getD j false = listed.getD j false := getD_set_ne false (by omega)
  exact (h.f j hj (ej.symm.trans e)).set hP.h5
theorem s15 {Wx : World} (h : Pst w g2 g5 B xs zs0 #[.int .i64 kv, .string ⟨#[]⟩, .string ⟨#[]⟩, .int .i64 v2, .int .i64 v3] Wx) : Wx.cell? ⟨g5, 3, none⟩ = some (.int .i64 v2) ∧ Wx.cell? ⟨g5, 4, none⟩ = some (.int .i64 v3) ∧ Pst w g2 g5 B xs zs0 #[.int .i64 kv, .string ⟨#[]⟩, .string ⟨#[]⟩, .int .i64 v2, .int .i64 v3] Wx := ⟨h.cell5 3 _ rfl, h.cell5 4 _ rfl, h⟩
theorem rep13 (j : Nat) : (Array.replicate 13 false).getD j false = false := by
  by_cases h : j < 13
  · simp [h]
  · simp [Array.getElem?_eq_none (show (Array.replicate 13 false).size ≤ j by simp; omega)]
theorem J14.start (h : Pst w g2 g5 B xs zs0 zs0 W) : J14 w g2 g5 B xs sl r1 r2 r3 kv nv v2 v3 (Array.replicate 13 false) x W :=
  ⟨by simp, fun _ => h, fun e => absurd ((rep13 12).symm.trans e) (by decide), fun j _ e => absurd ((rep13 j).symm.trans e) (by decide)⟩
theorem of_range {ops : Array Oper} (h : ((List.range ops.size).all fun i => ((ops[i]?).map fun o => o.after.all fun e => decide (e.on < i)).getD true) = true) : ∀ (i : Nat) (o : Oper), ops[i]? = some o → ∀ e ∈ o.after, e.on < i := by
  intro i o ho e he
  have hi := (Array.getElem?_eq_some_iff.1 ho).1
  have := List.all_eq_true.1 h i (List.mem_range.2 hi)
  rw [ho] at this
  simp only [Option.map_some, Option.getD_some, Array.all_eq_true_iff_forall_mem] at this
  exact of_decide_eq_true (this e he)
set_option maxHeartbeats 4000000 in
set_option maxRecDepth 100000 in
theorem Parse_log (s : ByteArray) (w : World) (hs : s.size ≤ 1000) (ht : Tabs5 w) (h0 : ((parts s).getD 0 ⟨#[]⟩).data.toList = Nm.LOG) :
    Calls Tryd.prog 13 #[.string s] w (Parsed w s) := by
  have hSp := fun W => split_c s W hs
  have hpl := parts_len s
  have e : Nm.parseN s.data.toList = if (Nm.logN ((parts s).getD 1 ⟨#[]⟩).data.toList (Nm.atoiV ((parts s).getD 2 ⟨#[]⟩).data.toList) (Nm.atoiV ((parts s).getD 3 ⟨#[]⟩).data.toList)).2 = 0 ∧ (Nm.logN ((parts s).getD 1 ⟨#[]⟩).data.toList (Nm.atoiV ((parts s).getD 2 ⟨#[]⟩).data.toList) (Nm.atoiV ((parts s).getD 3 ⟨#[]⟩).data.toList)).1 = s.data.toList then ((((Nm.kd ((parts s).getD 1 ⟨#[]⟩).data.toList).map (·.1)).getD 0, [], [], Nm.atoiV ((parts s).getD 2 ⟨#[]⟩).data.toList, Nm.atoiV ((parts s).getD 3 ⟨#[]⟩).data.toList), 0) else (Nm.nil, 36) := by
    unfold Nm.parseN Nm.asked
    rw [part_at, part_at, part_at, part_at, h0, if_neg Nm.lm, if_neg Nm.ld, if_pos rfl]
  have hz1 := part_size s 1 hs
  have hz2 := part_size s 2 hs
  have hz3 := part_size s 3 hs
  have hx0 : (parts s)[0]? = some (⟨#[108, 111, 103]⟩ : ByteArray) := by
    have e0 : (parts s).getD 0 ⟨#[]⟩ = (⟨#[108, 111, 103]⟩ : ByteArray) := by
      rw [← S.mkB_data ((parts s).getD 0 ⟨#[]⟩), h0]; rfl
    rw [← e0]; simp [hpl.1]
  have hz : asksV Nm.nil = .agg #[.int .i64 0, .string ⟨#[]⟩, .string ⟨#[]⟩, .int .i64 0, .int .i64 0] := rfl
  have hK := fun W => kinds_any W
  have hLk := fun W D (h : W.ownsMap Tryd.prog 9 pairR D 4 KD) => look_f W D ((parts s).getD 1 ⟨#[]⟩) (by omega) h
  have hM := fun W hw => Log_any ((parts s).getD 1 ⟨#[]⟩) (Nm.atoiV ((parts s).getD 2 ⟨#[]⟩).data.toList) (Nm.atoiV ((parts s).getD 3 ⟨#[]⟩).data.toList) W (by omega) hw
  have hN := fun W hw => number_any ((parts s).getD 2 ⟨#[]⟩) W (by omega) hw
  have hN3 := fun W hw => number_any ((parts s).getD 3 ⟨#[]⟩) W (by omega) hw
  have hP1 : ∀ B W, Row B (parts s) W → Calls Tryd.prog 23 #[.slice (some ⟨B, 0, none⟩) (parts s).length (parts s).length, .int .i64 1] W fun e w' => e = .returned (.string ((parts s).getD 1 ⟨#[]⟩)) ∧ W = w' := fun B W hr => part_any B (parts s) 1 W hr (by omega) (by omega)
  have hP2 : ∀ B W, Row B (parts s) W → Calls Tryd.prog 23 #[.slice (some ⟨B, 0, none⟩) (parts s).length (parts s).length, .int .i64 2] W fun e w' => e = .returned (.string ((parts s).getD 2 ⟨#[]⟩)) ∧ W = w' := fun B W hr => part_any B (parts s) 2 W hr (by omega) (by omega)
  have hP3 : ∀ B W, Row B (parts s) W → Calls Tryd.prog 23 #[.slice (some ⟨B, 0, none⟩) (parts s).length (parts s).length, .int .i64 3] W fun e w' => e = .returned (.string ((parts s).getD 3 ⟨#[]⟩)) ∧ W = w' := fun B W hr => part_any B (parts s) 3 W hr (by omega) (by omega)
  unfold Parsed
  rw [e]
  clear e h0 hz1 hz2 hz3
  generalize (parts s).getD 1 ⟨#[]⟩ = r1 at *
  generalize (parts s).getD 2 ⟨#[]⟩ = r2 at *
  generalize (parts s).getD 3 ⟨#[]⟩ = r3 at *
  generalize Nm.atoiV r2.data.toList = v2 at *
  generalize Nm.atoiV r3.data.toList = v3 at *
  generalize Nm.logN r1.data.toList v2 v3 = nm at *
  obtain ⟨nb, ne⟩ := nm
  have hM : _ := hM
  unfold Named at hM
  have hK : _ := hK
  unfold Kinds at hK
  generalize ((Nm.kd r1.data.toList).map (·.1)).getD 0 = kv at *
  generalize ((Nm.kd r1.data.toList).map (·.2)).getD 0 = nv at *
  have hn0 : (0 : Int) < ((parts s).length : Int) := by omega
  generalize parts s = xs at *
  have HT := Aside0.mk ht
  have HS1_ := Aside0.mk hP1
  have HS2_ := Aside0.mk hP2
  have HS3_ := Aside0.mk hP3
  have HM_ := Aside0.mk hM
  have HN2_ := Aside0.mk hN
  have HN3_ := Aside0.mk hN3
  have HK_ := Aside0.mk hK
  have HL_ := Aside0.mk hLk
  generalize hnn : xs.length = n at hSp hn0 hpl HS1_ HS2_ HS3_
  clear ht hP1 hP2 hP3 hM hN hN3 hK hLk hs hnn
  by_cases hne : ne = 0
  · have f1 : (ne != 0) = false := bne_eq_false_iff_eq.mpr hne
    by_cases hbk : nb = s.data.toList
    · rw [if_pos ⟨hne, hbk⟩]
      have f2 : ((mkB nb).toList == s.toList) = true := beq_iff_eq.mpr (by rw [S.toList_list, S.toList_list, S.mkB_list]; exact hbk)
      have ea : asksV ((kv, [], [], v2, v3) : Nm.Ask) = .agg #[.int .i64 kv, .string ⟨#[]⟩, .string ⟨#[]⟩, .int .i64 v2, .int .i64 v3] := rfl
      rw [ea]
      generalize mkB nb = bk at *
      clear hbk hne ea
      go_enter Tryd.func13, Tryd.ntmps13
      go_upto_region 14 with (first
        | ((with_reducible refine gate_dst (N := 2) rfl ?_); refine box_event ?hg (N := 2) ?hd (cs := #[.int .i64 0, .string ⟨#[]⟩, .string ⟨#[]⟩, .int .i64 0, .int .i64 0]) (t := 30) ?hr ?_; (case hd => rfl); (case hg => rfl); (case hr => first | (go_simp; done) | (go_simp; rfl)); intro g2 eg2 Wg2 hxg2 hbg2; have b2 := Aside0.mk (show St2 w g2 _ Wg2 from ⟨hbg2, hxg2, by omega⟩); clear hbg2 hxg2 eg2)
        | (go_at_call 22; (with_reducible refine (hSp _).mono ?_); clear hSp; rintro e w1 ⟨B, hB, rfl, hrow, hb_⟩; have b3 := Aside0.mk (b2.out.row hB hrow hb_); clear b2 hB hrow hb_)
        | ((with_reducible refine gate_dst (N := 5) rfl ?_); refine box_event ?hg (N := 5) ?hd (cs := #[.int .i64 0, .string ⟨#[]⟩, .string ⟨#[]⟩, .int .i64 0, .int .i64 0]) (t := 30) ?hr ?_; (case hd => rfl); (case hg => rfl); (case hr => first | (go_simp; done) | (go_simp; rfl)); intro g5 eg5 Wg5 hxg5 hbg5; have HP := Aside0.mk (b3.out.box hxg5 hbg5 eg5); clear b3 hxg5 hbg5 eg5; have hc0 := HP.out.hr.at_ 0 _ hx0))
      refine law14 (by kernel_rfl) (J14 w g2 g5 B xs (.slice (some ⟨B, 0, none⟩) n n) r1 r2 r3 kv nv v2 v3) rfl (of_range (by kernel_rfl)) (fun _ _ _ h => h.sz) ?_ ?_ ?_
      · intro listed x W i o hj ho hd
        have hi : i < 13 := (Array.getElem?_eq_some_iff.1 ho).1
        obtain rfl | rfl | rfl | rfl | rfl | rfl | rfl | rfl | rfl | rfl | rfl | rfl | rfl : i = 0 ∨ i = 1 ∨ i = 2 ∨ i = 3 ∨ i = 4 ∨ i = 5 ∨ i = 6 ∨ i = 7 ∨ i = 8 ∨ i = 9 ∨ i = 10 ∨ i = 11 ∨ i = 12 := by omega
        · obtain rfl := Option.some.inj ho
          refine wpOp_of rfl rfl ?_
          refine step_call 20 #[] (by go_simp) (HK_.out _) ?_
          rintro e w' ⟨rfl, hb, ho'⟩
          exact ⟨_, rfl, fun k => if k = 48 then _ else x k, rfl, hj.next 0 (by omega) hb _ ⟨_, rfl, ho'⟩⟩
        · obtain rfl := Option.some.inj ho
          refine wpOp_of rfl rfl ?_
          refine step_value ((.slice (some ⟨B, 0, none⟩) n n)) (by go_simp) ?_
          exact ⟨fun k => if k = 49 then (.slice (some ⟨B, 0, none⟩) n n) else x k, rfl, hj.next 1 (by omega) (Below.refl _ _) _ rfl⟩
        · obtain rfl := Option.some.inj ho
          have d1 := hj.f 1 (by omega) (hd { on := 1, ground := .data } (by simp) rfl)
          refine wpOp_of rfl rfl ?_
          have d1 : x 49 = (.slice (some ⟨B, 0, none⟩) n n) := d1
          refine step_call 23 #[(.slice (some ⟨B, 0, none⟩) n n), .int .i64 1] (by rw [d1]; go_simp) (HS1_.out _ _ hj.row.1) ?_
          rintro e w' ⟨rfl, rfl⟩
          exact ⟨_, rfl, fun k => if k = 50 then _ else x k, rfl, hj.next 2 (by omega) (Below.refl _ _) _ rfl⟩
        · obtain rfl := Option.some.inj ho
          have d0 := hj.f 0 (by omega) (hd { on := 0, ground := .data } (by simp) rfl)
          have d2 := hj.f 2 (by omega) (hd { on := 2, ground := .data } (by simp) rfl)
          refine wpOp_of rfl rfl ?_
          obtain ⟨D, d0, hD⟩ := d0
          have d0 : x 48 = .map (some D) := d0
          have d2 : x 50 = .string r1 := d2
          have hl := HL_.out _ _ hD
          refine step_value (.agg #[.int .i64 kv, .int .i64 nv]) (by rw [d0, d2]; go_simp) ?_
          exact ⟨fun k => if k = 51 then .agg #[.int .i64 kv, .int .i64 nv] else x k, rfl, hj.next 3 (by omega) (Below.refl _ _) _ rfl⟩
        · obtain rfl := Option.some.inj ho
          have d3 := hj.f 3 (by omega) (hd { on := 3, ground := .data } (by simp) rfl)
          refine wpOp_of rfl rfl ?_
          have d3 : x 51 = .agg #[.int .i64 kv, .int .i64 nv] := d3
          refine step_value (.int .i64 kv) (by rw [d3]; go_simp; rw [index43]; rfl) ?_
          exact ⟨fun k => if k = 52 then .int .i64 kv else x k, rfl, hj.next 4 (by omega) (Below.refl _ _) _ rfl⟩
        · obtain rfl := Option.some.inj ho
          refine wpOp_of rfl rfl ?_
          refine step_value ((.slice (some ⟨B, 0, none⟩) n n)) (by go_simp) ?_
          exact ⟨fun k => if k = 53 then (.slice (some ⟨B, 0, none⟩) n n) else x k, rfl, hj.next 5 (by omega) (Below.refl _ _) _ rfl⟩
        · obtain rfl := Option.some.inj ho
          have d5 := hj.f 5 (by omega) (hd { on := 5, ground := .data } (by simp) rfl)
          refine wpOp_of rfl rfl ?_
          have d5 : x 53 = (.slice (some ⟨B, 0, none⟩) n n) := d5
          refine step_call 23 #[(.slice (some ⟨B, 0, none⟩) n n), .int .i64 2] (by rw [d5]; go_simp) (HS2_.out _ _ hj.row.1) ?_
          rintro e w' ⟨rfl, rfl⟩
          exact ⟨_, rfl, fun k => if k = 54 then _ else x k, rfl, hj.next 6 (by omega) (Below.refl _ _) _ rfl⟩
        · obtain rfl := Option.some.inj ho
          have d6 := hj.f 6 (by omega) (hd { on := 6, ground := .data } (by simp) rfl)
          refine wpOp_of rfl rfl ?_
          have d6 : x 54 = .string r2 := d6
          refine step_call 24 #[.string r2] (by rw [d6]; go_simp) (HN2_.out _ (HT.out.below hj.row.2)) ?_
          rintro e w' ⟨rfl, hb⟩
          exact ⟨_, rfl, fun k => if k = 55 then _ else x k, rfl, hj.next 7 (by omega) hb _ rfl⟩
        · obtain rfl := Option.some.inj ho
          refine wpOp_of rfl rfl ?_
          refine step_value ((.slice (some ⟨B, 0, none⟩) n n)) (by go_simp) ?_
          exact ⟨fun k => if k = 56 then (.slice (some ⟨B, 0, none⟩) n n) else x k, rfl, hj.next 8 (by omega) (Below.refl _ _) _ rfl⟩
        · obtain rfl := Option.some.inj ho
          have d8 := hj.f 8 (by omega) (hd { on := 8, ground := .data } (by simp) rfl)
          refine wpOp_of rfl rfl ?_
          have d8 : x 56 = (.slice (some ⟨B, 0, none⟩) n n) := d8
          refine step_call 23 #[(.slice (some ⟨B, 0, none⟩) n n), .int .i64 3] (by rw [d8]; go_simp) (HS3_.out _ _ hj.row.1) ?_
          rintro e w' ⟨rfl, rfl⟩
          exact ⟨_, rfl, fun k => if k = 57 then _ else x k, rfl, hj.next 9 (by omega) (Below.refl _ _) _ rfl⟩
        · obtain rfl := Option.some.inj ho
          have d9 := hj.f 9 (by omega) (hd { on := 9, ground := .data } (by simp) rfl)
          refine wpOp_of rfl rfl ?_
          have d9 : x 57 = .string r3 := d9
          refine step_call 24 #[.string r3] (by rw [d9]; go_simp) (HN3_.out _ (HT.out.below hj.row.2)) ?_
          rintro e w' ⟨rfl, hb⟩
          exact ⟨_, rfl, fun k => if k = 58 then _ else x k, rfl, hj.next 10 (by omega) hb _ rfl⟩
        · obtain rfl := Option.some.inj ho
          have d4 := hj.f 4 (by omega) (hd { on := 4, ground := .data } (by simp) rfl)
          have d7 := hj.f 7 (by omega) (hd { on := 7, ground := .data } (by simp) rfl)
          have d10 := hj.f 10 (by omega) (hd { on := 10, ground := .data } (by simp) rfl)
          refine wpOp_of rfl rfl ?_
          have d4 : x 52 = .int .i64 kv := d4
          have d7 : x 55 = .int .i64 v2 := d7
          have d10 : x 58 = .int .i64 v3 := d10
          refine step_value (.agg #[.int .i64 kv, .string ⟨#[]⟩, .string ⟨#[]⟩, .int .i64 v2, .int .i64 v3]) (by rw [d4, d7, d10]; go_simp) ?_
          exact ⟨fun k => if k = 59 then .agg #[.int .i64 kv, .string ⟨#[]⟩, .string ⟨#[]⟩, .int .i64 v2, .int .i64 v3] else x k, rfl, hj.next 11 (by omega) (Below.refl _ _) _ rfl⟩
        · obtain rfl := Option.some.inj ho
          have d11 := hj.f 11 (by omega) (hd { on := 11, ground := .data } (by simp) rfl)
          refine wpOp_of rfl rfl ?_
          have d11 : x 59 = .agg #[.int .i64 kv, .string ⟨#[]⟩, .string ⟨#[]⟩, .int .i64 v2, .int .i64 v3] := d11
          obtain ⟨u0, u1, u2, u3, u4, hu⟩ := hj.all5
          refine wp_store_row 30 _ _ rfl g5 _ rfl d11 30 _ hu (by kernel_rfl) rfl (by simp [Value.oneCell']) ?_
          exact ⟨x, rfl, hj.done⟩
      · intro listed x W hj hall
        have hPs := hj.c ((getD_any (by rw [hj.sz]; omega)).symm.trans (hall 12 (by omega)))
        clear hj hall HP hc0
        have HP := Aside0.mk hPs
        have hS0 : (W.drew).cell? ⟨g5, 3, none⟩ = some (.int .i64 v2) ∧ (W.drew).cell? ⟨g5, 4, none⟩ = some (.int .i64 v3) ∧ Pst w g2 g5 B xs zs0 #[.int .i64 kv, .string ⟨#[]⟩, .string ⟨#[]⟩, .int .i64 v2, .int .i64 v3] W.drew := ⟨hPs.drew.cell5 3 _ rfl, hPs.drew.cell5 4 _ rfl, hPs.drew⟩
        clear hPs
        go_upto_region 15 with (fail)
        go_region_held3 (fun W_ => W_.cell? ⟨g5, 3, none⟩ = some (.int .i64 v2) ∧ W_.cell? ⟨g5, 4, none⟩ = some (.int .i64 v3) ∧ Pst w g2 g5 B xs zs0 #[.int .i64 kv, .string ⟨#[]⟩, .string ⟨#[]⟩, .int .i64 v2, .int .i64 v3] W_) (first | with_reducible assumption | (with_reducible exact s15 (by with_reducible assumption)))
          (first
            | (go_at_call 23; refine (HS1_.out _ _ (Pst.hr (by first | with_reducible assumption | exact hS0.2.2))).mono ?_; rintro e w' ⟨rfl, rfl⟩)
            | (go_at_call 9; refine (HM_.out _ (HT.out.tabs.below (Pst.hb (by first | with_reducible assumption | exact hS0.2.2)))).mono ?_; rintro e w6 ⟨rfl, hb_⟩; have hP6 := Pst.step (by first | with_reducible assumption | exact hS0.2.2) hb_))
        clear HP hS0
        have HP := Aside0.mk hP6
        clear hP6
        go_wp2_with (first
          | ((with_reducible refine gate_dst (N := 78) rfl ?_); refine load30 rfl _ rfl g5 rfl HP.out.h5 ?_)
          | ((with_reducible refine gate_store (t := 30) (p := 2) (v := .tmp 78) rfl ?_); refine store30 rfl _ _ rfl g2 _ _ _ _ _ rfl rfl HP.out.h2 ?_; intro WZ hWZ; have n0_ := Aside0.mk (hWZ ▸ HP.out.set2 #[.int .i64 kv, .string ⟨#[]⟩, .string ⟨#[]⟩, .int .i64 v2, .int .i64 v3]); clear HP hWZ; have HP := n0_; clear n0_))
        refine bodyPost_ret (ret30 rfl _ _ g2 rfl HP.out.h2) rfl ?_
        exact ⟨rfl, HP.out.hb⟩
      · intro x
        exact J14.start HP.out.drew

    · rw [if_neg (fun h => hbk h.2)]
      have f2 : ((mkB nb).toList == s.toList) = false := beq_eq_false_iff_ne.mpr (by rw [S.toList_list, S.toList_list, S.mkB_list]; exact hbk)
      rw [hz]
      generalize mkB nb = bk at *
      clear hbk hne
      go_enter Tryd.func13, Tryd.ntmps13
      go_upto_region 14 with (first
        | ((with_reducible refine gate_dst (N := 2) rfl ?_); refine box_event ?hg (N := 2) ?hd (cs := #[.int .i64 0, .string ⟨#[]⟩, .string ⟨#[]⟩, .int .i64 0, .int .i64 0]) (t := 30) ?hr ?_; (case hd => rfl); (case hg => rfl); (case hr => first | (go_simp; done) | (go_simp; rfl)); intro g2 eg2 Wg2 hxg2 hbg2; have b2 := Aside0.mk (show St2 w g2 _ Wg2 from ⟨hbg2, hxg2, by omega⟩); clear hbg2 hxg2 eg2)
        | (go_at_call 22; (with_reducible refine (hSp _).mono ?_); clear hSp; rintro e w1 ⟨B, hB, rfl, hrow, hb_⟩; have b3 := Aside0.mk (b2.out.row hB hrow hb_); clear b2 hB hrow hb_)
        | ((with_reducible refine gate_dst (N := 5) rfl ?_); refine box_event ?hg (N := 5) ?hd (cs := #[.int .i64 0, .string ⟨#[]⟩, .string ⟨#[]⟩, .int .i64 0, .int .i64 0]) (t := 30) ?hr ?_; (case hd => rfl); (case hg => rfl); (case hr => first | (go_simp; done) | (go_simp; rfl)); intro g5 eg5 Wg5 hxg5 hbg5; have HP := Aside0.mk (b3.out.box hxg5 hbg5 eg5); clear b3 hxg5 hbg5 eg5; have hc0 := HP.out.hr.at_ 0 _ hx0))
      refine law14 (by kernel_rfl) (J14 w g2 g5 B xs (.slice (some ⟨B, 0, none⟩) n n) r1 r2 r3 kv nv v2 v3) rfl (of_range (by kernel_rfl)) (fun _ _ _ h => h.sz) ?_ ?_ ?_
      · intro listed x W i o hj ho hd
        have hi : i < 13 := (Array.getElem?_eq_some_iff.1 ho).1
        obtain rfl | rfl | rfl | rfl | rfl | rfl | rfl | rfl | rfl | rfl | rfl | rfl | rfl : i = 0 ∨ i = 1 ∨ i = 2 ∨ i = 3 ∨ i = 4 ∨ i = 5 ∨ i = 6 ∨ i = 7 ∨ i = 8 ∨ i = 9 ∨ i = 10 ∨ i = 11 ∨ i = 12 := by omega
        · obtain rfl := Option.some.inj ho
          refine wpOp_of rfl rfl ?_
          refine step_call 20 #[] (by go_simp) (HK_.out _) ?_
          rintro e w' ⟨rfl, hb, ho'⟩
          exact ⟨_, rfl, fun k => if k = 48 then _ else x k, rfl, hj.next 0 (by omega) hb _ ⟨_, rfl, ho'⟩⟩
        · obtain rfl := Option.some.inj ho
          refine wpOp_of rfl rfl ?_
          refine step_value ((.slice (some ⟨B, 0, none⟩) n n)) (by go_simp) ?_
          exact ⟨fun k => if k = 49 then (.slice (some ⟨B, 0, none⟩) n n) else x k, rfl, hj.next 1 (by omega) (Below.refl _ _) _ rfl⟩
        · obtain rfl := Option.some.inj ho
          have d1 := hj.f 1 (by omega) (hd { on := 1, ground := .data } (by simp) rfl)
          refine wpOp_of rfl rfl ?_
          have d1 : x 49 = (.slice (some ⟨B, 0, none⟩) n n) := d1
          refine step_call 23 #[(.slice (some ⟨B, 0, none⟩) n n), .int .i64 1] (by rw [d1]; go_simp) (HS1_.out _ _ hj.row.1) ?_
          rintro e w' ⟨rfl, rfl⟩
          exact ⟨_, rfl, fun k => if k = 50 then _ else x k, rfl, hj.next 2 (by omega) (Below.refl _ _) _ rfl⟩
        · obtain rfl := Option.some.inj ho
          have d0 := hj.f 0 (by omega) (hd { on := 0, ground := .data } (by simp) rfl)
          have d2 := hj.f 2 (by omega) (hd { on := 2, ground := .data } (by simp) rfl)
          refine wpOp_of rfl rfl ?_
          obtain ⟨D, d0, hD⟩ := d0
          have d0 : x 48 = .map (some D) := d0
          have d2 : x 50 = .string r1 := d2
          have hl := HL_.out _ _ hD
          refine step_value (.agg #[.int .i64 kv, .int .i64 nv]) (by rw [d0, d2]; go_simp) ?_
          exact ⟨fun k => if k = 51 then .agg #[.int .i64 kv, .int .i64 nv] else x k, rfl, hj.next 3 (by omega) (Below.refl _ _) _ rfl⟩
        · obtain rfl := Option.some.inj ho
          have d3 := hj.f 3 (by omega) (hd { on := 3, ground := .data } (by simp) rfl)
          refine wpOp_of rfl rfl ?_
          have d3 : x 51 = .agg #[.int .i64 kv, .int .i64 nv] := d3
          refine step_value (.int .i64 kv) (by rw [d3]; go_simp; rw [index43]; rfl) ?_
          exact ⟨fun k => if k = 52 then .int .i64 kv else x k, rfl, hj.next 4 (by omega) (Below.refl _ _) _ rfl⟩
        · obtain rfl := Option.some.inj ho
          refine wpOp_of rfl rfl ?_
          refine step_value ((.slice (some ⟨B, 0, none⟩) n n)) (by go_simp) ?_
          exact ⟨fun k => if k = 53 then (.slice (some ⟨B, 0, none⟩) n n) else x k, rfl, hj.next 5 (by omega) (Below.refl _ _) _ rfl⟩
        · obtain rfl := Option.some.inj ho
          have d5 := hj.f 5 (by omega) (hd { on := 5, ground := .data } (by simp) rfl)
          refine wpOp_of rfl rfl ?_
          have d5 : x 53 = (.slice (some ⟨B, 0, none⟩) n n) := d5
          refine step_call 23 #[(.slice (some ⟨B, 0, none⟩) n n), .int .i64 2] (by rw [d5]; go_simp) (HS2_.out _ _ hj.row.1) ?_
          rintro e w' ⟨rfl, rfl⟩
          exact ⟨_, rfl, fun k => if k = 54 then _ else x k, rfl, hj.next 6 (by omega) (Below.refl _ _) _ rfl⟩
        · obtain rfl := Option.some.inj ho
          have d6 := hj.f 6 (by omega) (hd { on := 6, ground := .data } (by simp) rfl)
          refine wpOp_of rfl rfl ?_
          have d6 : x 54 = .string r2 := d6
          refine step_call 24 #[.string r2] (by rw [d6]; go_simp) (HN2_.out _ (HT.out.below hj.row.2)) ?_
          rintro e w' ⟨rfl, hb⟩
          exact ⟨_, rfl, fun k => if k = 55 then _ else x k, rfl, hj.next 7 (by omega) hb _ rfl⟩
        · obtain rfl := Option.some.inj ho
          refine wpOp_of rfl rfl ?_
          refine step_value ((.slice (some ⟨B, 0, none⟩) n n)) (by go_simp) ?_
          exact ⟨fun k => if k = 56 then (.slice (some ⟨B, 0, none⟩) n n) else x k, rfl, hj.next 8 (by omega) (Below.refl _ _) _ rfl⟩
        · obtain rfl := Option.some.inj ho
          have d8 := hj.f 8 (by omega) (hd { on := 8, ground := .data } (by simp) rfl)
          refine wpOp_of rfl rfl ?_
          have d8 : x 56 = (.slice (some ⟨B, 0, none⟩) n n) := d8
          refine step_call 23 #[(.slice (some ⟨B, 0, none⟩) n n), .int .i64 3] (by rw [d8]; go_simp) (HS3_.out _ _ hj.row.1) ?_
          rintro e w' ⟨rfl, rfl⟩
          exact ⟨_, rfl, fun k => if k = 57 then _ else x k, rfl, hj.next 9 (by omega) (Below.refl _ _) _ rfl⟩
        · obtain rfl := Option.some.inj ho
          have d9 := hj.f 9 (by omega) (hd { on := 9, ground := .data } (by simp) rfl)
          refine wpOp_of rfl rfl ?_
          have d9 : x 57 = .string r3 := d9
          refine step_call 24 #[.string r3] (by rw [d9]; go_simp) (HN3_.out _ (HT.out.below hj.row.2)) ?_
          rintro e w' ⟨rfl, hb⟩
          exact ⟨_, rfl, fun k => if k = 58 then _ else x k, rfl, hj.next 10 (by omega) hb _ rfl⟩
        · obtain rfl := Option.some.inj ho
          have d4 := hj.f 4 (by omega) (hd { on := 4, ground := .data } (by simp) rfl)
          have d7 := hj.f 7 (by omega) (hd { on := 7, ground := .data } (by simp) rfl)
          have d10 := hj.f 10 (by omega) (hd { on := 10, ground := .data } (by simp) rfl)
          refine wpOp_of rfl rfl ?_
          have d4 : x 52 = .int .i64 kv := d4
          have d7 : x 55 = .int .i64 v2 := d7
          have d10 : x 58 = .int .i64 v3 := d10
          refine step_value (.agg #[.int .i64 kv, .string ⟨#[]⟩, .string ⟨#[]⟩, .int .i64 v2, .int .i64 v3]) (by rw [d4, d7, d10]; go_simp) ?_
          exact ⟨fun k => if k = 59 then .agg #[.int .i64 kv, .string ⟨#[]⟩, .string ⟨#[]⟩, .int .i64 v2, .int .i64 v3] else x k, rfl, hj.next 11 (by omega) (Below.refl _ _) _ rfl⟩
        · obtain rfl := Option.some.inj ho
          have d11 := hj.f 11 (by omega) (hd { on := 11, ground := .data } (by simp) rfl)
          refine wpOp_of rfl rfl ?_
          have d11 : x 59 = .agg #[.int .i64 kv, .string ⟨#[]⟩, .string ⟨#[]⟩, .int .i64 v2, .int .i64 v3] := d11
          obtain ⟨u0, u1, u2, u3, u4, hu⟩ := hj.all5
          refine wp_store_row 30 _ _ rfl g5 _ rfl d11 30 _ hu (by kernel_rfl) rfl (by simp [Value.oneCell']) ?_
          exact ⟨x, rfl, hj.done⟩
      · intro listed x W hj hall
        have hPs := hj.c ((getD_any (by rw [hj.sz]; omega)).symm.trans (hall 12 (by omega)))
        clear hj hall HP hc0
        have HP := Aside0.mk hPs
        have hS0 : (W.drew).cell? ⟨g5, 3, none⟩ = some (.int .i64 v2) ∧ (W.drew).cell? ⟨g5, 4, none⟩ = some (.int .i64 v3) ∧ Pst w g2 g5 B xs zs0 #[.int .i64 kv, .string ⟨#[]⟩, .string ⟨#[]⟩, .int .i64 v2, .int .i64 v3] W.drew := ⟨hPs.drew.cell5 3 _ rfl, hPs.drew.cell5 4 _ rfl, hPs.drew⟩
        clear hPs
        go_upto_region 15 with (fail)
        go_region_held3 (fun W_ => W_.cell? ⟨g5, 3, none⟩ = some (.int .i64 v2) ∧ W_.cell? ⟨g5, 4, none⟩ = some (.int .i64 v3) ∧ Pst w g2 g5 B xs zs0 #[.int .i64 kv, .string ⟨#[]⟩, .string ⟨#[]⟩, .int .i64 v2, .int .i64 v3] W_) (first | with_reducible assumption | (with_reducible exact s15 (by with_reducible assumption)))
          (first
            | (go_at_call 23; refine (HS1_.out _ _ (Pst.hr (by first | with_reducible assumption | exact hS0.2.2))).mono ?_; rintro e w' ⟨rfl, rfl⟩)
            | (go_at_call 9; refine (HM_.out _ (HT.out.tabs.below (Pst.hb (by first | with_reducible assumption | exact hS0.2.2)))).mono ?_; rintro e w6 ⟨rfl, hb_⟩; have hP6 := Pst.step (by first | with_reducible assumption | exact hS0.2.2) hb_))
        clear HP hS0
        have HP := Aside0.mk hP6
        clear hP6
        go_wp2_with (first
          | ((with_reducible refine gate_store (t := 30) (p := 2) (v := .tmp 77) rfl ?_); refine store30 rfl _ _ rfl g2 _ _ _ _ _ rfl rfl HP.out.h2 ?_; intro WZ hWZ; have n0_ := Aside0.mk (hWZ ▸ HP.out.set2 #[.int .i64 0, .string ⟨#[]⟩, .string ⟨#[]⟩, .int .i64 0, .int .i64 0]); clear HP hWZ; have HP := n0_; clear n0_))
        refine bodyPost_ret (ret30 rfl _ _ g2 rfl HP.out.h2) rfl ?_
        exact ⟨rfl, HP.out.hb⟩
      · intro x
        exact J14.start HP.out.drew

  · rw [if_neg (fun h => hne h.1)]
    have f1 : (ne != 0) = true := bne_iff_ne.mpr hne
    rw [hz]
    generalize mkB nb = bk at *
    clear hne
    go_enter Tryd.func13, Tryd.ntmps13
    go_upto_region 14 with (first
      | ((with_reducible refine gate_dst (N := 2) rfl ?_); refine box_event ?hg (N := 2) ?hd (cs := #[.int .i64 0, .string ⟨#[]⟩, .string ⟨#[]⟩, .int .i64 0, .int .i64 0]) (t := 30) ?hr ?_; (case hd => rfl); (case hg => rfl); (case hr => first | (go_simp; done) | (go_simp; rfl)); intro g2 eg2 Wg2 hxg2 hbg2; have b2 := Aside0.mk (show St2 w g2 _ Wg2 from ⟨hbg2, hxg2, by omega⟩); clear hbg2 hxg2 eg2)
      | (go_at_call 22; (with_reducible refine (hSp _).mono ?_); clear hSp; rintro e w1 ⟨B, hB, rfl, hrow, hb_⟩; have b3 := Aside0.mk (b2.out.row hB hrow hb_); clear b2 hB hrow hb_)
      | ((with_reducible refine gate_dst (N := 5) rfl ?_); refine box_event ?hg (N := 5) ?hd (cs := #[.int .i64 0, .string ⟨#[]⟩, .string ⟨#[]⟩, .int .i64 0, .int .i64 0]) (t := 30) ?hr ?_; (case hd => rfl); (case hg => rfl); (case hr => first | (go_simp; done) | (go_simp; rfl)); intro g5 eg5 Wg5 hxg5 hbg5; have HP := Aside0.mk (b3.out.box hxg5 hbg5 eg5); clear b3 hxg5 hbg5 eg5; have hc0 := HP.out.hr.at_ 0 _ hx0))
    refine law14 (by kernel_rfl) (J14 w g2 g5 B xs (.slice (some ⟨B, 0, none⟩) n n) r1 r2 r3 kv nv v2 v3) rfl (of_range (by kernel_rfl)) (fun _ _ _ h => h.sz) ?_ ?_ ?_
    · intro listed x W i o hj ho hd
      have hi : i < 13 := (Array.getElem?_eq_some_iff.1 ho).1
      obtain rfl | rfl | rfl | rfl | rfl | rfl | rfl | rfl | rfl | rfl | rfl | rfl | rfl : i = 0 ∨ i = 1 ∨ i = 2 ∨ i = 3 ∨ i = 4 ∨ i = 5 ∨ i = 6 ∨ i = 7 ∨ i = 8 ∨ i = 9 ∨ i = 10 ∨ i = 11 ∨ i = 12 := by omega
      · obtain rfl := Option.some.inj ho
        refine wpOp_of rfl rfl ?_
        refine step_call 20 #[] (by go_simp) (HK_.out _) ?_
        rintro e w' ⟨rfl, hb, ho'⟩
        exact ⟨_, rfl, fun k => if k = 48 then _ else x k, rfl, hj.next 0 (by omega) hb _ ⟨_, rfl, ho'⟩⟩
      · obtain rfl := Option.some.inj ho
        refine wpOp_of rfl rfl ?_
        refine step_value ((.slice (some ⟨B, 0, none⟩) n n)) (by go_simp) ?_
        exact ⟨fun k => if k = 49 then (.slice (some ⟨B, 0, none⟩) n n) else x k, rfl, hj.next 1 (by omega) (Below.refl _ _) _ rfl⟩
      · obtain rfl := Option.some.inj ho
        have d1 := hj.f 1 (by omega) (hd { on := 1, ground := .data } (by simp) rfl)
        refine wpOp_of rfl rfl ?_
        have d1 : x 49 = (.slice (some ⟨B, 0, none⟩) n n) := d1
        refine step_call 23 #[(.slice (some ⟨B, 0, none⟩) n n), .int .i64 1] (by rw [d1]; go_simp) (HS1_.out _ _ hj.row.1) ?_
        rintro e w' ⟨rfl, rfl⟩
        exact ⟨_, rfl, fun k => if k = 50 then _ else x k, rfl, hj.next 2 (by omega) (Below.refl _ _) _ rfl⟩
      · obtain rfl := Option.some.inj ho
        have d0 := hj.f 0 (by omega) (hd { on := 0, ground := .data } (by simp) rfl)
        have d2 := hj.f 2 (by omega) (hd { on := 2, ground := .data } (by simp) rfl)
        refine wpOp_of rfl rfl ?_
        obtain ⟨D, d0, hD⟩ := d0
        have d0 : x 48 = .map (some D) := d0
        have d2 : x 50 = .string r1 := d2
        have hl := HL_.out _ _ hD
        refine step_value (.agg #[.int .i64 kv, .int .i64 nv]) (by rw [d0, d2]; go_simp) ?_
        exact ⟨fun k => if k = 51 then .agg #[.int .i64 kv, .int .i64 nv] else x k, rfl, hj.next 3 (by omega) (Below.refl _ _) _ rfl⟩
      · obtain rfl := Option.some.inj ho
        have d3 := hj.f 3 (by omega) (hd { on := 3, ground := .data } (by simp) rfl)
        refine wpOp_of rfl rfl ?_
        have d3 : x 51 = .agg #[.int .i64 kv, .int .i64 nv] := d3
        refine step_value (.int .i64 kv) (by rw [d3]; go_simp; rw [index43]; rfl) ?_
        exact ⟨fun k => if k = 52 then .int .i64 kv else x k, rfl, hj.next 4 (by omega) (Below.refl _ _) _ rfl⟩
      · obtain rfl := Option.some.inj ho
        refine wpOp_of rfl rfl ?_
        refine step_value ((.slice (some ⟨B, 0, none⟩) n n)) (by go_simp) ?_
        exact ⟨fun k => if k = 53 then (.slice (some ⟨B, 0, none⟩) n n) else x k, rfl, hj.next 5 (by omega) (Below.refl _ _) _ rfl⟩
      · obtain rfl := Option.some.inj ho
        have d5 := hj.f 5 (by omega) (hd { on := 5, ground := .data } (by simp) rfl)
        refine wpOp_of rfl rfl ?_
        have d5 : x 53 = (.slice (some ⟨B, 0, none⟩) n n) := d5
        refine step_call 23 #[(.slice (some ⟨B, 0, none⟩) n n), .int .i64 2] (by rw [d5]; go_simp) (HS2_.out _ _ hj.row.1) ?_
        rintro e w' ⟨rfl, rfl⟩
        exact ⟨_, rfl, fun k => if k = 54 then _ else x k, rfl, hj.next 6 (by omega) (Below.refl _ _) _ rfl⟩
      · obtain rfl := Option.some.inj ho
        have d6 := hj.f 6 (by omega) (hd { on := 6, ground := .data } (by simp) rfl)
        refine wpOp_of rfl rfl ?_
        have d6 : x 54 = .string r2 := d6
        refine step_call 24 #[.string r2] (by rw [d6]; go_simp) (HN2_.out _ (HT.out.below hj.row.2)) ?_
        rintro e w' ⟨rfl, hb⟩
        exact ⟨_, rfl, fun k => if k = 55 then _ else x k, rfl, hj.next 7 (by omega) hb _ rfl⟩
      · obtain rfl := Option.some.inj ho
        refine wpOp_of rfl rfl ?_
        refine step_value ((.slice (some ⟨B, 0, none⟩) n n)) (by go_simp) ?_
        exact ⟨fun k => if k = 56 then (.slice (some ⟨B, 0, none⟩) n n) else x k, rfl, hj.next 8 (by omega) (Below.refl _ _) _ rfl⟩
      · obtain rfl := Option.some.inj ho
        have d8 := hj.f 8 (by omega) (hd { on := 8, ground := .data } (by simp) rfl)
        refine wpOp_of rfl rfl ?_
        have d8 : x 56 = (.slice (some ⟨B, 0, none⟩) n n) := d8
        refine step_call 23 #[(.slice (some ⟨B, 0, none⟩) n n), .int .i64 3] (by rw [d8]; go_simp) (HS3_.out _ _ hj.row.1) ?_
        rintro e w' ⟨rfl, rfl⟩
        exact ⟨_, rfl, fun k => if k = 57 then _ else x k, rfl, hj.next 9 (by omega) (Below.refl _ _) _ rfl⟩
      · obtain rfl := Option.some.inj ho
        have d9 := hj.f 9 (by omega) (hd { on := 9, ground := .data } (by simp) rfl)
        refine wpOp_of rfl rfl ?_
        have d9 : x 57 = .string r3 := d9
        refine step_call 24 #[.string r3] (by rw [d9]; go_simp) (HN3_.out _ (HT.out.below hj.row.2)) ?_
        rintro e w' ⟨rfl, hb⟩
        exact ⟨_, rfl, fun k => if k = 58 then _ else x k, rfl, hj.next 10 (by omega) hb _ rfl⟩
      · obtain rfl := Option.some.inj ho
        have d4 := hj.f 4 (by omega) (hd { on := 4, ground := .data } (by simp) rfl)
        have d7 := hj.f 7 (by omega) (hd { on := 7, ground := .data } (by simp) rfl)
        have d10 := hj.f 10 (by omega) (hd { on := 10, ground := .data } (by simp) rfl)
        refine wpOp_of rfl rfl ?_
        have d4 : x 52 = .int .i64 kv := d4
        have d7 : x 55 = .int .i64 v2 := d7
        have d10 : x 58 = .int .i64 v3 := d10
        refine step_value (.agg #[.int .i64 kv, .string ⟨#[]⟩, .string ⟨#[]⟩, .int .i64 v2, .int .i64 v3]) (by rw [d4, d7, d10]; go_simp) ?_
        exact ⟨fun k => if k = 59 then .agg #[.int .i64 kv, .string ⟨#[]⟩, .string ⟨#[]⟩, .int .i64 v2, .int .i64 v3] else x k, rfl, hj.next 11 (by omega) (Below.refl _ _) _ rfl⟩
      · obtain rfl := Option.some.inj ho
        have d11 := hj.f 11 (by omega) (hd { on := 11, ground := .data } (by simp) rfl)
        refine wpOp_of rfl rfl ?_
        have d11 : x 59 = .agg #[.int .i64 kv, .string ⟨#[]⟩, .string ⟨#[]⟩, .int .i64 v2, .int .i64 v3] := d11
        obtain ⟨u0, u1, u2, u3, u4, hu⟩ := hj.all5
        refine wp_store_row 30 _ _ rfl g5 _ rfl d11 30 _ hu (by kernel_rfl) rfl (by simp [Value.oneCell']) ?_
        exact ⟨x, rfl, hj.done⟩
    · intro listed x W hj hall
      have hPs := hj.c ((getD_any (by rw [hj.sz]; omega)).symm.trans (hall 12 (by omega)))
      clear hj hall HP hc0
      have HP := Aside0.mk hPs
      have hS0 : (W.drew).cell? ⟨g5, 3, none⟩ = some (.int .i64 v2) ∧ (W.drew).cell? ⟨g5, 4, none⟩ = some (.int .i64 v3) ∧ Pst w g2 g5 B xs zs0 #[.int .i64 kv, .string ⟨#[]⟩, .string ⟨#[]⟩, .int .i64 v2, .int .i64 v3] W.drew := ⟨hPs.drew.cell5 3 _ rfl, hPs.drew.cell5 4 _ rfl, hPs.drew⟩
      clear hPs
      go_upto_region 15 with (fail)
      go_region_held3 (fun W_ => W_.cell? ⟨g5, 3, none⟩ = some (.int .i64 v2) ∧ W_.cell? ⟨g5, 4, none⟩ = some (.int .i64 v3) ∧ Pst w g2 g5 B xs zs0 #[.int .i64 kv, .string ⟨#[]⟩, .string ⟨#[]⟩, .int .i64 v2, .int .i64 v3] W_) (first | with_reducible assumption | (with_reducible exact s15 (by with_reducible assumption)))
        (first
          | (go_at_call 23; refine (HS1_.out _ _ (Pst.hr (by first | with_reducible assumption | exact hS0.2.2))).mono ?_; rintro e w' ⟨rfl, rfl⟩)
          | (go_at_call 9; refine (HM_.out _ (HT.out.tabs.below (Pst.hb (by first | with_reducible assumption | exact hS0.2.2)))).mono ?_; rintro e w6 ⟨rfl, hb_⟩; have hP6 := Pst.step (by first | with_reducible assumption | exact hS0.2.2) hb_))
      clear HP hS0
      have HP := Aside0.mk hP6
      clear hP6
      go_wp2_with (first
        | ((with_reducible refine gate_store (t := 30) (p := 2) (v := .tmp 77) rfl ?_); refine store30 rfl _ _ rfl g2 _ _ _ _ _ rfl rfl HP.out.h2 ?_; intro WZ hWZ; have n0_ := Aside0.mk (hWZ ▸ HP.out.set2 #[.int .i64 0, .string ⟨#[]⟩, .string ⟨#[]⟩, .int .i64 0, .int .i64 0]); clear HP hWZ; have HP := n0_; clear n0_))
      refine bodyPost_ret (ret30 rfl _ _ g2 rfl HP.out.h2) rfl ?_
      exact ⟨rfl, HP.out.hb⟩
    · intro x
      exact J14.start HP.out.drew

end Go.Proofs.YtmgkgjacnbeboaaDoor.E
