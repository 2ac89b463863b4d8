/- Rows of structs as they lie, cell by cell; the law's few: what it cuts. -/
import Derived.Test.YtgcflmhlegagbaaGreatDoorQ8
import Derived.Deep.RegionHeld3
section
set_option linter.unusedVariables false
set_option linter.unusedSimpArgs false
namespace Go.Proofs.YtgcflmhlegagbaaGreatDoor.E
open Go.RowKit Go.Lib Go.Shelf Go.Proofs.YtgcflmhlegagbaaGreatDoorW.PrintWords Go.Proofs.YtgcflmhlegagbaaGreatDoorW.PrintLast Go.Proofs.YtgcflmhlegagbaaGreatDoorW.PrintMore
open X (S25 k25 z25 S28 k28 S53 k53 S70 k70 S46 k46 S48 k48 z48)
/-- Elements of n cells, each as it lies. -/
def valK (n : Nat) : Kd (List Value) where
  sz := n
  E := []
  K := fun _ x cs => cs = x ∧ x.length = n ∧ ∀ u ∈ x, u.oneCell' = true
  M := fun _ _ _ x cs => cs = x ∧ x.length = n ∧ ∀ u ∈ x, u.oneCell' = true
  K_len := fun h => by rw [h.1]; exact h.2.1
  K_one := fun h => by rw [h.1]; exact h.2.2
  K_below := fun _ h => h
  K_of_M := fun h => h
  M_mono := fun _ h => h
  M_bound := fun h => h
  M_move := fun _ h => h
  M_lower := fun _ h => h
theorem C_of_val {α : Type} {d : Kd α} {w : World} {A : Option Addr} {n : Nat} {xs : List α} {hs : List (List Value)} (h : (valK d.sz).C w A n hs) (hl : hs.length = xs.length) (hK : ∀ (j : Nat) (c : List Value) (x : α), hs[j]? = some c → xs[j]? = some x → d.K w x c) : d.C w A n xs := by
  refine ⟨hl ▸ h.1, h.2.1, fun hn => ?_⟩
  obtain ⟨ad, e, hc⟩ := h.2.2 hn
  refine ⟨ad, e, fun j x hj => ?_⟩
  have hlt : j < hs.length := by have := (List.getElem?_eq_some_iff.1 hj).1; omega
  obtain ⟨c, hs1, hr, hcell⟩ := hc j _ (List.getElem?_eq_getElem hlt)
  rw [hr.1] at hcell
  exact ⟨hs[j], hr.2.1, hK j _ x (List.getElem?_eq_getElem hlt) hj, hcell⟩
/-- A slice's header, cut. -/
def cutV (k : Nat) : Value → Value
  | .slice A n c => .slice A (min n k) c
  | v => v
/-- The cells of one that is held, cut. -/
def cutH : List Value → List Value
  | [a, b, c, d, keys, roles, log, files, delegs] => [a, b, c, d, cutV 18 keys, roles, log, cutV 34 files, cutV 18 delegs]
  | l => l
def cutM (m : S46) : S46 := { m with f3 := m.f3.take 18, f6 := m.f6.take 34, f7 := m.f7.take 18 }
def cutS (x : S48) : S48 := { x with f1 := cutM x.f1 }
/-- What is few of what is held. -/
def fewS (l : List S48) : List S48 := (l.take 34).map cutS
theorem C_min {α : Type} {d : Kd α} {w : World} {A : Option Addr} {xs : List α} (k : Nat) (h : d.C w A xs.length xs) : d.C w A (xs.take k).length (xs.take k) := by
  by_cases hk : k ≤ xs.length
  · exact Kd.C_take h hk
  · rw [List.take_of_length_le (by omega)]; exact h
theorem cutH_K {w : World} {x : S48} {cs : List Value} (h : k48.K w x cs) : k48.K w (cutS x) (cutH cs) := by
  obtain ⟨A4, c4, A5, c5, A7, c7, A8, c8, rfl, l4, g4, l5, g5, l7, g7, l8, g8⟩ := X.k48_open h
  have hsz : ∀ {α : Type} (l : List α) (k : Nat), min l.length k = (l.take k).length := fun l k => by rw [List.length_take]; omega
  have e : cutH [.string x.f0, .int .i64 x.f1.f0, .int .i64 x.f1.f1, .int .i64 x.f1.f2, .slice A4 x.f1.f3.length c4, .slice A5 x.f1.f4.length c5, .string x.f1.f5, .slice A7 x.f1.f6.length c7, .slice A8 x.f1.f7.length c8] =
      [.string x.f0, .int .i64 x.f1.f0, .int .i64 x.f1.f1, .int .i64 x.f1.f2, .slice A4 (x.f1.f3.take 18).length c4, .slice A5 x.f1.f4.length c5, .string x.f1.f5, .slice A7 (x.f1.f6.take 34).length c7, .slice A8 (x.f1.f7.take 18).length c8] := by
    simp only [cutH, cutV, hsz]
  rw [e]
  exact X.k48_mk w (cutS x) (Nat.le_trans (List.length_take_le' _ _) l4 : (x.f1.f3.take 18).length ≤ c4) (C_min 18 g4) l5 g5 (Nat.le_trans (List.length_take_le' _ _) l7 : (x.f1.f6.take 34).length ≤ c7) (C_min 34 g7) (Nat.le_trans (List.length_take_le' _ _) l8 : (x.f1.f7.take 18).length ≤ c8) (C_min 18 g8)
/-- A row of none, with a block of its own. -/
theorem R_none {α : Type} (d : Kd α) (e : TypeId) (W : World) (base : Nat) (hb : base ≤ W.heap.size) : d.R e (W.alloc (.cells #[] e)) base (fun _ => True) (.slice (some ⟨W.heap.size, 0, none⟩) 0 0) [] :=
  ⟨fun _ _ => trivial, [], ⟨by simp, .inr ⟨W.heap.size, 0, #[], rfl, hb, blk_new _ _, Nat.le_refl _, by decide, by simp, by simp⟩⟩, ⟨by simp, fun j p h => by simp at h⟩⟩
theorem info48 : (Tryz.prog.info? 48).map (fun i => (i.zero, i.size, i.bytes)) = some (some (.agg #[.string ⟨#[]⟩, .int .i64 0, .int .i64 0, .int .i64 0, .slice none 0 0, .slice none 0 0, .string ⟨#[]⟩, .slice none 0 0, .slice none 0 0]), 9, 152) := by kernel_rfl
theorem R_form {α : Type} {d : Kd α} {e : Nat} {w : World} {base : Nat} {ok : Nat → Prop} {v : Value} {xs : List α} (h : d.R e w base ok v xs) {g : Nat} (hg : v.ownBlock = some g) : ∃ cap, v = .slice (some ⟨g, 0, none⟩) xs.length cap ∧ xs.length ≤ cap := by
  obtain ⟨_, inner, ⟨_, h2⟩, _⟩ := h
  rcases h2 with ⟨rfl, _⟩ | ⟨g', cap, cur, rfl, _, _, h3, _⟩
  · simp [Value.ownBlock] at hg
  · have : g' = g := by simpa [Value.ownBlock] using hg
    subst this
    exact ⟨cap, rfl, h3⟩
/-- The row of headers, the first k cut. -/
def mixH (H : List (List Value)) (k : Nat) : List (List Value) := (H.take k).map cutH ++ H.drop k
theorem mixH_at (H : List (List Value)) (k : Nat) (hk : k < H.length) : (mixH H k)[k]? = some H[k] := by
  unfold mixH
  rw [List.getElem?_append_right (by rw [List.length_map, List.length_take]; omega), List.length_map, List.length_take, List.getElem?_drop, show k + (k - min k H.length) = k by omega]
  exact List.getElem?_eq_getElem hk
theorem mixH_succ (H : List (List Value)) (k : Nat) (hk : k < H.length) : (mixH H k).set k (cutH H[k]) = mixH H (k + 1) := by
  unfold mixH
  rw [List.set_append_right (h := by rw [List.length_map, List.length_take]; omega), List.length_map, List.length_take, List.take_succ_eq_append_getElem hk, List.map_append, show k - min k H.length = 0 by omega, List.drop_eq_getElem_cons hk]
  simp only [List.set_cons_zero, List.map_cons, List.map_nil, List.append_assoc, List.cons_append, List.nil_append]
theorem mixH_all (H : List (List Value)) : mixH H H.length = H.map cutH := by
  unfold mixH
  rw [List.take_length, List.drop_length, List.append_nil]
/-- Rows of cells that are those of what is held. -/
def HsAre (w : World) (hs : List (List Value)) (xs : List S48) : Prop := hs.length = xs.length ∧ ∀ (j : Nat) (c : List Value) (x : S48), hs[j]? = some c → xs[j]? = some x → k48.K w x c
theorem HsAre.nil (w : World) : HsAre w [] [] := ⟨rfl, fun j c x h => by simp at h⟩
theorem HsAre.snoc {w : World} {hs : List (List Value)} {xs : List S48} (h : HsAre w hs xs) {c : List Value} {x : S48} (hc : k48.K w x c) : HsAre w (hs ++ [c]) (xs ++ [x]) := by
  refine ⟨by simp [h.1], fun j c' x' hj hx => ?_⟩
  by_cases hlt : j < hs.length
  · rw [List.getElem?_append_left hlt] at hj
    rw [List.getElem?_append_left (by rw [← h.1]; exact hlt)] at hx
    exact h.2 j c' x' hj hx
  · have hj2 := (List.getElem?_eq_some_iff.1 hj).1
    simp at hj2
    have ej : j = hs.length := by omega
    subst ej
    rw [List.getElem?_append_right (Nat.le_refl _)] at hj
    rw [h.1, List.getElem?_append_right (Nat.le_refl _)] at hx
    simp at hj hx
    subst hj; subst hx
    exact hc
end Go.Proofs.YtgcflmhlegagbaaGreatDoor.E
end
section
set_option linter.unusedVariables false
set_option linter.unusedSimpArgs false
namespace Go.Proofs.YtgcflmhlegagbaaGreatDoor.E
open Go.RowKit Go.Lib Go.Shelf Go.Proofs.YtgcflmhlegagbaaGreatDoorW.PrintWords Go.Proofs.YtgcflmhlegagbaaGreatDoorW.PrintLast Go.Proofs.YtgcflmhlegagbaaGreatDoorW.PrintMore
/-- A region that draws its order, by what holds behind each of its operations ('listed': which have come up): each is shown once. -/
theorem wpAny_inv {P : Program} {ops : Array Oper} {Q : Exit → Act → World → Prop} {md : Region.Mode} (Inv : Array Bool → Act → World → Prop)
    (hstep : ∀ listed a w i o, Inv listed a w → ops[i]? = some o → listed.getD i true = false → (∀ e ∈ o.after, Region.binds md e = true → listed.getD e.on false = true) → wpOp P ops Q i (fun a' w' => Inv (listed.setIfInBounds i true) a' w') a w)
    (hdone : ∀ listed a w, Inv listed a w → Region.ready md ops listed = [] → Q .normal a w) :
    ∀ (fuel : Nat) (listed : Array Bool) (a : Act) (w : World), Inv listed a w → listed.toList.count false ≤ fuel → wpAny P md ops Q fuel listed a w := by
  have hgone : ∀ (listed : Array Bool) (i : Nat), listed.getD i true = false → ∃ h : i < listed.toList.length, listed.toList[i] = false := fun listed i h => by
    by_cases hlt : i < listed.size
    · refine ⟨by simpa using hlt, ?_⟩
      simp [hlt] at h
      simpa using h
    · simp [Array.getElem?_eq_none (Nat.le_of_not_lt hlt)] at h
  intro fuel
  induction fuel with
  | zero =>
    intro listed a w hI hc
    have hr : Region.ready md ops listed = [] := by
      apply List.eq_nil_iff_forall_not_mem.2
      intro i hi
      obtain ⟨hl, he⟩ := hgone listed i (mem_ready.1 hi).1
      have : 0 < listed.toList.count false := List.count_pos_iff.2 (he ▸ List.getElem_mem hl)
      omega
    exact ⟨hr, hdone listed a w hI hr⟩
  | succ fuel ih =>
    intro listed a w hI hc
    refine ⟨fun hr => hdone listed a w hI hr, fun i hi => ?_⟩
    obtain ⟨hn, o, ho, hd⟩ := mem_ready.1 hi
    refine wpOp_mono (fun a' w' h' => ih _ a' w' h' ?_) (hstep listed a w i o hI ho hn hd)
    obtain ⟨hl, he⟩ := hgone listed i hn
    rw [Array.toList_setIfInBounds, List.count_set hl, he]
    have : 0 < listed.toList.count false := List.count_pos_iff.2 (he ▸ List.getElem_mem hl)
    have e1 : (if (false == false) = true then 1 else 0) = 1 := rfl
    have e2 : (if (true == false) = true then 1 else 0) = 0 := rfl
    rw [e1, e2]; omega
/-- Nothing may come up any more: all have come up. -/
theorem all_listed {ops : Array Oper} {md : Region.Mode} {listed : Array Bool} (hs : listed.size = ops.size) (hac : ∀ (i : Nat) (o : Oper), ops[i]? = some o → ∀ e ∈ o.after, e.on < i) (hr : Region.ready md ops listed = []) :
    ∀ i, i < ops.size → listed.getD i true = true := by
  intro i
  induction i using Nat.strongRecOn with
  | ind i ih =>
    intro hi
    cases hv : listed.getD i true with
    | true => rfl
    | false =>
      exfalso
      have ho : ops[i]? = some ops[i] := by simp [hi]
      have : i ∈ Region.ready md ops listed := mem_ready.2 ⟨hv, ops[i], ho, fun e he _ => by
        have hlt := hac i _ ho e he
        have h1 := ih e.on hlt (by omega)
        have hlt' : e.on < listed.size := by omega
        simp [hlt'] at h1 ⊢; exact h1⟩
      rw [hr] at this; cases this
theorem wpOp_of {P : Program} {ops : Array Oper} {Q : Exit → Act → World → Prop} {i : Nat} {o : Oper} {a : Act} {w : World} {K : Act → World → Prop} (hi : ops[i]? = some o) (hg : o.guard = none) (h : o.wp P a w K Q) : wpOp P ops Q i K a w := by
  unfold wpOp
  rw [hi]
  show (if Region.wanted o (yielded ops a.tmps) = true then _ else _)
  rw [if_pos (by simp [Region.wanted, hg])]
  exact .inl h
theorem step_value {P : Program} {o : Oper} {a : Act} {w : World} {K : Act → World → Prop} {Q : Exit → Act → World → Prop} (v : Value) (hrun : (execOp a.eval o).run P w = .ok (.value v) w) (h : K (a.put o.dst v) w) : o.wp P a w K Q := by
  unfold Oper.wp; rw [hrun]; exact h
theorem getD_any {a : Array Bool} {i : Nat} (h : i < a.size) : a.getD i true = a.getD i false := by simp [h]
theorem of_range {ops : Array Oper} (h : ((List.range ops.size).all fun i => ((ops[i]?).map fun o => o.after.all fun e => decide (e.on < i)).getD true) = true) : ∀ (i : Nat) (o : Oper), ops[i]? = some o → ∀ e ∈ o.after, e.on < i := by
  intro i o ho e he
  have hi := (Array.getElem?_eq_some_iff.1 ho).1
  have := List.all_eq_true.1 h i (List.mem_range.2 hi)
  rw [ho] at this
  simp only [Option.map_some, Option.getD_some, Array.all_eq_true_iff_forall_mem] at this
  exact of_decide_eq_true (this e he)
theorem law27 {P : Program} {ops : Array Oper} {Q : Exit → Act → World → Prop} {id : Nat} {w : World} {t0 t1 t2 t3 t4 t5 t6 t7 t8 t9 t10 t11 t12 t13 t14 t15 t16 t17 t18 t19 t20 t21 t22 t23 t24 t25 t26 t27 t28 t29 t30 t31 t32 t33 t34 t35 t36 t37 t38 t39 t40 t41 t42 t43 t44 t45 t46 t47 t48 t49 t50 t51 t52 : Value} (hm : P.follows .mixedOrders = true) (J : Array Bool → (Nat → Value) → World → Prop)
    (hsz : ops.size = 27) (hac : ∀ (i : Nat) (o : Oper), ops[i]? = some o → ∀ e ∈ o.after, e.on < i)
    (hJ : ∀ listed x w, J listed x w → listed.size = 27)
    (hstep : ∀ listed (x : Nat → Value) w i o, J listed x w → ops[i]? = some o → listed.getD i true = false → (∀ e ∈ o.after, Region.binds .any e = true → listed.getD e.on false = true) →
      wpOp P ops Q i (fun a' w' => ∃ y : Nat → Value, a' = ⟨#[t0, t1, t2, t3, t4, t5, t6, t7, t8, t9, t10, t11, t12, t13, t14, t15, t16, t17, t18, t19, t20, t21, y 22, y 23, y 24, y 25, y 26, y 27, y 28, y 29, y 30, y 31, y 32, y 33, y 34, y 35, y 36, y 37, y 38, y 39, y 40, y 41, y 42, y 43, y 44, y 45, t46, t47, t48, t49, t50, t51, t52], []⟩ ∧ J (listed.setIfInBounds i true) y w') ⟨#[t0, t1, t2, t3, t4, t5, t6, t7, t8, t9, t10, t11, t12, t13, t14, t15, t16, t17, t18, t19, t20, t21, x 22, x 23, x 24, x 25, x 26, x 27, x 28, x 29, x 30, x 31, x 32, x 33, x 34, x 35, x 36, x 37, x 38, x 39, x 40, x 41, x 42, x 43, x 44, x 45, t46, t47, t48, t49, t50, t51, t52], []⟩ w)
    (hdone : ∀ listed (x : Nat → Value) w, J listed x w → (∀ i, i < 27 → listed.getD i true = true) → Q .normal ⟨#[t0, t1, t2, t3, t4, t5, t6, t7, t8, t9, t10, t11, t12, t13, t14, t15, t16, t17, t18, t19, t20, t21, x 22, x 23, x 24, x 25, x 26, x 27, x 28, x 29, x 30, x 31, x 32, x 33, x 34, x 35, x 36, x 37, x 38, x 39, x 40, x 41, x 42, x 43, x 44, x 45, t46, t47, t48, t49, t50, t51, t52], []⟩ w)
    (h0 : ∀ x : Nat → Value, J (Array.replicate 27 false) x { w with drawn := w.drawn + 1 }) :
    (Code.region id ops true).wp P Q ⟨#[t0, t1, t2, t3, t4, t5, t6, t7, t8, t9, t10, t11, t12, t13, t14, t15, t16, t17, t18, t19, t20, t21, t22, t23, t24, t25, t26, t27, t28, t29, t30, t31, t32, t33, t34, t35, t36, t37, t38, t39, t40, t41, t42, t43, t44, t45, t46, t47, t48, t49, t50, t51, t52], []⟩ w := by
  refine wp_region_any hm ?_
  refine wpAny_inv (fun listed a w => ∃ x : Nat → Value, a = ⟨#[t0, t1, t2, t3, t4, t5, t6, t7, t8, t9, t10, t11, t12, t13, t14, t15, t16, t17, t18, t19, t20, t21, x 22, x 23, x 24, x 25, x 26, x 27, x 28, x 29, x 30, x 31, x 32, x 33, x 34, x 35, x 36, x 37, x 38, x 39, x 40, x 41, x 42, x 43, x 44, x 45, t46, t47, t48, t49, t50, t51, t52], []⟩ ∧ J listed x w) ?_ ?_ _ _ _ _ ?_ ?_
  · rintro listed a w i o ⟨x, rfl, hj⟩ ho hn hd
    exact hstep listed x w i o hj ho hn hd
  · rintro listed a w ⟨x, rfl, hj⟩ hr
    exact hdone listed x w hj (fun i hi => all_listed ((hJ _ _ _ hj).trans hsz.symm) hac hr i (hsz ▸ hi))
  · rw [hsz]
    exact ⟨fun k => match k with | 22 => t22 | 23 => t23 | 24 => t24 | 25 => t25 | 26 => t26 | 27 => t27 | 28 => t28 | 29 => t29 | 30 => t30 | 31 => t31 | 32 => t32 | 33 => t33 | 34 => t34 | 35 => t35 | 36 => t36 | 37 => t37 | 38 => t38 | 39 => t39 | 40 => t40 | 41 => t41 | 42 => t42 | 43 => t43 | 44 => t44 | 45 => t45 | _ => undef, rfl, h0 _⟩
  · rw [hsz]; decide
/-- What each operation of the region yields, by its place. -/
def F6 (g : Nat) (A4 A7 A8 : Option Addr) (n4 c4 n7 c7 n8 c8 : Nat) : Nat → Value
  | 22 => .pointer (some ⟨g, 6, none⟩)
  | 23 => .slice A7 n7 c7
  | 24 => .pointer (some ⟨g, 6, none⟩)
  | 25 => .slice A7 n7 c7
  | 26 => .int .i64 n7
  | 27 => .int .i64 (min (n7 : Int) 34)
  | 28 => .slice A7 (min n7 34) c7
  | 29 => .pointer (some ⟨g, 7, none⟩)
  | 30 => .slice A8 n8 c8
  | 31 => .pointer (some ⟨g, 7, none⟩)
  | 32 => .slice A8 n8 c8
  | 33 => .int .i64 n8
  | 34 => .int .i64 (min (n8 : Int) 18)
  | 35 => .slice A8 (min n8 18) c8
  | 36 => .pointer (some ⟨g, 3, none⟩)
  | 37 => .slice A4 n4 c4
  | 38 => .pointer (some ⟨g, 3, none⟩)
  | 39 => .slice A4 n4 c4
  | 40 => .int .i64 n4
  | 41 => .int .i64 (min (n4 : Int) 18)
  | 42 => .slice A4 (min n4 18) c4
  | 43 => .pointer (some ⟨g, 6, none⟩)
  | 44 => .pointer (some ⟨g, 7, none⟩)
  | 45 => .pointer (some ⟨g, 3, none⟩)
  | _ => undef
def slot6 (i : Nat) : Nat := if i ≤ 21 then 22 + i else if i = 23 then 44 else if i = 25 then 45 else 0
/-- The world, the stores that have come up done. -/
def st6 (g : Nat) (A4 A7 A8 : Option Addr) (n4 c4 n7 c7 n8 c8 : Nat) (b22 b24 b26 : Bool) (W : World) : World :=
  let W1 := bif b22 then W.setCell ⟨g, 6, none⟩ (.slice A7 (min n7 34) c7) else W
  let W2 := bif b24 then W1.setCell ⟨g, 7, none⟩ (.slice A8 (min n8 18) c8) else W1
  bif b26 then W2.setCell ⟨g, 3, none⟩ (.slice A4 (min n4 18) c4) else W2
structure J6 (g : Nat) (A4 A7 A8 : Option Addr) (n4 c4 n7 c7 n8 c8 : Nat) (W0 : World) (listed : Array Bool) (x : Nat → Value) (W : World) : Prop where
  sz : listed.size = 27
  v : ∀ j, j < 27 → j ≠ 22 → j ≠ 24 → j ≠ 26 → listed.getD j false = true → x (slot6 j) = F6 g A4 A7 A8 n4 c4 n7 c7 n8 c8 (slot6 j)
  l : listed.getD 22 false = true → listed.getD 1 false = true ∧ listed.getD 3 false = true ∧ listed.getD 8 false = true ∧ listed.getD 10 false = true ∧ listed.getD 15 false = true ∧ listed.getD 17 false = true
  l24 : listed.getD 24 false = true → listed.getD 22 false = true
  l26 : listed.getD 26 false = true → listed.getD 24 false = true
  m : W = st6 g A4 A7 A8 n4 c4 n7 c7 n8 c8 (listed.getD 22 false) (listed.getD 24 false) (listed.getD 26 false) W0
section
variable {g : Nat} {A4 A7 A8 : Option Addr} {n4 c4 n7 c7 n8 c8 : Nat} {W0 : World} {listed : Array Bool} {x : Nat → Value} {W : World}
theorem slot6_inj {i j : Nat} (hi : i < 27) (hj : j < 27) (h1 : i ≠ 22 ∧ i ≠ 24 ∧ i ≠ 26) (h2 : j ≠ 22 ∧ j ≠ 24 ∧ j ≠ 26) (h : slot6 i = slot6 j) : i = j := by
  have e : ∀ k, k < 27 → k ≠ 22 ∧ k ≠ 24 ∧ k ≠ 26 → (k ≤ 21 ∧ slot6 k = 22 + k) ∨ (k = 23 ∧ slot6 k = 44) ∨ (k = 25 ∧ slot6 k = 45) := fun k hk hn => by
    by_cases h21 : k ≤ 21
    · exact .inl ⟨h21, by unfold slot6; rw [if_pos h21]⟩
    · by_cases h23 : k = 23
      · subst h23; exact .inr (.inl ⟨rfl, rfl⟩)
      · have h25 : k = 25 := by omega
        subst h25; exact .inr (.inr ⟨rfl, rfl⟩)
  have a := e i hi h1
  have b := e j hj h2
  omega
theorem getD_set_same (i : Nat) (d : Bool) (h : i < listed.size) : (listed.setIfInBounds i true).getD i d = true := by simp [h]
theorem J6.next (i : Nat) (hi : i < 27) (h22 : i ≠ 22) (h24 : i ≠ 24) (h26 : i ≠ 26) (h : J6 g A4 A7 A8 n4 c4 n7 c7 n8 c8 W0 listed x W) : J6 g A4 A7 A8 n4 c4 n7 c7 n8 c8 W0 (listed.setIfInBounds i true) (fun k => if k = slot6 i then F6 g A4 A7 A8 n4 c4 n7 c7 n8 c8 (slot6 i) else x k) W := by
  have e22 : (listed.setIfInBounds i true).getD 22 false = listed.getD 22 false := getD_set_ne false (by omega)
  have e24 : (listed.setIfInBounds i true).getD 24 false = listed.getD 24 false := getD_set_ne false (by omega)
  have e26 : (listed.setIfInBounds i true).getD 26 false = listed.getD 26 false := getD_set_ne false (by omega)
  have up : ∀ j, listed.getD j false = true → (listed.setIfInBounds i true).getD j false = true := fun j hj => by
    by_cases e : j = i
    · subst e; exact getD_set_same j false (by rw [h.sz]; exact hi)
    · exact (getD_set_ne false (fun q => e q.symm)).trans hj
  refine ⟨by rw [Array.size_setIfInBounds]; exact h.sz, fun j hj j22 j24 j26 e => ?_, fun e => ?_, fun e => e22.trans (h.l24 (e24.symm.trans e)), fun e => e24.trans (h.l26 (e26.symm.trans e)), by rw [e22, e24, e26]; exact h.m⟩
  · by_cases hij : j = i
    · subst hij; simp
    · have ej : (listed.setIfInBounds i true).getD j false = listed.getD j false := getD_set_ne false (fun q => hij q.symm)
      have hne : slot6 j ≠ slot6 i := fun q => hij (slot6_inj hj hi ⟨j22, j24, j26⟩ ⟨h22, h24, h26⟩ q)
      simp only [hne, if_false]
      exact h.v j hj j22 j24 j26 (ej.symm.trans e)
  · obtain ⟨a, b, c, d, e1, f⟩ := h.l (e22.symm.trans e)
    exact ⟨up _ a, up _ b, up _ c, up _ d, up _ e1, up _ f⟩
theorem J6.early (h : J6 g A4 A7 A8 n4 c4 n7 c7 n8 c8 W0 listed x W) (h22 : listed.getD 22 false = false) : W = W0 := by
  have h24 : listed.getD 24 false = false := by
    cases e : listed.getD 24 false with
    | false => rfl
    | true => rw [h.l24 e] at h22; exact absurd h22 (by decide)
  have h26 : listed.getD 26 false = false := by
    cases e : listed.getD 26 false with
    | false => rfl
    | true => rw [h.l26 e] at h24; exact absurd h24 (by decide)
  have := h.m
  rw [h22, h24, h26] at this
  exact this
theorem J6.store22 (h : J6 g A4 A7 A8 n4 c4 n7 c7 n8 c8 W0 listed x W) (hn : listed.getD 22 false = false) (hl : listed.getD 1 false = true ∧ listed.getD 3 false = true ∧ listed.getD 8 false = true ∧ listed.getD 10 false = true ∧ listed.getD 15 false = true ∧ listed.getD 17 false = true) : J6 g A4 A7 A8 n4 c4 n7 c7 n8 c8 W0 (listed.setIfInBounds 22 true) x (W.setCell ⟨g, 6, none⟩ (.slice A7 (min n7 34) c7)) := by
  have hW := h.early hn
  have h24 : listed.getD 24 false = false := by
    cases e : listed.getD 24 false with
    | false => rfl
    | true => rw [h.l24 e] at hn; exact absurd hn (by decide)
  have h26 : listed.getD 26 false = false := by
    cases e : listed.getD 26 false with
    | false => rfl
    | true => rw [h.l26 e] at h24; exact absurd h24 (by decide)
  have e22 : (listed.setIfInBounds 22 true).getD 22 false = true := getD_set_same 22 false (by rw [h.sz]; decide)
  have e24 : (listed.setIfInBounds 22 true).getD 24 false = false := (getD_set_ne false (by decide)).trans h24
  have e26 : (listed.setIfInBounds 22 true).getD 26 false = false := (getD_set_ne false (by decide)).trans h26
  refine ⟨by rw [Array.size_setIfInBounds]; exact h.sz, fun j hj j22 j24 j26 e => h.v j hj j22 j24 j26 ((getD_set_ne false (fun q => j22 q.symm)).symm.trans e), fun _ => ?_, fun e => e22, fun e => by rw [e26] at e; exact absurd e (by decide), by rw [e22, e24, e26, hW]; rfl⟩
  obtain ⟨a, b, c, d, e1, f⟩ := hl
  exact ⟨(getD_set_ne false (by decide)).trans a, (getD_set_ne false (by decide)).trans b, (getD_set_ne false (by decide)).trans c, (getD_set_ne false (by decide)).trans d, (getD_set_ne false (by decide)).trans e1, (getD_set_ne false (by decide)).trans f⟩
theorem J6.store24 (h : J6 g A4 A7 A8 n4 c4 n7 c7 n8 c8 W0 listed x W) (hn : listed.getD 24 false = false) (h22 : listed.getD 22 false = true) : J6 g A4 A7 A8 n4 c4 n7 c7 n8 c8 W0 (listed.setIfInBounds 24 true) x (W.setCell ⟨g, 7, none⟩ (.slice A8 (min n8 18) c8)) := by
  have h26 : listed.getD 26 false = false := by
    cases e : listed.getD 26 false with
    | false => rfl
    | true => rw [h.l26 e] at hn; exact absurd hn (by decide)
  have e22 : (listed.setIfInBounds 24 true).getD 22 false = true := (getD_set_ne false (by decide)).trans h22
  have e24 : (listed.setIfInBounds 24 true).getD 24 false = true := getD_set_same 24 false (by rw [h.sz]; decide)
  have e26 : (listed.setIfInBounds 24 true).getD 26 false = false := (getD_set_ne false (by decide)).trans h26
  have hm := h.m
  rw [h22, hn, h26] at hm
  refine ⟨by rw [Array.size_setIfInBounds]; exact h.sz, fun j hj j22 j24 j26 e => h.v j hj j22 j24 j26 ((getD_set_ne false (fun q => j24 q.symm)).symm.trans e), fun _ => ?_, fun e => e22, fun e => by rw [e26] at e; exact absurd e (by decide), by rw [e22, e24, e26, hm]; rfl⟩
  obtain ⟨a, b, c, d, e1, f⟩ := h.l h22
  exact ⟨(getD_set_ne false (by decide)).trans a, (getD_set_ne false (by decide)).trans b, (getD_set_ne false (by decide)).trans c, (getD_set_ne false (by decide)).trans d, (getD_set_ne false (by decide)).trans e1, (getD_set_ne false (by decide)).trans f⟩
theorem J6.store26 (h : J6 g A4 A7 A8 n4 c4 n7 c7 n8 c8 W0 listed x W) (hn : listed.getD 26 false = false) (h24 : listed.getD 24 false = true) : J6 g A4 A7 A8 n4 c4 n7 c7 n8 c8 W0 (listed.setIfInBounds 26 true) x (W.setCell ⟨g, 3, none⟩ (.slice A4 (min n4 18) c4)) := by
  have h22 := h.l24 h24
  have e22 : (listed.setIfInBounds 26 true).getD 22 false = true := (getD_set_ne false (by decide)).trans h22
  have e24 : (listed.setIfInBounds 26 true).getD 24 false = true := (getD_set_ne false (by decide)).trans h24
  have e26 : (listed.setIfInBounds 26 true).getD 26 false = true := getD_set_same 26 false (by rw [h.sz]; decide)
  have hm := h.m
  rw [h22, h24, hn] at hm
  refine ⟨by rw [Array.size_setIfInBounds]; exact h.sz, fun j hj j22 j24 j26 e => h.v j hj j22 j24 j26 ((getD_set_ne false (fun q => j26 q.symm)).symm.trans e), fun _ => ?_, fun e => e22, fun e => e24, by rw [e22, e24, e26, hm]; rfl⟩
  obtain ⟨a, b, c, d, e1, f⟩ := h.l h22
  exact ⟨(getD_set_ne false (by decide)).trans a, (getD_set_ne false (by decide)).trans b, (getD_set_ne false (by decide)).trans c, (getD_set_ne false (by decide)).trans d, (getD_set_ne false (by decide)).trans e1, (getD_set_ne false (by decide)).trans f⟩
theorem rep27 (j : Nat) : (Array.replicate 27 false).getD j false = false := by
  by_cases h : j < 27
  · simp [h]
  · simp [Array.getElem?_eq_none (show (Array.replicate 27 false).size ≤ j by simp; omega)]
theorem J6.start : J6 g A4 A7 A8 n4 c4 n7 c7 n8 c8 W (Array.replicate 27 false) x W :=
  ⟨by simp, fun j _ _ _ _ e => absurd ((rep27 j).symm.trans e) (by decide), fun e => absurd ((rep27 22).symm.trans e) (by decide), fun e => absurd ((rep27 24).symm.trans e) (by decide), fun e => absurd ((rep27 26).symm.trans e) (by decide), by rw [rep27, rep27, rep27]; rfl⟩
end
end Go.Proofs.YtgcflmhlegagbaaGreatDoor.E
end
section
set_option linter.unusedVariables false
set_option linter.unusedSimpArgs false
namespace Go.Proofs.YtgcflmhlegagbaaGreatDoor.E
open Go.RowKit Go.Lib Go.Shelf Go.Proofs.YtgcflmhlegagbaaGreatDoorW.PrintWords Go.Proofs.YtgcflmhlegagbaaGreatDoorW.PrintLast Go.Proofs.YtgcflmhlegagbaaGreatDoorW.PrintMore
open X (S25 k25 z25 S28 k28 S53 k53 S70 k70 S46 k46 S48 k48 z48)
theorem step_skip {P : Program} {o : Oper} {a : Act} {w w' : World} {K : Act → World → Prop} {Q : Exit → Act → World → Prop} (hrun : (execOp a.eval o).run P w = .ok .skip w') (h : K (a.put o.dst undef) w') : o.wp P a w K Q := by
  unfold Oper.wp; rw [hrun]; exact h
theorem J6.block {g : Nat} {A4 A7 A8 : Option Addr} {n4 c4 n7 c7 n8 c8 : Nat} {W0 : World} {listed : Array Bool} {x : Nat → Value} {W : World} (h : J6 g A4 A7 A8 n4 c4 n7 c7 n8 c8 W0 listed x W) {u0 u1 u2 u3 u4 u5 u6 u7 : Value} (hb : W0.heap[g]? = some (.cells #[u0, u1, u2, u3, u4, u5, u6, u7] 46 (0, 0))) :
    ∃ v3 v6 v7, W.heap[g]? = some (.cells #[u0, u1, u2, v3, u4, u5, v6, v7] 46 (0, 0)) := by
  have hm := h.m
  have h1 : ∀ (W : World) (u3 u6 u7 : Value) (b : Bool) (v : Value), W.heap[g]? = some (.cells #[u0, u1, u2, u3, u4, u5, u6, u7] 46 (0, 0)) → ∃ v6, (bif b then W.setCell ⟨g, 6, none⟩ v else W).heap[g]? = some (.cells #[u0, u1, u2, u3, u4, u5, v6, u7] 46 (0, 0)) := fun W u3 u6 u7 b v h => by
    cases b
    · exact ⟨_, h⟩
    · exact ⟨v, blk_put h 6 v rfl⟩
  have h2 : ∀ (W : World) (u3 u6 u7 : Value) (b : Bool) (v : Value), W.heap[g]? = some (.cells #[u0, u1, u2, u3, u4, u5, u6, u7] 46 (0, 0)) → ∃ v7, (bif b then W.setCell ⟨g, 7, none⟩ v else W).heap[g]? = some (.cells #[u0, u1, u2, u3, u4, u5, u6, v7] 46 (0, 0)) := fun W u3 u6 u7 b v h => by
    cases b
    · exact ⟨_, h⟩
    · exact ⟨v, blk_put h 7 v rfl⟩
  have h3 : ∀ (W : World) (u3 u6 u7 : Value) (b : Bool) (v : Value), W.heap[g]? = some (.cells #[u0, u1, u2, u3, u4, u5, u6, u7] 46 (0, 0)) → ∃ v3, (bif b then W.setCell ⟨g, 3, none⟩ v else W).heap[g]? = some (.cells #[u0, u1, u2, v3, u4, u5, u6, u7] 46 (0, 0)) := fun W u3 u6 u7 b v h => by
    cases b
    · exact ⟨_, h⟩
    · exact ⟨v, blk_put h 3 v rfl⟩
  obtain ⟨v6, e1⟩ := h1 W0 u3 u6 u7 (listed.getD 22 false) (.slice A7 (min n7 34) c7) hb
  obtain ⟨v7, e2⟩ := h2 _ u3 v6 u7 (listed.getD 24 false) (.slice A8 (min n8 18) c8) e1
  obtain ⟨v3, e3⟩ := h3 _ u3 v6 v7 (listed.getD 26 false) (.slice A4 (min n4 18) c4) e2
  exact ⟨v3, v6, v7, hm ▸ e3⟩
def FewOut (w0 w : World) (l : List S48) (e : Ending) (w' : World) : Prop := ∃ A' c' hs', e = .returned (.slice A' (fewS l).length c') ∧ (fewS l).length ≤ c' ∧ (valK 9).C w' A' (fewS l).length hs' ∧ HsAre w0 hs' (fewS l) ∧ Below w.heap.size w w'
set_option maxHeartbeats 8000000 in
set_option maxRecDepth 100000 in
theorem few_val (w0 : World) (A : Option Addr) (c : Nat) (l : List S48) (hs : List (List Value)) (w : World) (hC : (valK 9).C w A l.length hs) (hHA : HsAre w0 hs l) (hlc : l.length ≤ c) :
    Calls Tryz.prog 8 #[.slice A l.length c] w (FewOut w0 w l) := by
  obtain ⟨hsl, hK⟩ := hHA
  obtain ⟨H, hH⟩ : ∃ H, hs.take 34 = H := ⟨_, rfl⟩
  have hHl : H.length = min l.length 34 := by rw [← hH, List.length_take, hsl]; omega
  have HKH := Aside0.mk (show ∀ (j : Nat) (hj : j < H.length), ∃ x, (l.take 34)[j]? = some x ∧ k48.K w0 x H[j] from fun j hj => by
    have hjl : j < l.length := by omega
    refine ⟨l[j], by rw [List.getElem?_take_of_lt (by omega)]; exact List.getElem?_eq_getElem hjl, hK j _ _ ?_ (List.getElem?_eq_getElem hjl)⟩
    subst hH
    rw [List.getElem_take]
    exact List.getElem?_eq_getElem (by omega))
  have hCH : (valK 9).C w A H.length H := by
    rw [← hsl] at hC
    have := C_min 34 hC
    rw [hH] at this
    exact this
  have HCH := Aside0.mk hCH
  obtain ⟨n, hn⟩ : ∃ n, H.length = n := ⟨_, rfl⟩
  rw [hn] at hHl
  have HN := Lib.hid hn
  have hmn : (min (l.length : Int) 34).toNat = n := by omega
  have hmn2 : min (l.length : Int) 34 = (n : Int) := by omega
  have hn34 : n ≤ 34 := by omega
  have hnc : (n : Int) ≤ (c : Int) := by omega
  have HHL := Lib.hid hHl
  clear hC hK hCH hsl hH hn hHl
  go_enter Tryz.func8, Tryz.ntmps8
  go_wp2_with (first
    | ((with_reducible refine gate_builtin (b := .append) (xs := #[.tmp 6, .tmp 11]) rfl ?_); at_builtin; refine Kd.R_append_rows (valK 9) (Rr := (valK 9).K w) (w0 := w) w.heap.size rfl (.tmp 6) (.tmp 11) 22 48 _ 152 rfl Tryz.underlying22 info48 rfl (by decide) (by decide) (.slice (some ⟨w.heap.size, 0, none⟩) 0 0) [] H A n c (fun _ => True) (fun _ => False) rfl rfl (R_none (valK 9) 48 w w.heap.size (Nat.le_refl _)) (by rw [← HN.out]; exact Kd.C_below HCH.out (below_alloc (Below.refl _ _) _)) (fun z cs h => h) (fun _ hk => hk.elim) (fun _ _ => trivial) (below_alloc (Below.refl _ _) _) (by simp) (by simp; omega) ?_; intro v1 w1 r1 b1 _ hob; rw [List.nil_append] at r1; obtain ⟨g1, hg1⟩ : ∃ g1, v1.ownBlock = some g1 := by { rcases hob with h | ⟨b, h, _⟩; exact ⟨_, h⟩; exact ⟨_, h⟩ }; obtain ⟨cap1, e1, hc1⟩ := R_form r1 hg1; rw [HN.out] at e1 hc1; subst e1; have R1 := Aside0.mk r1; have B1 := Aside0.mk b1; clear r1 b1 hob hg1))
  go_loopg [15] 34 (fun gg s15 wr => ∃ kk : Nat, kk ≤ n ∧ n - kk ≤ gg ∧ s15 = .int .i64 kk ∧ Aside ((valK 9).R 48 wr w.heap.size (fun _ => True) (.slice (some ⟨g1, 0, none⟩) n cap1) (mixH H kk)) ∧ Aside (Below w.heap.size w wr))
  case atStart => exact ⟨0, Nat.zero_le _, by omega, rfl, (show Aside _ from by unfold mixH; rw [List.take_zero, List.drop_zero]; exact R1.out), B1.out⟩
  case round =>
    obtain ⟨kk, hkk, hg, rfl, RW, BW⟩ := hrel
    by_cases hlt : kk < n
    · have hltz : (kk : Int) < (n : Int) := by omega
      have hk0 : (0 : Int) ≤ (kk : Int) := by omega
      have hkc : (kk : Int) < (cap1 : Int) := by omega
      have hkl : kk < H.length := by rw [HN.out]; exact hlt
      obtain ⟨x, hxl, hxK⟩ := HKH.out kk hkl
      obtain ⟨cE, hcl, hcM, hcc, hcf⟩ := Kd.R_elem RW.out [] (kk : Int) hk0 hltz
      rw [Int.toNat_natCast] at hcc hcM hcf
      have ecE : cE = H[kk] := by
        rw [hcM.1, List.getD_eq_getElem?_getD, mixH_at H kk hkl]; rfl
      have HCF := Aside0.mk hcf
      have HXK := Aside0.mk hxK
      obtain ⟨A4, c4, A5, c5, A7, c7, A8, c8, eH, l4, m4, l5, m5, l7, m7, l8, m8⟩ := X.k48_open hxK
      rw [ecE, eH] at hcc
      have q0 : wr.cell? ⟨g1, kk * 9, none⟩ = some (.string x.f0) := hcc 0 _ rfl
      have q1 : wr.cell? ⟨g1, kk * 9 + 1, none⟩ = some (.int .i64 x.f1.f0) := hcc 1 _ rfl
      have q2 : wr.cell? ⟨g1, kk * 9 + 2, none⟩ = some (.int .i64 x.f1.f1) := hcc 2 _ rfl
      have q3 : wr.cell? ⟨g1, kk * 9 + 3, none⟩ = some (.int .i64 x.f1.f2) := hcc 3 _ rfl
      have q4 : wr.cell? ⟨g1, kk * 9 + 4, none⟩ = some (.slice A4 x.f1.f3.length c4) := hcc 4 _ rfl
      have q5 : wr.cell? ⟨g1, kk * 9 + 5, none⟩ = some (.slice A5 x.f1.f4.length c5) := hcc 5 _ rfl
      have q6 : wr.cell? ⟨g1, kk * 9 + 6, none⟩ = some (.string x.f1.f5) := hcc 6 _ rfl
      have q7 : wr.cell? ⟨g1, kk * 9 + 7, none⟩ = some (.slice A7 x.f1.f6.length c7) := hcc 7 _ rfl
      have q8 : wr.cell? ⟨g1, kk * 9 + 8, none⟩ = some (.slice A8 x.f1.f7.length c8) := hcc 8 _ rfl
      have HCC := Aside0.mk hcc
      have HEH := Lib.hid eH
      have HXL := Lib.hid hxl
      have h4c : (x.f1.f3.length : Int) ≤ (c4 : Int) := by omega
      have h7c : (x.f1.f6.length : Int) ≤ (c7 : Int) := by omega
      have h8c : (x.f1.f7.length : Int) ≤ (c8 : Int) := by omega
      clear hcc hcf hcl hcM ecE hxK hxl eH l4 m4 l5 m5 l7 m7 l8 m8
      go_upto_region 6 with (fail)
      have b1 := below_alloc (Below.refl wr.heap.size wr) (.cells #[.string x.f0, .int .i64 x.f1.f0, .int .i64 x.f1.f1, .int .i64 x.f1.f2, .slice A4 x.f1.f3.length c4, .slice A5 x.f1.f4.length c5, .string x.f1.f5, .slice A7 x.f1.f6.length c7, .slice A8 x.f1.f7.length c8] 48)
      have b2 := below_alloc b1 (.cells #[.int .i64 x.f1.f0, .int .i64 x.f1.f1, .int .i64 x.f1.f2, .slice A4 x.f1.f3.length c4, .slice A5 x.f1.f4.length c5, .string x.f1.f5, .slice A7 x.f1.f6.length c7, .slice A8 x.f1.f7.length c8] 46)
      have R6 := Aside0.mk (Kd.R_below RW.out b2)
      have B6 := Aside0.mk (below_step BW.out b2)
      have hs1 : (wr.alloc (.cells #[.string x.f0, .int .i64 x.f1.f0, .int .i64 x.f1.f1, .int .i64 x.f1.f2, .slice A4 x.f1.f3.length c4, .slice A5 x.f1.f4.length c5, .string x.f1.f5, .slice A7 x.f1.f6.length c7, .slice A8 x.f1.f7.length c8] 48)).heap.size = wr.heap.size + 1 := by simp
      have hb5 := blk_new (wr.alloc (.cells #[.string x.f0, .int .i64 x.f1.f0, .int .i64 x.f1.f1, .int .i64 x.f1.f2, .slice A4 x.f1.f3.length c4, .slice A5 x.f1.f4.length c5, .string x.f1.f5, .slice A7 x.f1.f6.length c7, .slice A8 x.f1.f7.length c8] 48)) (.cells #[.int .i64 x.f1.f0, .int .i64 x.f1.f1, .int .i64 x.f1.f2, .slice A4 x.f1.f3.length c4, .slice A5 x.f1.f4.length c5, .string x.f1.f5, .slice A7 x.f1.f6.length c7, .slice A8 x.f1.f7.length c8] 46)
      rw [hs1] at hb5
      clear b1 b2 hs1 q0 q1 q2 q3 q4 q5 q6 q7 q8
      generalize (wr.alloc _).alloc _ = W6 at R6 B6 hb5 ⊢
      have HG5 := Aside0.mk (show w.heap.size ≤ wr.heap.size + 1 from Nat.le_succ_of_le BW.out.size)
      generalize wr.heap.size + 1 = g5 at hb5 HG5 ⊢
      have HB5 := Aside0.mk hb5
      clear hb5
      refine law27 (by kernel_rfl) (J6 g5 A4 A7 A8 x.f1.f3.length c4 x.f1.f6.length c7 x.f1.f7.length c8 W6.drew) rfl (of_range (by kernel_rfl)) (fun _ _ _ h => h.sz) ?_ ?_ (fun _ => J6.start)
      · intro listed xx W i o hj ho hn hd
        have hi : i < 27 := (Array.getElem?_eq_some_iff.1 ho).1
        have hn' : listed.getD i false = false := (getD_any (by rw [hj.sz]; exact hi)).symm.trans hn
        obtain rfl | rfl | rfl | rfl | rfl | rfl | rfl | rfl | rfl | rfl | rfl | rfl | rfl | rfl | rfl | rfl | rfl | rfl | rfl | rfl | rfl | rfl | rfl | rfl | rfl | rfl | rfl : i = 0 ∨ i = 1 ∨ i = 2 ∨ i = 3 ∨ i = 4 ∨ i = 5 ∨ i = 6 ∨ i = 7 ∨ i = 8 ∨ i = 9 ∨ i = 10 ∨ i = 11 ∨ i = 12 ∨ i = 13 ∨ i = 14 ∨ i = 15 ∨ i = 16 ∨ i = 17 ∨ i = 18 ∨ i = 19 ∨ i = 20 ∨ i = 21 ∨ i = 22 ∨ i = 23 ∨ i = 24 ∨ i = 25 ∨ i = 26 := by omega
        · obtain rfl := Option.some.inj ho
          refine wpOp_of rfl rfl ?_
          refine step_value (.pointer (some ⟨g5, 6, none⟩)) (by go_simp) ?_
          exact ⟨_, rfl, hj.next 0 (by decide) (by decide) (by decide) (by decide)⟩
        · obtain rfl := Option.some.inj ho
          have d0 : xx 22 = .pointer (some ⟨g5, 6, none⟩) := hj.v 0 (by decide) (by decide) (by decide) (by decide) (hd { on := 0, ground := .data } (by simp) rfl)
          have h22 : listed.getD 22 false = false := by
            cases e : listed.getD 22 false with
            | false => rfl
            | true =>
              have hl := (hj.l e).1
              rw [hl] at hn'
              exact absurd hn' (by decide)
          obtain rfl := hj.early h22
          have hc : W6.drew.cell? ⟨g5, 6, none⟩ = some (.slice A7 x.f1.f6.length c7) := cell_of_block (W := W6.drew) HB5.out 6 _ rfl
          refine wpOp_of rfl rfl ?_
          refine step_value (.slice A7 x.f1.f6.length c7) (by rw [d0]; go_simp) ?_
          exact ⟨_, rfl, hj.next 1 (by decide) (by decide) (by decide) (by decide)⟩
        · obtain rfl := Option.some.inj ho
          refine wpOp_of rfl rfl ?_
          refine step_value (.pointer (some ⟨g5, 6, none⟩)) (by go_simp) ?_
          exact ⟨_, rfl, hj.next 2 (by decide) (by decide) (by decide) (by decide)⟩
        · obtain rfl := Option.some.inj ho
          have d2 : xx 24 = .pointer (some ⟨g5, 6, none⟩) := hj.v 2 (by decide) (by decide) (by decide) (by decide) (hd { on := 2, ground := .data } (by simp) rfl)
          have h22 : listed.getD 22 false = false := by
            cases e : listed.getD 22 false with
            | false => rfl
            | true =>
              have hl := (hj.l e).2.1
              rw [hl] at hn'
              exact absurd hn' (by decide)
          obtain rfl := hj.early h22
          have hc : W6.drew.cell? ⟨g5, 6, none⟩ = some (.slice A7 x.f1.f6.length c7) := cell_of_block (W := W6.drew) HB5.out 6 _ rfl
          refine wpOp_of rfl rfl ?_
          refine step_value (.slice A7 x.f1.f6.length c7) (by rw [d2]; go_simp) ?_
          exact ⟨_, rfl, hj.next 3 (by decide) (by decide) (by decide) (by decide)⟩
        · obtain rfl := Option.some.inj ho
          have d3 : xx 25 = .slice A7 x.f1.f6.length c7 := hj.v 3 (by decide) (by decide) (by decide) (by decide) (hd { on := 3, ground := .data } (by simp) rfl)
          refine wpOp_of rfl rfl ?_
          refine step_value (.int .i64 x.f1.f6.length) (by rw [d3]; go_simp) ?_
          exact ⟨_, rfl, hj.next 4 (by decide) (by decide) (by decide) (by decide)⟩
        · obtain rfl := Option.some.inj ho
          have d4 : xx 26 = .int .i64 x.f1.f6.length := hj.v 4 (by decide) (by decide) (by decide) (by decide) (hd { on := 4, ground := .data } (by simp) rfl)
          refine wpOp_of rfl rfl ?_
          refine step_value (.int .i64 (min (x.f1.f6.length : Int) 34)) (by rw [d4]; go_simp) ?_
          exact ⟨_, rfl, hj.next 5 (by decide) (by decide) (by decide) (by decide)⟩
        · obtain rfl := Option.some.inj ho
          have d1 : xx 23 = .slice A7 x.f1.f6.length c7 := hj.v 1 (by decide) (by decide) (by decide) (by decide) (hd { on := 1, ground := .data } (by simp) rfl)
          have d5 : xx 27 = .int .i64 (min (x.f1.f6.length : Int) 34) := hj.v 5 (by decide) (by decide) (by decide) (by decide) (hd { on := 5, ground := .data } (by simp) rfl)
          refine wpOp_of rfl rfl ?_
          refine step_value (.slice A7 (min x.f1.f6.length 34) c7) (by rw [d1, d5]; go_simp; rw [if_pos ⟨by omega, by omega⟩, show (min (x.f1.f6.length : Int) 34).toNat = min x.f1.f6.length 34 from by omega]) ?_
          exact ⟨_, rfl, hj.next 6 (by decide) (by decide) (by decide) (by decide)⟩
        · obtain rfl := Option.some.inj ho
          refine wpOp_of rfl rfl ?_
          refine step_value (.pointer (some ⟨g5, 7, none⟩)) (by go_simp) ?_
          exact ⟨_, rfl, hj.next 7 (by decide) (by decide) (by decide) (by decide)⟩
        · obtain rfl := Option.some.inj ho
          have d7 : xx 29 = .pointer (some ⟨g5, 7, none⟩) := hj.v 7 (by decide) (by decide) (by decide) (by decide) (hd { on := 7, ground := .data } (by simp) rfl)
          have h22 : listed.getD 22 false = false := by
            cases e : listed.getD 22 false with
            | false => rfl
            | true =>
              have hl := (hj.l e).2.2.1
              rw [hl] at hn'
              exact absurd hn' (by decide)
          obtain rfl := hj.early h22
          have hc : W6.drew.cell? ⟨g5, 7, none⟩ = some (.slice A8 x.f1.f7.length c8) := cell_of_block (W := W6.drew) HB5.out 7 _ rfl
          refine wpOp_of rfl rfl ?_
          refine step_value (.slice A8 x.f1.f7.length c8) (by rw [d7]; go_simp) ?_
          exact ⟨_, rfl, hj.next 8 (by decide) (by decide) (by decide) (by decide)⟩
        · obtain rfl := Option.some.inj ho
          refine wpOp_of rfl rfl ?_
          refine step_value (.pointer (some ⟨g5, 7, none⟩)) (by go_simp) ?_
          exact ⟨_, rfl, hj.next 9 (by decide) (by decide) (by decide) (by decide)⟩
        · obtain rfl := Option.some.inj ho
          have d9 : xx 31 = .pointer (some ⟨g5, 7, none⟩) := hj.v 9 (by decide) (by decide) (by decide) (by decide) (hd { on := 9, ground := .data } (by simp) rfl)
          have h22 : listed.getD 22 false = false := by
            cases e : listed.getD 22 false with
            | false => rfl
            | true =>
              have hl := (hj.l e).2.2.2.1
              rw [hl] at hn'
              exact absurd hn' (by decide)
          obtain rfl := hj.early h22
          have hc : W6.drew.cell? ⟨g5, 7, none⟩ = some (.slice A8 x.f1.f7.length c8) := cell_of_block (W := W6.drew) HB5.out 7 _ rfl
          refine wpOp_of rfl rfl ?_
          refine step_value (.slice A8 x.f1.f7.length c8) (by rw [d9]; go_simp) ?_
          exact ⟨_, rfl, hj.next 10 (by decide) (by decide) (by decide) (by decide)⟩
        · obtain rfl := Option.some.inj ho
          have d10 : xx 32 = .slice A8 x.f1.f7.length c8 := hj.v 10 (by decide) (by decide) (by decide) (by decide) (hd { on := 10, ground := .data } (by simp) rfl)
          refine wpOp_of rfl rfl ?_
          refine step_value (.int .i64 x.f1.f7.length) (by rw [d10]; go_simp) ?_
          exact ⟨_, rfl, hj.next 11 (by decide) (by decide) (by decide) (by decide)⟩
        · obtain rfl := Option.some.inj ho
          have d11 : xx 33 = .int .i64 x.f1.f7.length := hj.v 11 (by decide) (by decide) (by decide) (by decide) (hd { on := 11, ground := .data } (by simp) rfl)
          refine wpOp_of rfl rfl ?_
          refine step_value (.int .i64 (min (x.f1.f7.length : Int) 18)) (by rw [d11]; go_simp) ?_
          exact ⟨_, rfl, hj.next 12 (by decide) (by decide) (by decide) (by decide)⟩
        · obtain rfl := Option.some.inj ho
          have d8 : xx 30 = .slice A8 x.f1.f7.length c8 := hj.v 8 (by decide) (by decide) (by decide) (by decide) (hd { on := 8, ground := .data } (by simp) rfl)
          have d12 : xx 34 = .int .i64 (min (x.f1.f7.length : Int) 18) := hj.v 12 (by decide) (by decide) (by decide) (by decide) (hd { on := 12, ground := .data } (by simp) rfl)
          refine wpOp_of rfl rfl ?_
          refine step_value (.slice A8 (min x.f1.f7.length 18) c8) (by rw [d8, d12]; go_simp; rw [if_pos ⟨by omega, by omega⟩, show (min (x.f1.f7.length : Int) 18).toNat = min x.f1.f7.length 18 from by omega]) ?_
          exact ⟨_, rfl, hj.next 13 (by decide) (by decide) (by decide) (by decide)⟩
        · obtain rfl := Option.some.inj ho
          refine wpOp_of rfl rfl ?_
          refine step_value (.pointer (some ⟨g5, 3, none⟩)) (by go_simp) ?_
          exact ⟨_, rfl, hj.next 14 (by decide) (by decide) (by decide) (by decide)⟩
        · obtain rfl := Option.some.inj ho
          have d14 : xx 36 = .pointer (some ⟨g5, 3, none⟩) := hj.v 14 (by decide) (by decide) (by decide) (by decide) (hd { on := 14, ground := .data } (by simp) rfl)
          have h22 : listed.getD 22 false = false := by
            cases e : listed.getD 22 false with
            | false => rfl
            | true =>
              have hl := (hj.l e).2.2.2.2.1
              rw [hl] at hn'
              exact absurd hn' (by decide)
          obtain rfl := hj.early h22
          have hc : W6.drew.cell? ⟨g5, 3, none⟩ = some (.slice A4 x.f1.f3.length c4) := cell_of_block (W := W6.drew) HB5.out 3 _ rfl
          refine wpOp_of rfl rfl ?_
          refine step_value (.slice A4 x.f1.f3.length c4) (by rw [d14]; go_simp) ?_
          exact ⟨_, rfl, hj.next 15 (by decide) (by decide) (by decide) (by decide)⟩
        · obtain rfl := Option.some.inj ho
          refine wpOp_of rfl rfl ?_
          refine step_value (.pointer (some ⟨g5, 3, none⟩)) (by go_simp) ?_
          exact ⟨_, rfl, hj.next 16 (by decide) (by decide) (by decide) (by decide)⟩
        · obtain rfl := Option.some.inj ho
          have d16 : xx 38 = .pointer (some ⟨g5, 3, none⟩) := hj.v 16 (by decide) (by decide) (by decide) (by decide) (hd { on := 16, ground := .data } (by simp) rfl)
          have h22 : listed.getD 22 false = false := by
            cases e : listed.getD 22 false with
            | false => rfl
            | true =>
              have hl := (hj.l e).2.2.2.2.2
              rw [hl] at hn'
              exact absurd hn' (by decide)
          obtain rfl := hj.early h22
          have hc : W6.drew.cell? ⟨g5, 3, none⟩ = some (.slice A4 x.f1.f3.length c4) := cell_of_block (W := W6.drew) HB5.out 3 _ rfl
          refine wpOp_of rfl rfl ?_
          refine step_value (.slice A4 x.f1.f3.length c4) (by rw [d16]; go_simp) ?_
          exact ⟨_, rfl, hj.next 17 (by decide) (by decide) (by decide) (by decide)⟩
        · obtain rfl := Option.some.inj ho
          have d17 : xx 39 = .slice A4 x.f1.f3.length c4 := hj.v 17 (by decide) (by decide) (by decide) (by decide) (hd { on := 17, ground := .data } (by simp) rfl)
          refine wpOp_of rfl rfl ?_
          refine step_value (.int .i64 x.f1.f3.length) (by rw [d17]; go_simp) ?_
          exact ⟨_, rfl, hj.next 18 (by decide) (by decide) (by decide) (by decide)⟩
        · obtain rfl := Option.some.inj ho
          have d18 : xx 40 = .int .i64 x.f1.f3.length := hj.v 18 (by decide) (by decide) (by decide) (by decide) (hd { on := 18, ground := .data } (by simp) rfl)
          refine wpOp_of rfl rfl ?_
          refine step_value (.int .i64 (min (x.f1.f3.length : Int) 18)) (by rw [d18]; go_simp) ?_
          exact ⟨_, rfl, hj.next 19 (by decide) (by decide) (by decide) (by decide)⟩
        · obtain rfl := Option.some.inj ho
          have d15 : xx 37 = .slice A4 x.f1.f3.length c4 := hj.v 15 (by decide) (by decide) (by decide) (by decide) (hd { on := 15, ground := .data } (by simp) rfl)
          have d19 : xx 41 = .int .i64 (min (x.f1.f3.length : Int) 18) := hj.v 19 (by decide) (by decide) (by decide) (by decide) (hd { on := 19, ground := .data } (by simp) rfl)
          refine wpOp_of rfl rfl ?_
          refine step_value (.slice A4 (min x.f1.f3.length 18) c4) (by rw [d15, d19]; go_simp; rw [if_pos ⟨by omega, by omega⟩, show (min (x.f1.f3.length : Int) 18).toNat = min x.f1.f3.length 18 from by omega]) ?_
          exact ⟨_, rfl, hj.next 20 (by decide) (by decide) (by decide) (by decide)⟩
        · obtain rfl := Option.some.inj ho
          refine wpOp_of rfl rfl ?_
          refine step_value (.pointer (some ⟨g5, 6, none⟩)) (by go_simp) ?_
          exact ⟨_, rfl, hj.next 21 (by decide) (by decide) (by decide) (by decide)⟩
        · obtain rfl := Option.some.inj ho
          have d21 : xx 43 = .pointer (some ⟨g5, 6, none⟩) := hj.v 21 (by decide) (by decide) (by decide) (by decide) (hd { on := 21, ground := .data } (by simp) rfl)
          have d6 : xx 28 = .slice A7 (min x.f1.f6.length 34) c7 := hj.v 6 (by decide) (by decide) (by decide) (by decide) (hd { on := 6, ground := .data } (by simp) rfl)
          refine wpOp_of rfl rfl ?_
          obtain ⟨v3, v6, v7, hb⟩ := hj.block (u0 := .int .i64 x.f1.f0) (u1 := .int .i64 x.f1.f1) (u2 := .int .i64 x.f1.f2) (u4 := .slice A5 x.f1.f4.length c5) (u5 := .string x.f1.f5) HB5.out
          have hc := cell_of_block hb 6 _ rfl
          have hf := free_of_block hb 6
          refine step_skip (w' := W.setCell ⟨g5, 6, none⟩ (.slice A7 (min x.f1.f6.length 34) c7)) (by rw [d21, d6]; go_simp) ?_
          exact ⟨xx, rfl, hj.store22 hn' ⟨hd { on := 1, ground := .phase } (by simp) rfl, hd { on := 3, ground := .phase } (by simp) rfl, hd { on := 8, ground := .phase } (by simp) rfl, hd { on := 10, ground := .phase } (by simp) rfl, hd { on := 15, ground := .phase } (by simp) rfl, hd { on := 17, ground := .phase } (by simp) rfl⟩⟩
        · obtain rfl := Option.some.inj ho
          refine wpOp_of rfl rfl ?_
          refine step_value (.pointer (some ⟨g5, 7, none⟩)) (by go_simp) ?_
          exact ⟨_, rfl, hj.next 23 (by decide) (by decide) (by decide) (by decide)⟩
        · obtain rfl := Option.some.inj ho
          have d23 : xx 44 = .pointer (some ⟨g5, 7, none⟩) := hj.v 23 (by decide) (by decide) (by decide) (by decide) (hd { on := 23, ground := .data } (by simp) rfl)
          have d13 : xx 35 = .slice A8 (min x.f1.f7.length 18) c8 := hj.v 13 (by decide) (by decide) (by decide) (by decide) (hd { on := 13, ground := .data } (by simp) rfl)
          refine wpOp_of rfl rfl ?_
          obtain ⟨v3, v6, v7, hb⟩ := hj.block (u0 := .int .i64 x.f1.f0) (u1 := .int .i64 x.f1.f1) (u2 := .int .i64 x.f1.f2) (u4 := .slice A5 x.f1.f4.length c5) (u5 := .string x.f1.f5) HB5.out
          have hc := cell_of_block hb 7 _ rfl
          have hf := free_of_block hb 7
          refine step_skip (w' := W.setCell ⟨g5, 7, none⟩ (.slice A8 (min x.f1.f7.length 18) c8)) (by rw [d23, d13]; go_simp) ?_
          exact ⟨xx, rfl, hj.store24 hn' (hd { on := 22, ground := .chain } (by simp) rfl)⟩
        · obtain rfl := Option.some.inj ho
          refine wpOp_of rfl rfl ?_
          refine step_value (.pointer (some ⟨g5, 3, none⟩)) (by go_simp) ?_
          exact ⟨_, rfl, hj.next 25 (by decide) (by decide) (by decide) (by decide)⟩
        · obtain rfl := Option.some.inj ho
          have d25 : xx 45 = .pointer (some ⟨g5, 3, none⟩) := hj.v 25 (by decide) (by decide) (by decide) (by decide) (hd { on := 25, ground := .data } (by simp) rfl)
          have d20 : xx 42 = .slice A4 (min x.f1.f3.length 18) c4 := hj.v 20 (by decide) (by decide) (by decide) (by decide) (hd { on := 20, ground := .data } (by simp) rfl)
          refine wpOp_of rfl rfl ?_
          obtain ⟨v3, v6, v7, hb⟩ := hj.block (u0 := .int .i64 x.f1.f0) (u1 := .int .i64 x.f1.f1) (u2 := .int .i64 x.f1.f2) (u4 := .slice A5 x.f1.f4.length c5) (u5 := .string x.f1.f5) HB5.out
          have hc := cell_of_block hb 3 _ rfl
          have hf := free_of_block hb 3
          refine step_skip (w' := W.setCell ⟨g5, 3, none⟩ (.slice A4 (min x.f1.f3.length 18) c4)) (by rw [d25, d20]; go_simp) ?_
          exact ⟨xx, rfl, hj.store26 hn' (hd { on := 24, ground := .chain } (by simp) rfl)⟩
      · intro listed xx W hj hall
        have e22 : listed.getD 22 false = true := (getD_any (by rw [hj.sz]; decide)).symm.trans (hall 22 (by decide))
        have e24 : listed.getD 24 false = true := (getD_any (by rw [hj.sz]; decide)).symm.trans (hall 24 (by decide))
        have e26 : listed.getD 26 false = true := (getD_any (by rw [hj.sz]; decide)).symm.trans (hall 26 (by decide))
        have hm := hj.m
        rw [e22, e24, e26] at hm
        clear hj hall e22 e24 e26
        have h0 : W6.drew.heap[g5]? = some (.cells #[.int .i64 x.f1.f0, .int .i64 x.f1.f1, .int .i64 x.f1.f2, .slice A4 x.f1.f3.length c4, .slice A5 x.f1.f4.length c5, .string x.f1.f5, .slice A7 x.f1.f6.length c7, .slice A8 x.f1.f7.length c8] 46 (0, 0)) := HB5.out
        have h1 := blk_put h0 6 (.slice A7 (min x.f1.f6.length 34) c7) rfl
        have h2 := blk_put h1 7 (.slice A8 (min x.f1.f7.length 18) c8) rfl
        have h3 := blk_put (cs' := #[.int .i64 x.f1.f0, .int .i64 x.f1.f1, .int .i64 x.f1.f2, .slice A4 (min x.f1.f3.length 18) c4, .slice A5 x.f1.f4.length c5, .string x.f1.f5, .slice A7 (min x.f1.f6.length 34) c7, .slice A8 (min x.f1.f7.length 18) c8]) h2 3 (.slice A4 (min x.f1.f3.length 18) c4) rfl
        have r0 : (valK 9).R 48 W6.drew w.heap.size (fun _ => True) (.slice (some ⟨g1, 0, none⟩) n cap1) (mixH H kk) := Kd.R_below R6.out (below_drew (Below.refl _ _))
        have r1 := Kd.R_set r0 h0 (by decide) 6 (.slice A7 (min x.f1.f6.length 34) c7)
        have r2 := Kd.R_set r1 h1 (by decide) 7 (.slice A8 (min x.f1.f7.length 18) c8)
        have r3 := Kd.R_set r2 h2 (by decide) 3 (.slice A4 (min x.f1.f3.length 18) c4)
        have hge : w.heap.size ≤ g5 := HG5.out
        have b3 := below_set (j := 3) (v := .slice A4 (min x.f1.f3.length 18) c4) (below_set (j := 7) (v := .slice A8 (min x.f1.f7.length 18) c8) (below_set (j := 6) (v := .slice A7 (min x.f1.f6.length 34) c7) (below_drew B6.out) hge) hge) hge
        have hW : W = (((W6.drew.setCell ⟨g5, 6, none⟩ (.slice A7 (min x.f1.f6.length 34) c7)).setCell ⟨g5, 7, none⟩ (.slice A8 (min x.f1.f7.length 18) c8)).setCell ⟨g5, 3, none⟩ (.slice A4 (min x.f1.f3.length 18) c4)) := hm
        rw [← hW] at h3 r3 b3
        clear hm hW h0 h1 h2 r0 r1 r2 hge
        have k0 := cell_of_block h3 0 (.int .i64 x.f1.f0) rfl
        have k1 := cell_of_block h3 1 (.int .i64 x.f1.f1) rfl
        have k2 := cell_of_block h3 2 (.int .i64 x.f1.f2) rfl
        have k3 := cell_of_block h3 3 (.slice A4 (min x.f1.f3.length 18) c4) rfl
        have k4 := cell_of_block h3 4 (.slice A5 x.f1.f4.length c5) rfl
        have k5 := cell_of_block h3 5 (.string x.f1.f5) rfl
        have k6 := cell_of_block h3 6 (.slice A7 (min x.f1.f6.length 34) c7) rfl
        have k7 := cell_of_block h3 7 (.slice A8 (min x.f1.f7.length 18) c8) rfl
        obtain ⟨cE, hcl, hcM, hcc, hcf⟩ := Kd.R_elem r3 [] (kk : Int) hk0 hltz
        have ecE : cE = [.string x.f0, .int .i64 x.f1.f0, .int .i64 x.f1.f1, .int .i64 x.f1.f2, .slice A4 x.f1.f3.length c4, .slice A5 x.f1.f4.length c5, .string x.f1.f5, .slice A7 x.f1.f6.length c7, .slice A8 x.f1.f7.length c8] := by
          rw [hcM.1, Int.toNat_natCast, List.getD_eq_getElem?_getD, mixH_at H kk hkl]; exact HEH.out
        subst ecE
        have R7 := Aside0.mk r3
        have B7 := Aside0.mk b3
        have HCC := Aside0.mk hcc
        clear r3 b3 hcl hcM hcc hcf h3 HB5
        go_wp2_with (first
          | ((with_reducible refine gate_store (t := 46) (p := 50) (v := .tmp 48) rfl ?_); go_loud (refine Kd.R_store (valK 9) (w0 := w) w.heap.size rfl rfl 46 _ _ rfl 48 (kk : Int) 1 (mixH H kk) (cutH H[kk]) (.agg #[.int .i64 x.f1.f0, .int .i64 x.f1.f1, .int .i64 x.f1.f2, .slice A4 (min x.f1.f3.length 18) c4, .slice A5 x.f1.f4.length c5, .string x.f1.f5, .slice A7 (min x.f1.f6.length 34) c7, .slice A8 (min x.f1.f7.length 18) c8]) (#[.int .i64 x.f1.f0, .int .i64 x.f1.f1, .int .i64 x.f1.f2, .slice A4 (min x.f1.f3.length 18) c4, .slice A5 x.f1.f4.length c5, .string x.f1.f5, .slice A7 (min x.f1.f6.length 34) c7, .slice A8 (min x.f1.f7.length 18) c8] : Array Value).toList [.string x.f0, .int .i64 x.f1.f0, .int .i64 x.f1.f1, .int .i64 x.f1.f2, .slice A4 x.f1.f3.length c4, .slice A5 x.f1.f4.length c5, .string x.f1.f5, .slice A7 x.f1.f6.length c7, .slice A8 x.f1.f7.length c8] (fun _ => True) (fun _ => False) rfl (by rw [Int.toNat_natCast]; rfl) rfl rfl (by kernel_rfl) (by simp [Value.oneCell']) R7.out hk0 hltz rfl HCC.out (Nat.le_refl 9) ⟨by rw [HEH.out]; rfl, by rw [HEH.out]; rfl, by rw [HEH.out]; simp [cutH, cutV, Value.oneCell']⟩ (fun _ hk => hk.elim) B7.out ?_); intro w8 r8 b8 _; rw [Int.toNat_natCast, mixH_succ H kk hkl] at r8; have R8 := Aside0.mk r8; have B8 := Aside0.mk b8; clear r8 b8))
        go_roundg (n - (kk + 1))
        case measure => omega
        case rel => exact ⟨kk + 1, by omega, by omega, by go_num, R8.out, B8.out⟩
    · have hltz : ¬ (kk : Int) < (n : Int) := by omega
      have ek : kk = n := by omega
      go_wp2
      go_ret
      have hfl : (fewS l).length = n := by unfold fewS; rw [List.length_map, List.length_take, HHL.out]; omega
      have r := RW.out
      rw [ek, ← HN.out, mixH_all] at r
      obtain ⟨A', c', e, hl, hC⟩ := Kd.R_reads r
      rw [List.length_map, HN.out] at e hl
      injection e with e1 e2 e3
      subst e1; subst e3
      have hC2 : (valK 9).C wr (some ⟨g1, 0, none⟩) n (H.map cutH) := by
        have h := hC
        rw [List.length_map, HN.out] at h
        exact h
      unfold FewOut
      refine ⟨some ⟨g1, 0, none⟩, cap1, H.map cutH, by rw [hfl]; rfl, by rw [hfl]; exact hl, by rw [hfl]; exact hC2, ⟨by rw [List.length_map, HN.out, hfl], fun j c y hj hy => ?_⟩, BW.out⟩
      have hjl : j < H.length := by have := (List.getElem?_eq_some_iff.1 hj).1; rwa [List.length_map] at this
      obtain ⟨x0, hx0, hK0⟩ := HKH.out j hjl
      have ec : c = cutH H[j] := by
        rw [List.getElem?_map, List.getElem?_eq_getElem hjl] at hj
        exact (Option.some.inj hj).symm
      have ey : y = cutS x0 := by
        unfold fewS at hy
        rw [List.getElem?_map, hx0] at hy
        exact (Option.some.inj hy).symm
      rw [ec, ey]
      exact cutH_K hK0
end Go.Proofs.YtgcflmhlegagbaaGreatDoor.E
end
section
set_option linter.unusedVariables false
set_option linter.unusedSimpArgs false
namespace Go.Proofs.YtgcflmhlegagbaaGreatDoor.E
open Go.RowKit Go.Lib Go.Shelf Go.Proofs.YtgcflmhlegagbaaGreatDoorW.PrintWords Go.Proofs.YtgcflmhlegagbaaGreatDoorW.PrintLast Go.Proofs.YtgcflmhlegagbaaGreatDoorW.PrintMore
open X (S25 k25 z25 S28 k28 S53 k53 S70 k70 S46 S48 k48 z48 rd_T48 at_T48)
attribute [local irreducible] heldOk
set_option maxHeartbeats 8000000 in
set_option maxRecDepth 100000 in
theorem Walk_ok (path : ByteArray) (A : Option Addr) (c : Nat) (l : List S48) (w : World) (ht : Tabs w) (hA : Kd.C k48 w A l.length l) (hlc : l.length ≤ c) (hp : G.right false path.data.toList = true) (hr : heldOk l = true) :
    Calls Tryz.prog 9 #[.string path, .slice A l.length c] w fun e w' => ∃ cs, e = .returned (.tuple #[.agg cs, .int .i64 0]) ∧ WalkIs w' cs (walkS path l [first] []) ∧ Below w.heap.size w w' := by
  have HP_ := fun W => Path_all path W
  have hu31 := Tryz.underlying31
  have HR := fun W (hb : Below w.heap.size w W) => Held_any A c l W (ht.below hb) (Kd.C_below hA hb) hlc
  have HA := Aside0.mk hA
  have h32 := heldOk_len hr
  have hr0 := Aside0.mk hr
  have hp0 := Aside0.mk (path_short hp)
  have HNM := Aside0.mk (fun (k : Nat) (hk : k < l.length) => show l[k].f0.size ≤ 32 from by
    have h1 := heldOk_at hr k hk
    unfold heldAt Nm.nameOk at h1
    simp only [Bool.and_eq_true, decide_eq_true_eq] at h1
    simpa using h1.1.1.1.1.2)
  have HLB := Aside0.mk (fun nm => lastBy_heldBy l nm (heldOk_unlike hr))
  rw [hp] at HP_
  rw [hr] at HR
  have hmm := @run_makeMap Tryz.prog
  clear hp hr hA
  go_enter Tryz.func9, Tryz.ntmps9
  go_wp2_with (first
      | ((with_reducible refine gate_dst (N := 4) rfl ?_); refine box_event ?hg (N := 4) ?hd (cs := noCells) (t := 31) ?hr ?_; (case hd => rfl); (case hg => rfl); (case hr => first | (go_simp; done) | (go_simp; rfl)); intro g4 eg4 Wg4 hxg4 hbg4; have mp : Wg4.cell? ⟨w.heap.size, 0, none⟩ = some (.string path) := (hbg4.cell (by simp)).trans (by simp); have HP := Aside0.mk (show Rs4 w g4 noCells Wg4 from ⟨below_step (below_alloc (Below.refl _ _) _) hbg4, hxg4, by simp at eg4; omega⟩); clear hxg4 hbg4 eg4)
      | (go_at_call 18; (with_reducible refine (HP_ _).mono ?_); rintro e w2 ⟨rfl, hb2⟩; have n0_ := Aside0.mk (HP.out.step hb2); clear HP; have HP := n0_; clear n0_; have mp2 := (hb2.cell (World.block_lt_of_cell? _ _ mp)).trans mp; clear mp hb2)
      | (go_at_call 11; (with_reducible refine (HR _ HP.out.hb).mono ?_); rintro e w3 ⟨rfl, hb3⟩; have n0_ := Aside0.mk (HP.out.step hb3); clear HP; have HP := n0_; clear n0_; have mp := (hb3.cell (World.block_lt_of_cell? _ _ mp2)).trans mp2; clear mp2 hb3))
  have HL := Aside0.mk (L1.made HP.out mp)
  clear mp HP
  have K := Maps.string_keyed Tryz.underlying9
  go_loopg [29] l.length (fun gg s29 wr => ∃ kk : Nat, kk ≤ l.length ∧ l.length - kk ≤ gg ∧ s29 = .int .i64 kk ∧ Aside (L1 w g4 w3.heap.size path (l.take kk) wr))
  case atStart => exact ⟨0, Nat.zero_le _, by omega, rfl, (show Aside _ from by rw [List.take_zero]; exact HL.out)⟩
  case round =>
    obtain ⟨kk, hkk, hg, rfl, HL1⟩ := hrel
    by_cases hlt : kk < l.length
    · have hltz : (kk : Int) < (l.length : Int) := by omega
      obtain ⟨ad, a4, k4, a5, k5, a7, k7, a8, k8, rfl, c0, c1, c2, c3, c4, c5, c6, c7, c8, l4, q4, l5, q5, l7, q7, l8, q8⟩ := at_T48 HA.out (kk : Int) (by omega) (by omega)
      have er : rd_T48 l kk = l.getD kk z48 := by unfold rd_T48; rw [Int.toNat_natCast]
      obtain ⟨x, hx⟩ : ∃ x, l.getD kk z48 = x := ⟨_, rfl⟩
      rw [er, hx, Int.toNat_natCast] at c0 c1 c2 c3 c4 c5 c6 c7 c8
      rw [er, hx] at l4 q4 l5 q5 l7 q7 l8 q8
      have BW := Aside0.mk HL1.out.rs.hb
      replace c0 := (BW.out.cell (World.block_lt_of_cell? w _ c0)).trans c0
      replace c1 := (BW.out.cell (World.block_lt_of_cell? w _ c1)).trans c1
      replace c2 := (BW.out.cell (World.block_lt_of_cell? w _ c2)).trans c2
      replace c3 := (BW.out.cell (World.block_lt_of_cell? w _ c3)).trans c3
      replace c4 := (BW.out.cell (World.block_lt_of_cell? w _ c4)).trans c4
      replace c5 := (BW.out.cell (World.block_lt_of_cell? w _ c5)).trans c5
      replace c6 := (BW.out.cell (World.block_lt_of_cell? w _ c6)).trans c6
      replace c7 := (BW.out.cell (World.block_lt_of_cell? w _ c7)).trans c7
      replace c8 := (BW.out.cell (World.block_lt_of_cell? w _ c8)).trans c8
      have hMI : MetaIs w (.agg #[.int .i64 x.f1.f0, .int .i64 x.f1.f1, .int .i64 x.f1.f2, .slice a4 x.f1.f3.length k4, .slice a5 x.f1.f4.length k5, .string x.f1.f5, .slice a7 x.f1.f6.length k7, .slice a8 x.f1.f7.length k8]) x.f1 :=
        ⟨a4, k4, a5, k5, a7, k7, a8, k8, rfl, l4, q4, l5, q5, l7, q7, l8, q8⟩
      have HMI := Aside0.mk hMI
      have HX := Lib.hid hx
      clear hMI hx er q4 q5 q7 q8
      have HS := Aside0.mk (HL1.out.step (below_alloc (Below.refl wr.heap.size wr) (.cells #[.string x.f0, .int .i64 x.f1.f0, .int .i64 x.f1.f1, .int .i64 x.f1.f2, .slice a4 x.f1.f3.length k4, .slice a5 x.f1.f4.length k5, .string x.f1.f5, .slice a7 x.f1.f6.length k7, .slice a8 x.f1.f7.length k8] 48)))
      obtain ⟨ps, hps1, hps2, hps3⟩ := HS.out.hv
      have hxg : x = l[kk] := by rw [← HX.out, List.getD_eq_getElem?_getD, List.getElem?_eq_getElem hlt]; rfl
      have hsz : x.f0.size ≤ 9223372036854775807 := by have := HNM.out kk hlt; rw [← hxg] at this; omega
      have hpl := List.length_take_le kk l
      have HXG := Lib.hid hxg
      clear hxg
      go_wp2_with (first
        | (at_mapUpdate; refine wpList_mapUpdate_own _ rfl _ _ _ 41 rfl 9 46 K Tryz.underlying41 selfR w3.heap.size ps.length (putAll ps) rfl hps1 (by unfold maxLen; omega) _ _ (.string x.f0.data.toList) rfl rfl (key_str x.f0 hsz) (.held _) [] rfl ?_; intro w5 ho hgr; have HP5 := Aside0.mk (HS.out.put hps2 hps3 ho hgr HMI.out); clear ho hgr))
      go_roundg (l.length - (kk + 1))
      case measure => omega
      case rel => exact ⟨kk + 1, by omega, by omega, by go_num, (show Aside _ from by rw [List.take_succ_eq_append_getElem hlt, ← HXG.out]; exact HP5.out)⟩
    · have hltz : ¬ (kk : Int) < (l.length : Int) := by omega
      obtain ⟨ps, hps1, hps2, hps3⟩ := HL1.out.hv
      have ek : l.take kk = l := List.take_of_length_le (by omega)
      rw [ek] at hps2
      have H2 := Aside0.mk (L2.made HL1.out hps1)
      have HPS := Aside0.mk hps2
      clear hps1 hps2 hps3 ek
      go_wp2
      change Code.wp _ _ _ _ (secondWorld wr)
      generalize secondWorld wr = W0 at H2 ⊢
      generalize wr.heap.size = g9 at H2 ⊢
      have hrow0 := first_row w
      go_loopg [10] 641 (fun gg s10 wr2 => ∃ (seen : List ByteArray) (prow : List PAsk) (row : List Ask) (Ar : Option Addr) (cr : Nat) (sv : Value), (32 - seen.length) * 20 + prow.length ≤ gg ∧ s10 = .slice Ar row.length cr ∧ row.length ≤ cr ∧ seen.length ≤ 32 ∧ prow.length ≤ 1 + 16 * seen.length ∧
        Aside (L2 w (g9 + 2) g4 w3.heap.size g9 path ps (workCells sv) sv seen Ar row wr2) ∧ Aside (RowIs w row prow) ∧ Aside (∀ p ∈ prow, p.nm.size ≤ 32) ∧ Aside (walkS path l [first] [] = walkS path l prow seen))
      case atStart =>
        exact ⟨[], [first], [firstAsk], _, 1, _, by simp, rfl, by simp, by simp, by simp, H2.out, hrow0, (show Aside _ from by intro p hp; rw [List.mem_singleton] at hp; subst hp; decide), (show Aside _ from rfl)⟩
      case round =>
        obtain ⟨seen, prow, row, Ar, cr, sv, hg2, rfl, hrc, hs32, hpr, M2, RP, PN, EW⟩ := hrel
        clear hrow0 H2
        have hlr := RP.out.len
        obtain ⟨As, cs, esv, hsl, hsC⟩ := Kd.R_reads M2.out.sr
        subst esv
        have f6 := cell_of_block M2.out.h9 6 (.slice As seen.length cs) rfl
        rcases prow with _ | ⟨p, u⟩
        · have e : row = [] := RP.out.nil_iff.2 rfl
          subst e
          have EW2 := EW.out
          rw [walkS_nil] at EW2
          have HEW := Aside0.mk EW2
          clear EW2
          have M3 := Aside0.mk M2.out.done
          have f0 := cell_of_block M2.out.h9 0 (.int .i64 0) rfl
          have z0 := free_of_block M2.out.h9 0
          go_wp2_with (first
            | ((with_reducible refine gate_dst (N := 115) rfl ?_); refine load31 rfl _ rfl g9 rfl _ M3.out.h9 rfl ?_)
            | ((with_reducible refine gate_store (t := 31) (p := 4) (v := .tmp 115) rfl ?_); refine store31 rfl _ _ rfl g4 (doneCells (.slice As seen.length cs)) rfl rfl rfl (doneCells_one _ _ _) rfl M3.out.rs.h4 ?_; intro WZ hWZ; have HP := Aside0.mk (hWZ ▸ M3.out.rs.set (doneCells (.slice As seen.length cs))); have HSS := Aside0.mk (hWZ ▸ M3.out.seen_set (doneCells (.slice As seen.length cs))); clear hWZ))
          refine bodyPost_ret (results_ct rfl _ _ g4 31 _ (0, 0) _ rfl HP.out.h4 hu31 rfl (by kernel_rfl)) rfl ?_
          refine ⟨_, rfl, ?_, HP.out.hb⟩
          rw [HEW.out]
          exact ⟨_, rfl, HSS.out⟩
        · have hRP := RP.out
          cases hRP with
          | @cons a _ t _ hap hrt =>
          have HAP := Aside0.mk hap
          have HRT := Aside0.mk hrt
          have HLT := Aside0.mk hrt.len
          obtain ⟨ad, ead, q0, q1, q2, q3⟩ := row_head M2.out.rc
          subst ead
          clear RP hap hrt
          simp only [List.length_cons] at hlr hpr hg2 hrc
          have HLR := Aside0.mk hlr
          clear hlr
          have hpos : (0 : Int) < (t.length : Int) + 1 := by omega
          by_cases h32s : seen.length < 32
          · have hz32 : (seen.length : Int) < 32 := by omega
            have HS := Aside0.mk (M2.out.step (below_alloc (Below.refl wr.heap.size wr) (.cells #[.string a.nm, .slice a.ids.1 a.ids.2.1 a.ids.2.2, .int .i64 a.need, .slice a.keys.1 a.keys.2.1 a.keys.2.2] 60)))
            have n6 := cell_of_block HS.out.h9 6 (.slice As seen.length cs) rfl
            have HA11 := Aside0.mk (show (wr.alloc (.cells #[.string a.nm, .slice a.ids.1 a.ids.2.1 a.ids.2.2, .int .i64 a.need, .slice a.keys.1 a.keys.2.1 a.keys.2.2] 60)).heap[wr.heap.size]? = some (.cells #[.string a.nm, .slice a.ids.1 a.ids.2.1 a.ids.2.2, .int .i64 a.need, .slice a.keys.1 a.keys.2.1 a.keys.2.2] 60 (0, 0)) from blk_new _ _)
            have hcon := fun W (hb : Below (wr.alloc (.cells #[.string a.nm, .slice a.ids.1 a.ids.2.1 a.ids.2.2, .int .i64 a.need, .slice a.keys.1 a.keys.2.1 a.keys.2.2] 60)).heap.size (wr.alloc (.cells #[.string a.nm, .slice a.ids.1 a.ids.2.1 a.ids.2.2, .int .i64 a.need, .slice a.keys.1 a.keys.2.1 a.keys.2.2] 60)) W) => contains_any As cs seen a.nm W (by omega) (Kd.C_below hsC (below_step (below_alloc (Below.refl _ _) _) hb)) hsl
            rw [show (seen.any fun y => a.nm.toList == y.toList) = wasSeen seen a.nm from rfl] at hcon
            cases hws : wasSeen seen a.nm
            · rw [hws] at hcon
              have HCON := Aside0.mk hcon
              have HWS := Lib.hid hws
              clear hcon hws
              have hnz : a.nm.size ≤ 9223372036854775807 := by
                have := PN.out p (by simp)
                rw [← HAP.out.1] at this
                omega
              rcases held_look HPS.out HLB.out a.nm with ⟨lp, hb⟩ | ⟨v, x, lp, hb, hmi, hxl⟩
              · have EW3 := EW.out
                rw [walkS_want path l p u seen h32s (by rw [← HAP.out.1, HWS.out]; decide) (by rw [← HAP.out.1]; exact hb)] at EW3
                have HEW := Aside0.mk EW3
                have HLP := Lib.hid lp
                clear EW3 lp hb
                go_wp2_with (first
                  | ((with_reducible refine gate_dst (N := 54) rfl ?_); refine drop_row rfl _ rfl ad cr t.length rfl hrc ?_; intro A2 hA2; have HTL := Aside0.mk (HS.out.tail hrc hA2); clear hA2)
                  | (go_at_call 19; (with_reducible refine (HCON.out _ (Below.refl _ _)).mono ?_); rintro e w5 ⟨rfl, hb5⟩; have H5 := Aside0.mk (HTL.out.step hb5); have HA5 := Aside0.mk ((hb5.block _ (blk_lt HA11.out)).trans HA11.out); have p0 := cell_of_block HA5.out 0 (.string a.nm) rfl; clear hb5)
                  | (at_lookup; refine haves_look rfl _ _ rfl w3.heap.size ps rfl H5.out.hv a.nm rfl hnz ?_; rw [HLP.out]; simp only [Option.getD_none, Option.isSome_none]))
                have H6 := Aside0.mk (H5.out.step (below_alloc (Below.refl w5.heap.size w5) (.cells #[.int .i64 0, .int .i64 0, .int .i64 0, .slice none 0 0, .slice none 0 0, .string ⟨#[]⟩, .slice none 0 0, .slice none 0 0] 46)))
                have HA6 := Aside0.mk (blk_alloc HA5.out (.cells #[.int .i64 0, .int .i64 0, .int .i64 0, .slice none 0 0, .slice none 0 0, .string ⟨#[]⟩, .slice none 0 0, .slice none 0 0] 46))
                generalize w5.alloc _ = W6 at H6 HA6 ⊢
                have hne9 : wr.heap.size ≠ g9 := by
                  have h1 := M2.out.n9
                  have h2 := M2.out.nB
                  omega
                have hne9' : g9 ≠ wr.heap.size := Ne.symm hne9
                clear p0 HCON n6 f6 q0 q1 q2 q3
                go_cut [] (fun wx => L2 w (g9 + 2) g4 w3.heap.size g9 path ps (wantCells (.slice As seen.length cs) a) (.slice As seen.length cs) seen A2 t wx)
                case first =>
                  have p0 := cell_of_block HA6.out 0 (.string a.nm) rfl
                  have p1 := cell_of_block HA6.out 1 (.slice a.ids.1 a.ids.2.1 a.ids.2.2) rfl
                  have p2 := cell_of_block HA6.out 2 (.int .i64 a.need) rfl
                  have p3 := cell_of_block HA6.out 3 (.slice a.keys.1 a.keys.2.1 a.keys.2.2) rfl
                  have f0 := cell_of_block H6.out.h9 0 (.int .i64 0) rfl
                  have f7 := cell_of_block H6.out.h9 7 (.string ⟨#[]⟩) rfl
                  have f8 := cell_of_block H6.out.h9 8 (.slice none 0 0) rfl
                  have f9 := cell_of_block H6.out.h9 9 (.int .i64 0) rfl
                  have f10 := cell_of_block H6.out.h9 10 (.slice none 0 0) rfl
                  have z0 := free_of_block H6.out.h9 0
                  have z7 := free_of_block H6.out.h9 7
                  have z8 := free_of_block H6.out.h9 8
                  have z9 := free_of_block H6.out.h9 9
                  have z10 := free_of_block H6.out.h9 10
                  go_region_held3 (fun W_ => W_.cell? ⟨wr.heap.size, 0, none⟩ = some (.string a.nm) ∧ W_.cell? ⟨wr.heap.size, 1, none⟩ = some (.slice a.ids.1 a.ids.2.1 a.ids.2.2) ∧ W_.cell? ⟨wr.heap.size, 2, none⟩ = some (.int .i64 a.need) ∧ W_.cell? ⟨wr.heap.size, 3, none⟩ = some (.slice a.keys.1 a.keys.2.1 a.keys.2.2))
                    (go_keep) (fail)
                  all_goals (go_wp2_with fail; go_meet)
                  all_goals exact H6.out.drew.want a
                case rest =>
                  have M3 := Aside0.mk hcut
                  clear hcut H6 HA6
                  go_wp2_with (first
                    | ((with_reducible refine gate_dst (N := 79) rfl ?_); refine load31 rfl _ rfl g9 rfl _ M3.out.h9 rfl ?_)
                    | ((with_reducible refine gate_store (t := 31) (p := 4) (v := .tmp 79) rfl ?_); refine store31 rfl _ _ rfl g4 (wantCells (.slice As seen.length cs) a) rfl rfl rfl (wantCells_one _ _ _ _) rfl M3.out.rs.h4 ?_; intro WZ hWZ; have HP := Aside0.mk (hWZ ▸ M3.out.rs.set (wantCells (.slice As seen.length cs) a)); have HSS := Aside0.mk (hWZ ▸ M3.out.seen_set (wantCells (.slice As seen.length cs) a)); clear hWZ))
                  refine bodyPost_ret (results_ct rfl _ _ g4 31 _ (0, 0) _ rfl HP.out.h4 hu31 rfl (by kernel_rfl)) rfl ?_
                  refine ⟨_, rfl, ?_, HP.out.hb⟩
                  rw [HEW.out]
                  exact want_is HAP.out HP.out.hb HSS.out
              · have HF := Aside0.mk (Fits.of hr0.out hxl)
                obtain ⟨a3, k3, a4, k4, a6, k6, a7, k7, rfl, l3, m3, l4, m4, l6, m6, l7, m7⟩ := hmi
                have M3' := Aside0.mk m3
                have M6' := Aside0.mk m6
                have M7' := Aside0.mk m7
                have HHB := Aside0.mk hb
                have HLP := Lib.hid lp
                have HNE := Aside0.mk (show g9 ≠ wr.heap.size from by
                  have h1 := M2.out.n9
                  have h2 := M2.out.nB
                  omega)
                clear lp hb m3 m4 m6 m7 hxl
                have hmf : ∀ (fn : Fn) (first cap : Array Value) (w : World), (Instr.makeFunc fn first cap).run Tryz.prog w = .ok (.func fn first cap) w := fun _ _ _ _ => rfl
                go_upto_region 19 with (first
                  | ((with_reducible refine gate_dst (N := 54) rfl ?_); refine drop_row rfl _ rfl ad cr t.length rfl hrc ?_; intro A2 hA2; have HTL := Aside0.mk (HS.out.tail hrc hA2); clear hA2)
                  | (go_at_call 19; (with_reducible refine (HCON.out _ (Below.refl _ _)).mono ?_); rintro e w5 ⟨rfl, hb5⟩; have H5 := Aside0.mk (HTL.out.step hb5); have HA5 := Aside0.mk ((hb5.block _ (blk_lt HA11.out)).trans HA11.out); have HAL := Aside0.mk (show wr.heap.size < w5.heap.size from blk_lt HA5.out); have p0 := cell_of_block HA5.out 0 (.string a.nm) rfl; clear hb5)
                  | (at_lookup; refine haves_look rfl _ _ rfl w3.heap.size ps rfl H5.out.hv a.nm rfl hnz ?_; rw [HLP.out]; simp only [Option.getD_some, Option.isSome_some]))
                have H6 := Aside0.mk (H5.out.step (below_alloc (Below.refl w5.heap.size w5) (.cells #[.int .i64 x.f1.f0, .int .i64 x.f1.f1, .int .i64 x.f1.f2, .slice a3 x.f1.f3.length k3, .slice a4 x.f1.f4.length k4, .string x.f1.f5, .slice a6 x.f1.f6.length k6, .slice a7 x.f1.f7.length k7] 46)))
                have HA6 := Aside0.mk (blk_alloc HA5.out (.cells #[.int .i64 x.f1.f0, .int .i64 x.f1.f1, .int .i64 x.f1.f2, .slice a3 x.f1.f3.length k3, .slice a4 x.f1.f4.length k4, .string x.f1.f5, .slice a6 x.f1.f6.length k6, .slice a7 x.f1.f7.length k7] 46))
                have HB6 := Aside0.mk (blk_new w5 (.cells #[.int .i64 x.f1.f0, .int .i64 x.f1.f1, .int .i64 x.f1.f2, .slice a3 x.f1.f3.length k3, .slice a4 x.f1.f4.length k4, .string x.f1.f5, .slice a6 x.f1.f6.length k6, .slice a7 x.f1.f7.length k7] 46))
                clear p0 n6 f6 q0 q1 q2 q3 H5 HA5 HTL HA11 HS HCON
                generalize w5.alloc _ = W6 at H6 HA6 HB6 ⊢
                generalize w5.heap.size = g12 at HAL HB6 ⊢
                generalize hg11 : wr.heap.size = g11 at HAL HA6 HNE ⊢
                have n66 := cell_of_block H6.out.h9 6 (.slice As seen.length cs) rfl
                have p06 := cell_of_block HA6.out 0 (.string a.nm) rfl
                have HN2 := Aside0.mk (show g12 ≠ g9 from by have h1 := HAL.out; have h2 := M2.out.n9; have h3 := M2.out.nB; omega)
                go_upto_region 20 with (first
                  | ((with_reducible refine gate_builtin (b := .append) (xs := #[.tmp 81, .tmp 84]) rfl ?_); at_builtin; refine Kd.R_append Kd.string (w0 := W6) (g9 + 2) rfl (.tmp 81) (.tmp 84) 26 9 (.string ⟨#[]⟩) 16 rfl Tryz.underlying26 info9 rfl (by decide) (by omega) (.slice As seen.length cs) seen a.nm [.string a.nm] (fun _ => True) (fun _ => False) rfl rfl rfl (fun _ hk => hk.elim) (fun _ _ => trivial) H6.out.sr (Below.refl _ _) H6.out.nB (by omega) ?_; intro v7 w7 r7 _ hg7 _; obtain ⟨As7, cs7, rfl, _, _⟩ := Kd.R_reads r7; have H7 := Aside0.mk ((H6.out.app hg7 r7).put9 6 (.slice As7 (seen ++ [a.nm]).length cs7) (c9' := workCells (.slice As7 (seen ++ [a.nm]).length cs7)) rfl); have HA7 := Aside0.mk (blk_set_ne (g := g9) (j := 6) (v := .slice As7 (seen ++ [a.nm]).length cs7) (H6.out.kept hg7 HA6.out (by decide)) (Ne.symm HNE.out)); have HB7 := Aside0.mk (blk_set_ne (g := g9) (j := 6) (v := .slice As7 (seen ++ [a.nm]).length cs7) (H6.out.kept hg7 HB6.out (by decide)) HN2.out); have n67 := cell_of_block (H6.out.app hg7 r7).h9 6 (.slice As seen.length cs) rfl; have z67 := free_of_block (H6.out.app hg7 r7).h9 6; clear r7 hg7 n66 p06))
                rw [show (seen ++ [a.nm]).length = seen.length + 1 from by simp] at H7 HA7 HB7
                clear n67 z67 H6 HA6 HB6
                generalize w7.setCell _ _ = W8 at H7 HA7 HB7 ⊢
                have hfx : ∀ W, L2 w (g9 + 2) g4 w3.heap.size g9 path ps (workCells (.slice As7 (seen.length + 1) cs7)) (.slice As7 (seen.length + 1) cs7) (seen ++ [a.nm]) A2 t W → Calls Tryz.prog 20 #[.slice a6 x.f1.f6.length k6, .func (.func 21) #[] #[.pointer (some ⟨w.heap.size, 0, none⟩)]] W fun e w' => e = .returned (.int .i64 (fileIdx path x.f1.f6)) ∧ Below W.heap.size W w' :=
                  fun W h => fileIndex path w.heap.size a6 k6 x.f1.f6 W h.mp (by have := HF.out.files; omega) (Kd.C_below M6'.out h.rs.hb)
                have HILT := Aside0.mk (fileIdx_lt path x.f1.f6)
                generalize hfi : fileIdx path x.f1.f6 = fi at hfx HILT
                have HFI := Lib.hid hfi
                have HFX := Aside0.mk hfx
                clear hfi hfx
                have r6 := cell_of_block HB7.out 6 (.slice a6 x.f1.f6.length k6) rfl
                by_cases hi : 0 ≤ fi
                · go_upto_region 22 with (first
                    | (go_at_call 20; (with_reducible refine (HFX.out _ H7.out).mono ?_); rintro e w9 ⟨rfl, hb9⟩; have H9 := Aside0.mk (H7.out.step hb9); have HA9 := Aside0.mk ((hb9.block _ (blk_lt HA7.out)).trans HA7.out); have HB9 := Aside0.mk ((hb9.block _ (blk_lt HB7.out)).trans HB7.out); clear hb9))
                  have hfl : fi < (x.f1.f6.length : Int) := HILT.out hi
                  obtain ⟨adf, eadf, c0, c1, c2, c3⟩ := X.at_T25 M6'.out fi hi hfl
                  subst eadf
                  have er : X.rd_T25 x.f1.f6 fi = x.f1.f6.getD fi.toNat z25 := rfl
                  rw [er] at c0 c1 c2 c3
                  have EW3 := EW.out
                  rw [walkS_found path l p u seen x h32s (by rw [← HAP.out.1, HWS.out]; decide) (by rw [← HAP.out.1]; exact HHB.out) (by rw [HFI.out]; exact hi), HFI.out, ← HAP.out.1] at EW3
                  have HEW := Aside0.mk EW3
                  clear EW3
                  generalize x.f1.f6.getD fi.toNat z25 = fl at c0 c1 c2 c3 HEW
                  have HNF := Aside0.mk (show (adf.add (fi.toNat * 4)).block < w.heap.size from World.block_lt_of_cell? _ _ c0)
                  replace c0 := (H9.out.rs.hb.cell (World.block_lt_of_cell? _ _ c0)).trans c0
                  replace c1 := (H9.out.rs.hb.cell (World.block_lt_of_cell? _ _ c1)).trans c1
                  replace c2 := (H9.out.rs.hb.cell (World.block_lt_of_cell? _ _ c2)).trans c2
                  replace c3 := (H9.out.rs.hb.cell (World.block_lt_of_cell? _ _ c3)).trans c3
                  have hnf : (adf.add (fi.toNat * 4)).block ≠ g9 := by have h1 := HNF.out; have h2 := H9.out.n0; omega
                  have hnf' : g9 ≠ (adf.add (fi.toNat * 4)).block := Ne.symm hnf
                  have hn11 := HNE.out
                  have hn11' : g11 ≠ g9 := Ne.symm hn11
                  have hn12 := HN2.out
                  have hn12' : g9 ≠ g12 := Ne.symm hn12
                  go_cut [] (fun wx => L2 w (g9 + 2) g4 w3.heap.size g9 path ps (foundCells (.slice As7 (seen.length + 1) cs7) fl a.nm) (.slice As7 (seen.length + 1) cs7) (seen ++ [a.nm]) A2 t wx)
                  case first =>
                    have p0 := cell_of_block HA9.out 0 (.string a.nm) rfl
                    have p6 := cell_of_block HB9.out 6 (.slice (some adf) x.f1.f6.length k6) rfl
                    have f0 := cell_of_block H9.out.h9 0 (.int .i64 0) rfl
                    have f1 := cell_of_block H9.out.h9 1 (.string ⟨#[]⟩) rfl
                    have f2 := cell_of_block H9.out.h9 2 (.int .i64 0) rfl
                    have f3 := cell_of_block H9.out.h9 3 (.int .i64 0) rfl
                    have f4 := cell_of_block H9.out.h9 4 (.string ⟨#[]⟩) rfl
                    have f5 := cell_of_block H9.out.h9 5 (.string ⟨#[]⟩) rfl
                    have z0 := free_of_block H9.out.h9 0
                    have z1 := free_of_block H9.out.h9 1
                    have z2 := free_of_block H9.out.h9 2
                    have z3 := free_of_block H9.out.h9 3
                    have z4 := free_of_block H9.out.h9 4
                    have z5 := free_of_block H9.out.h9 5
                    go_region_held3 (fun W_ => W_.cell? ⟨g11, 0, none⟩ = some (.string a.nm) ∧ W_.cell? ⟨g12, 6, none⟩ = some (.slice (some adf) x.f1.f6.length k6) ∧ W_.cell? (adf.add (fi.toNat * 4)) = some (.string fl.f0) ∧ W_.cell? ⟨(adf.add (fi.toNat * 4)).block, (adf.add (fi.toNat * 4)).off + 1, none⟩ = some (.int .i64 fl.f1) ∧ W_.cell? ⟨(adf.add (fi.toNat * 4)).block, (adf.add (fi.toNat * 4)).off + 2, none⟩ = some (.int .i64 fl.f2) ∧ W_.cell? ⟨(adf.add (fi.toNat * 4)).block, (adf.add (fi.toNat * 4)).off + 3, none⟩ = some (.string fl.f3))
                      (go_keep) (fail)
                    all_goals (go_wp2_with fail; go_meet)
                    all_goals exact H9.out.drew.found fl a.nm
                  case rest =>
                    have M3 := Aside0.mk hcut
                    clear hcut H9 HA9 HB9
                    go_wp2_with (first
                      | ((with_reducible refine gate_dst (N := 103) rfl ?_); refine load31 rfl _ rfl g9 rfl _ M3.out.h9 rfl ?_)
                      | ((with_reducible refine gate_store (t := 31) (p := 4) (v := .tmp 103) rfl ?_); refine store31 rfl _ _ rfl g4 (foundCells (.slice As7 (seen.length + 1) cs7) fl a.nm) rfl rfl rfl (foundCells_one _ _ _ _ _) rfl M3.out.rs.h4 ?_; intro WZ hWZ; have HP := Aside0.mk (hWZ ▸ M3.out.rs.set (foundCells (.slice As7 (seen.length + 1) cs7) fl a.nm)); have HSS := Aside0.mk (hWZ ▸ M3.out.seen_set (foundCells (.slice As7 (seen.length + 1) cs7) fl a.nm)); clear hWZ))
                    refine bodyPost_ret (results_ct rfl _ _ g4 31 _ (0, 0) _ rfl HP.out.h4 hu31 rfl (by kernel_rfl)) rfl ?_
                    refine ⟨_, rfl, ?_, HP.out.hb⟩
                    rw [HEW.out]
                    exact ⟨_, rfl, HSS.out⟩
                · go_upto_region 24 with (first
                    | (go_at_call 20; (with_reducible refine (HFX.out _ H7.out).mono ?_); rintro e w9 ⟨rfl, hb9⟩; have H9 := Aside0.mk (H7.out.step hb9); have HB9 := Aside0.mk ((hb9.block _ (blk_lt HB7.out)).trans HB7.out); clear hb9))
                  obtain ⟨ds, last, hds⟩ : ∃ ds last, asksS path x.f1.f7 = (ds, last) := ⟨_, _, rfl⟩
                  have HDS := Lib.hid hds
                  have hask := asks_any path x.f1.f0 x.f1.f1 x.f1.f2 x.f1.f5 a3 a4 a6 a7 x.f1.f3.length k3 x.f1.f4.length k4 x.f1.f6.length k6 k7 x.f1.f7 w w9 H9.out.rs.hb hp0.out HF.out.paths (by have := HF.out.delegs; omega) M7'.out
                  rw [hds] at hask
                  have hdl : ds.length ≤ 16 := by have h1 := asksS_len path x.f1.f7; rw [hds] at h1; have h2 := HF.out.delegs; show ds.length ≤ 16; exact Nat.le_trans h1 h2
                  have HDM := Aside0.mk (show ∀ d ∈ ds, d.f0.size ≤ 32 from fun d hd => HF.out.names d (by have h1 := asksS_mem path x.f1.f7 d; rw [hds] at h1; exact h1 hd))
                  have hgo := goOn_eq (u := u) hds
                  have EW3 := EW.out
                  rw [walkS_on path l p u seen x h32s (by rw [← HAP.out.1, HWS.out]; decide) (by rw [← HAP.out.1]; exact HHB.out) (by rw [HFI.out]; omega), hgo, ← HAP.out.1] at EW3
                  have HEW := Aside0.mk EW3
                  have HASK := Aside0.mk hask
                  have hmp := H9.out.mp
                  have k0 := cell_of_block HB9.out 0 (.int .i64 x.f1.f0) rfl
                  have k1 := cell_of_block HB9.out 1 (.int .i64 x.f1.f1) rfl
                  have k2 := cell_of_block HB9.out 2 (.int .i64 x.f1.f2) rfl
                  have k3_ := cell_of_block HB9.out 3 (.slice a3 x.f1.f3.length k3) rfl
                  have k4_ := cell_of_block HB9.out 4 (.slice a4 x.f1.f4.length k4) rfl
                  have k5_ := cell_of_block HB9.out 5 (.string x.f1.f5) rfl
                  have k6_ := cell_of_block HB9.out 6 (.slice a6 x.f1.f6.length k6) rfl
                  have k7_ := cell_of_block HB9.out 7 (.slice a7 x.f1.f7.length k7) rfl
                  clear EW3 hask hds hgo
                  cases last
                  · go_wp2_with (first
                      | (go_at_call 22; (with_reducible refine HASK.out.mono ?_); intro e w10 hA; unfold AsksOut at hA; obtain ⟨v, b, qs, rfl, hbb, rq, ra, hb10⟩ := hA; have H10 := Aside0.mk (H9.out.step hb10); have RQ := Aside0.mk (Kd.R_lower rq hbb); have hql := ra.len; have RA := Aside0.mk ra; have HSZ := Aside0.mk hb10.size; clear rq ra hb10 hbb)
                      | ((with_reducible refine gate_builtin (b := .append) (xs := #[.tmp 111, .tmp 112]) rfl ?_); at_builtin; refine Kd.R_append_rows askK (Rr := askK.K w10) (w0 := w10) w9.heap.size rfl (.tmp 111) (.tmp 112) 61 60 (.agg #[.string ⟨#[]⟩, .slice none 0 0, .int .i64 0, .slice none 0 0]) 72 rfl Tryz.underlying61 info60 rfl (by decide) (by omega) v qs t A2 t.length (cr - 1) (fun _ => True) (fun _ => False) rfl rfl RQ.out H10.out.rc (fun z cs h => by rw [askK_open h]; exact askK_mk _ _ _ _) (fun _ hk => hk.elim) (fun _ _ => trivial) (Below.refl _ _) HSZ.out (by have := HLT.out; omega) ?_; intro v11 w11 r11 _ hg11 _; obtain ⟨A1, c1, rfl, hl1, H11⟩ := H10.out.push H9.out.nB RQ.out hg11 r11; have HH := Aside0.mk H11; clear H11 r11 hg11))
                    go_roundg ((32 - (seen.length + 1)) * 20 + (ds.map (askOf x.f1.f3) ++ u).length)
                    case measure => rw [List.length_append, List.length_map]; have := HLT.out; omega
                    case rel =>
                      refine ⟨seen ++ [a.nm], ds.map (askOf x.f1.f3) ++ u, qs ++ t, A1, c1, .slice As7 (seen.length + 1) cs7, ?_, ?_, hl1, ?_, ?_, HH.out, (show Aside _ from (RowIs.of_asks RA.out rfl l3 M3'.out).append HRT.out), (show Aside _ from fun q hq => ?_), (show Aside _ from HEW.out)⟩
                      · simp
                      · rw [List.length_append, hql]
                      · simp; omega
                      · simp; omega
                      · rcases List.mem_append.1 hq with h | h
                        · obtain ⟨d, hd, rfl⟩ := List.mem_map.1 h
                          exact HDM.out d hd
                        · exact PN.out q (List.mem_cons_of_mem _ h)
                  · go_wp2_with (first
                      | (go_at_call 22; (with_reducible refine HASK.out.mono ?_); intro e w10 hA; unfold AsksOut at hA; obtain ⟨v, b, qs, rfl, hbb, rq, ra, hb10⟩ := hA; have H10 := Aside0.mk (H9.out.step hb10); have RQ := Aside0.mk (Kd.R_lower rq hbb); have hql := ra.len; have RA := Aside0.mk ra; have HSZ := Aside0.mk hb10.size; clear rq ra hb10 hbb)
                      | ((with_reducible refine gate_builtin (b := .append) (xs := #[.tmp 111, .tmp 112]) rfl ?_); at_builtin; refine Kd.R_append_rows askK (Rr := askK.K w10) (w0 := w10) w9.heap.size rfl (.tmp 111) (.tmp 112) 61 60 (.agg #[.string ⟨#[]⟩, .slice none 0 0, .int .i64 0, .slice none 0 0]) 72 rfl Tryz.underlying61 info60 rfl (by decide) (by omega) v qs [] none 0 0 (fun _ => True) (fun _ => False) rfl rfl RQ.out ⟨rfl, Nat.zero_le _, fun h => absurd h (Nat.lt_irrefl 0)⟩ (fun z cs h => by rw [askK_open h]; exact askK_mk _ _ _ _) (fun _ hk => hk.elim) (fun _ _ => trivial) (Below.refl _ _) HSZ.out (by have := HLT.out; omega) ?_; intro v11 w11 r11 _ hg11 _; obtain ⟨A1, c1, rfl, hl1, H11⟩ := H10.out.push H9.out.nB RQ.out hg11 r11; have HH := Aside0.mk H11; clear H11 r11 hg11))
                    go_roundg ((32 - (seen.length + 1)) * 20 + (ds.map (askOf x.f1.f3) ++ []).length)
                    case measure => rw [List.length_append, List.length_map, List.length_nil]; have := HLT.out; omega
                    case rel =>
                      refine ⟨seen ++ [a.nm], ds.map (askOf x.f1.f3) ++ [], qs ++ [], A1, c1, .slice As7 (seen.length + 1) cs7, ?_, ?_, hl1, ?_, ?_, HH.out, (show Aside _ from (RowIs.of_asks RA.out rfl l3 M3'.out).append .nil), (show Aside _ from fun q hq => ?_), (show Aside _ from HEW.out)⟩
                      · simp
                      · rw [List.length_append, hql]; rfl
                      · simp; omega
                      · simp; omega
                      · rcases List.mem_append.1 hq with h | h
                        · obtain ⟨d, hd, rfl⟩ := List.mem_map.1 h
                          exact HDM.out d hd
                        · exact absurd h (by simp)
            · rw [hws] at hcon
              have HCON := Aside0.mk hcon
              clear hcon
              have EW3 := EW.out
              rw [walkS_seen path l p u seen h32s (by rw [← HAP.out.1]; exact hws)] at EW3
              have HEW := Aside0.mk EW3
              clear hws EW3
              go_wp2_with (first
                | ((with_reducible refine gate_dst (N := 54) rfl ?_); refine drop_row rfl _ rfl ad cr t.length rfl hrc ?_; intro A2 hA2; have HTL := Aside0.mk (HS.out.tail hrc hA2); clear hA2)
                | (go_at_call 19; (with_reducible refine (HCON.out _ (Below.refl _ _)).mono ?_); rintro e w5 ⟨rfl, hb5⟩; have H5 := Aside0.mk (HTL.out.step hb5); clear hb5))
              go_roundg ((32 - seen.length) * 20 + u.length)
              case measure => omega
              case rel =>
                exact ⟨seen, u, t, A2, cr - 1, .slice As seen.length cs, Nat.le_refl _, rfl, by omega, hs32, by omega, H5.out, HRT.out, (show Aside _ from fun q hq => PN.out q (List.mem_cons_of_mem _ hq)), HEW.out⟩
          · have hz32 : ¬ (seen.length : Int) < 32 := by omega
            have EW2 := EW.out
            rw [walkS_full _ _ _ _ h32s] at EW2
            have HEW := Aside0.mk EW2
            clear EW2
            have M3 := Aside0.mk M2.out.done
            have f0 := cell_of_block M2.out.h9 0 (.int .i64 0) rfl
            have z0 := free_of_block M2.out.h9 0
            go_wp2_with (first
              | ((with_reducible refine gate_dst (N := 115) rfl ?_); refine load31 rfl _ rfl g9 rfl _ M3.out.h9 rfl ?_)
              | ((with_reducible refine gate_store (t := 31) (p := 4) (v := .tmp 115) rfl ?_); refine store31 rfl _ _ rfl g4 (doneCells (.slice As seen.length cs)) rfl rfl rfl (doneCells_one _ _ _) rfl M3.out.rs.h4 ?_; intro WZ hWZ; have HP := Aside0.mk (hWZ ▸ M3.out.rs.set (doneCells (.slice As seen.length cs))); have HSS := Aside0.mk (hWZ ▸ M3.out.seen_set (doneCells (.slice As seen.length cs))); clear hWZ))
            refine bodyPost_ret (results_ct rfl _ _ g4 31 _ (0, 0) _ rfl HP.out.h4 hu31 rfl (by kernel_rfl)) rfl ?_
            refine ⟨_, rfl, ?_, HP.out.hb⟩
            rw [HEW.out]
            exact ⟨_, rfl, HSS.out⟩
end Go.Proofs.YtgcflmhlegagbaaGreatDoor.E
end
section
set_option linter.unusedVariables false
set_option linter.unusedSimpArgs false
namespace Go.Proofs.YtgcflmhlegagbaaGreatDoor.E
open Go.RowKit Go.Lib Go.Shelf Go.Proofs.YtgcflmhlegagbaaGreatDoorW.PrintWords Go.Proofs.YtgcflmhlegagbaaGreatDoorW.PrintLast Go.Proofs.YtgcflmhlegagbaaGreatDoorW.PrintMore
open X (S25 k25 z25 S28 k28 S53 k53 S70 k70 S46 k46 S48 k48 z48)
/-- May a path and a row be? -/
def okW (path : ByteArray) (l : List S48) : Bool := G.right false path.data.toList && heldOk l
def WalkOut (w : World) (path : ByteArray) (l : List S48) (e : Ending) (w' : World) : Prop :=
  ∃ cs : Array Value, ((okW path l = true ∧ e = .returned (.tuple #[.agg cs, .int .i64 0]) ∧ WalkIs w' cs (walkS path l [first] [])) ∨ (okW path l = false ∧ e = .returned (.tuple #[.agg cs, .int .i64 1]) ∧ cs = noCells)) ∧ Below w.heap.size w w'
theorem Walk_any (path : ByteArray) (A : Option Addr) (c : Nat) (l : List S48) (w : World) (ht : Tabs w) (hA : Kd.C k48 w A l.length l) (hlc : l.length ≤ c) :
    Calls Tryz.prog 9 #[.string path, .slice A l.length c] w (WalkOut w path l) := by
  cases h : okW path l with
  | true =>
    have h2 := h
    unfold okW at h2
    rw [Bool.and_eq_true] at h2
    refine (Walk_ok path A c l w ht hA hlc h2.1 h2.2).mono fun e w' ⟨cs, e1, e2, hb⟩ => ⟨cs, .inl ⟨h, e1, e2⟩, hb⟩
  | false =>
    refine (Walk_not path A c l w ht hA hlc (fun h2 => ?_)).mono fun e w' ⟨e1, hb⟩ => ⟨noCells, .inr ⟨h, e1, rfl⟩, hb⟩
    unfold okW at h
    rw [h2.1, h2.2] at h
    exact absurd h (by decide)
theorem heldOk_nil : heldOk [] = true := by kernel_rfl
theorem path_a : G.right false (⟨#[97]⟩ : ByteArray).data.toList = true := by kernel_rfl
theorem walk_nil (path : ByteArray) : walkS path [] [first] [] = .want [] first := walkS_want path [] first [] [] (by decide) (by decide) rfl
theorem nil_C (w : World) : Kd.C k48 w none ([] : List S48).length [] := ⟨rfl, Nat.zero_le _, fun h => absurd h (Nat.lt_irrefl 0)⟩
/-- With nothing held, targets are wanted. -/
def NilWalk (w : World) (path : ByteArray) (e : Ending) (w' : World) : Prop :=
  (G.right false path.data.toList = true ∧ ∃ a1 k1 a2 k2 a3 k3, e = .returned (.tuple #[.agg #[.int .i64 3, .string ⟨#[]⟩, .int .i64 0, .int .i64 0, .string ⟨#[]⟩, .string ⟨#[]⟩, .slice a1 0 k1, .string ⟨#[116, 97, 114, 103, 101, 116, 115]⟩, .slice a2 0 k2, .int .i64 0, .slice a3 0 k3], .int .i64 0]) ∧ Below w.heap.size w w') ∨
  (G.right false path.data.toList = false ∧ e = .returned (.tuple #[.agg #[.int .i64 0, .string ⟨#[]⟩, .int .i64 0, .int .i64 0, .string ⟨#[]⟩, .string ⟨#[]⟩, .slice none 0 0, .string ⟨#[]⟩, .slice none 0 0, .int .i64 0, .slice none 0 0], .int .i64 1]) ∧ Below w.heap.size w w')
theorem Walk_nil (path : ByteArray) (w : World) (ht : Tabs w) : Calls Tryz.prog 9 #[.string path, .slice none 0 0] w (NilWalk w path) := by
  cases h : G.right false path.data.toList with
  | true =>
    refine (Walk_ok path none 0 [] w ht (nil_C w) (Nat.le_refl _) h heldOk_nil).mono fun e w' ⟨cs, e1, e2, hb⟩ => ?_
    rw [walk_nil] at e2
    obtain ⟨v, vi, vk, rfl, ⟨a1, k1, rfl, _⟩, ⟨a2, k2, rfl, h2, _⟩, ⟨a3, k3, rfl, h3, _⟩⟩ := e2
    exact .inl ⟨h, a1, k1, a2, k2, a3, k3, e1, hb⟩
  | false =>
    exact (Walk_not path none 0 [] w ht (nil_C w) (Nat.le_refl _) (fun h2 => by rw [h] at h2; exact absurd h2.1 (by decide))).mono fun e w' ⟨e1, hb⟩ => .inr ⟨h, e1, hb⟩
set_option maxHeartbeats 4000000 in
theorem alive_any (w : World) (ht : Tabs w) : Calls Tryz.prog 12 #[] w fun e w' => e = .returned (.bool true) ∧ Below w.heap.size w w' := by
  have hW := Aside0.mk (Walk_nil ⟨#[97]⟩ w ht)
  go_enter Tryz.func12, Tryz.ntmps12
  go_wp2_with (first
    | (go_at_call 9; (with_reducible refine hW.out.mono ?_); intro e w1 hN; unfold NilWalk at hN; rcases hN with ⟨_, a1, k1, a2, k2, a3, k3, rfl, hb⟩ | ⟨h, _, _⟩; rotate_left; (exact absurd (h.symm.trans path_a) (by decide)); have HB := Aside0.mk hb; clear hb))
  go_ret
  exact ⟨rfl, below_step HB.out (below_alloc (Below.refl _ _) _)⟩
set_option maxHeartbeats 4000000 in
theorem may_any (path : ByteArray) (w : World) (ht : Tabs w) : Calls Tryz.prog 13 #[.string path] w fun e w' => e = .returned (.bool (G.right false path.data.toList)) ∧ Below w.heap.size w w' := by
  have hW := Aside0.mk (Walk_nil path w ht)
  cases hp : G.right false path.data.toList with
  | true =>
    go_enter Tryz.func13, Tryz.ntmps13
    go_wp2_with (first
      | (go_at_call 9; (with_reducible refine hW.out.mono ?_); intro e w1 hN; unfold NilWalk at hN; rcases hN with ⟨_, a1, k1, a2, k2, a3, k3, rfl, hb⟩ | ⟨h, _, _⟩; rotate_left; (exact absurd (h.symm.trans hp) (by decide)); have HB := Aside0.mk hb; clear hb))
    go_ret
    exact ⟨rfl, below_step HB.out (below_alloc (Below.refl _ _) _)⟩
  | false =>
    go_enter Tryz.func13, Tryz.ntmps13
    go_wp2_with (first
      | (go_at_call 9; (with_reducible refine hW.out.mono ?_); intro e w1 hN; unfold NilWalk at hN; rcases hN with ⟨h, _, _⟩ | ⟨_, rfl, hb⟩; (exact absurd (h.symm.trans hp) (by decide)); have HB := Aside0.mk hb; clear hb))
    go_ret
    exact ⟨rfl, below_step HB.out (below_alloc (Below.refl _ _) _)⟩
end Go.Proofs.YtgcflmhlegagbaaGreatDoor.E
end
section
set_option linter.unusedVariables false
set_option linter.unusedSimpArgs false
namespace Go.Proofs.YtgcflmhlegagbaaGreatDoor.E
open Go.RowKit Go.Lib Go.Shelf
open X (S25 z25 S28 S53 S70 S46 S48 z48)
theorem wasSeen_mem {seen : List ByteArray} {nm : ByteArray} : wasSeen seen nm = true ↔ nm ∈ seen := by
  unfold wasSeen
  rw [List.any_eq_true]
  constructor
  · rintro ⟨y, hy, e⟩
    have := bytes_ext (beq_iff_eq.1 e)
    exact this ▸ hy
  · intro h
    exact ⟨nm, h, beq_iff_eq.2 rfl⟩
theorem heldBy_mem {l : List S48} {nm : ByteArray} {x : S48} (h : heldBy l nm = some x) : x ∈ l ∧ x.f0 = nm := by
  unfold heldBy at h
  have h2 : (x.f0.toList == nm.toList) = true := List.find?_some (p := fun (y : S48) => y.f0.toList == nm.toList) h
  exact ⟨List.mem_of_find?_eq_some h, bytes_ext (beq_iff_eq.1 h2)⟩
theorem fileIdx_spec {s : ByteArray} {l : List S25} (h : 0 ≤ fileIdx s l) : l.getD (fileIdx s l).toNat z25 ∈ l ∧ (l.getD (fileIdx s l).toNat z25).f0 = s := by
  unfold fileIdx at *
  cases e : l.findIdx? (fun x => x.f0.toList == s.toList) with
  | none => rw [e] at h; exact absurd h (by decide)
  | some k =>
    obtain ⟨hk, h1, _⟩ := List.findIdx?_eq_some_iff_getElem.1 e
    have e2 : l.getD ((k : Int)).toNat z25 = l[k] := by rw [Int.toNat_natCast, List.getD_eq_getElem?_getD, List.getElem?_eq_getElem hk]; rfl
    show l.getD ((k : Int)).toNat z25 ∈ l ∧ _
    rw [e2]
    exact ⟨List.getElem_mem hk, bytes_ext (beq_iff_eq.1 h1)⟩
/-- Roles that were seen: each once, all held, no more than 32. -/
structure Good (l : List S48) (s : List ByteArray) : Prop where
  once : s.Nodup
  held : ∀ x ∈ s, ∃ h, heldBy l x = some h
  few : s.length ≤ 32
theorem Good.nil (l : List S48) : Good l [] := ⟨List.nodup_nil, fun x h => by simp at h, by simp⟩
theorem Good.snoc {l : List S48} {s : List ByteArray} (h : Good l s) {nm : ByteArray} (hn : nm ∉ s) {x : S48} (hx : heldBy l nm = some x) (hl : s.length < 32) : Good l (s ++ [nm]) := by
  refine ⟨?_, fun y hy => ?_, by simp; omega⟩
  · rw [List.nodup_append]
    refine ⟨h.once, by simp, fun a ha b hb => ?_⟩
    have : b = nm := by simpa using hb
    subst this
    rintro rfl
    exact hn ha
  · rcases List.mem_append.1 hy with h1 | h1
    · exact h.held y h1
    · have : y = nm := by simpa using h1
      exact this ▸ ⟨x, hx⟩
/-- What an outcome is, of a path and a row. -/
def Told (path : ByteArray) (l : List S48) : WOut → Prop
  | .found s f b => Good l s ∧ f.f0 = path ∧ (∃ x, heldBy l b = some x ∧ f ∈ x.f1.f6) ∧ ∃ t, s = t ++ [b]
  | .want s a => Good l s ∧ heldBy l a.nm = none ∧ a.nm ≠ ⟨#[]⟩ ∧ a.nm.size ≤ 32
  | .none s => Good l s
theorem walkS_told (path : ByteArray) (l : List S48) (hN : ∀ x ∈ l, ∀ d ∈ x.f1.f7, d.f0 ≠ ⟨#[]⟩ ∧ d.f0.size ≤ 32) : ∀ (n : Nat) (row : List PAsk) (seen : List ByteArray), (32 - seen.length) * 20 + row.length ≤ n → (∀ x ∈ l, x.f1.f7.length ≤ 16) → Good l seen → (∀ p ∈ row, p.nm ≠ ⟨#[]⟩ ∧ p.nm.size ≤ 32) → Told path l (walkS path l row seen) := by
  intro n
  induction n with
  | zero =>
    intro row seen hm _ hg _
    have : row = [] := List.length_eq_zero_iff.1 (by omega)
    subst this
    rw [walkS_nil]
    exact hg
  | succ n ih =>
    intro row seen hm h16 hg hr
    cases row with
    | nil => rw [walkS_nil]; exact hg
    | cons a t =>
      rw [List.length_cons] at hm
      by_cases h32 : seen.length < 32
      · by_cases hs : wasSeen seen a.nm = true
        · rw [walkS_seen path l a t seen h32 hs]
          exact ih t seen (by omega) h16 hg (fun p hp => hr p (List.mem_cons_of_mem _ hp))
        · have hns : a.nm ∉ seen := fun h => hs (wasSeen_mem.2 h)
          cases hh : heldBy l a.nm with
          | none =>
            rw [walkS_want path l a t seen h32 hs hh]
            exact ⟨hg, hh, hr a List.mem_cons_self⟩
          | some x =>
            have hx := heldBy_mem hh
            by_cases hi : 0 ≤ fileIdx path x.f1.f6
            · rw [walkS_found path l a t seen x h32 hs hh hi]
              obtain ⟨h1, h2⟩ := fileIdx_spec hi
              exact ⟨hg.snoc hns hh h32, h2, ⟨x, hh, h1⟩, seen, rfl⟩
            · rw [walkS_on path l a t seen x h32 hs hh hi]
              have hgl := goOn_len path x t (h16 x hx.1)
              refine ih _ _ (by rw [List.length_append, List.length_singleton]; omega) h16 (hg.snoc hns hh h32) (fun p hp => ?_)
              unfold goOn at hp
              rcases List.mem_append.1 hp with h | h
              · obtain ⟨d, hd, rfl⟩ := List.mem_map.1 h
                exact hN x hx.1 d (asksS_mem path _ d hd)
              · split at h
                · simp at h
                · exact hr p (List.mem_cons_of_mem _ h)
      · rw [walkS_full path l _ seen h32]
        exact hg
theorem nameOk_ne {nm : ByteArray} (h : Nm.nameOk nm.data.toList = true) : nm ≠ ⟨#[]⟩ := by
  rintro rfl
  exact absurd h (by decide)
theorem walk_told {path : ByteArray} {l : List S48} (h : heldOk l = true) : Told path l (walkS path l [first] []) := by
  refine walkS_told path l (fun x hx d hd => ?_) 641 [first] [] (by simp) (fun x hx => (Fits.of h hx).delegs) (Good.nil l) (fun p hp => ?_)
  · refine ⟨?_, (Fits.of h hx).names d hd⟩
    obtain ⟨k, hk, rfl⟩ := List.mem_iff_getElem.1 hx
    have h1 := heldOk_at h k hk
    unfold heldAt metaR metaOk delegsOk at h1
    simp only [Bool.and_eq_true, decide_eq_true_eq] at h1
    obtain ⟨⟨_, ⟨_, ⟨_, hda⟩⟩⟩, _⟩ := h1
    obtain ⟨j, hj⟩ := allK_get hda hd
    unfold dgP dgB at hj
    simp only [Bool.and_eq_true] at hj
    exact nameOk_ne hj.1.1.1.1.1.1
  · have : p = first := by simpa using hp
    subst this
    refine ⟨fun e => ?_, by decide⟩
    have := congrArg ByteArray.size e
    exact absurd this (by decide)
theorem held_ne {l : List S48} (h : heldOk l = true) : heldBy l ⟨#[]⟩ = none := by
  refine heldBy_none (fun x hx => ?_)
  obtain ⟨k, hk, rfl⟩ := List.mem_iff_getElem.1 hx
  have h1 := heldOk_at h k hk
  unfold heldAt at h1
  simp only [Bool.and_eq_true] at h1
  exact nameOk_ne h1.1.1.1
/-- Two files are the same. -/
def fileEq (x y : S25) : Bool := x.f0.toList == y.f0.toList && (x.f1 == y.f1 && (x.f2 == y.f2 && (x.f3.toList == y.f3.toList)))
theorem fileEq_self (x : S25) : fileEq x x = true := by simp [fileEq]
end Go.Proofs.YtgcflmhlegagbaaGreatDoor.E
end
section
set_option linter.unusedVariables false
set_option linter.unusedSimpArgs false
namespace Go.Proofs.YtgcflmhlegagbaaGreatDoor.E
open Go.RowKit Go.Lib Go.Shelf Go.Maps Go.Proofs.YtgcflmhlegagbaaGreatDoorW.PrintWords Go.Proofs.YtgcflmhlegagbaaGreatDoorW.PrintLast Go.Proofs.YtgcflmhlegagbaaGreatDoorW.PrintMore
open X (S25 k25 z25 S28 k28 S53 k53 S70 k70 S46 k46 S48 k48 z48)
/-- Which roles an outcome has seen. -/
def seenOf : WOut → List ByteArray
  | .found s _ _ => s
  | .want s _ => s
  | .none s => s
def OutIs (st : Int) (f : S25) (b wn : ByteArray) : WOut → Prop
  | .found _ f' b' => st = 1 ∧ f = f' ∧ b = b' ∧ wn = ⟨#[]⟩
  | .want _ a => st = 3 ∧ f = z25 ∧ b = ⟨#[]⟩ ∧ wn = a.nm
  | .none _ => st = 2 ∧ f = z25 ∧ b = ⟨#[]⟩ ∧ wn = ⟨#[]⟩
/-- The role and the keys that are told with a role that is wanted. -/
def roleOf : WOut → List ByteArray × Int × List S70
  | .want _ a => (a.role.f0, a.role.f1, a.keys)
  | _ => ([], 0, [])
/-- A result's cells, whichever way: by letters. -/
theorem WalkIs.openAll {W : World} {cs : Array Value} {out : WOut} (h : WalkIs W cs out) : ∃ st f b As ks wn Ai ki Ak kk,
    cs = #[.int .i64 st, .string f.f0, .int .i64 f.f1, .int .i64 f.f2, .string f.f3, .string b, .slice As (seenOf out).length ks, .string wn, .slice Ai (roleOf out).1.length ki, .int .i64 (roleOf out).2.1, .slice Ak (roleOf out).2.2.length kk] ∧
    OutIs st f b wn out ∧ (seenOf out).length ≤ ks ∧ Kd.C Kd.string W As (seenOf out).length (seenOf out) ∧ (roleOf out).1.length ≤ ki ∧ Kd.C Kd.string W Ai (roleOf out).1.length (roleOf out).1 ∧ (roleOf out).2.2.length ≤ kk ∧ Kd.C k70 W Ak (roleOf out).2.2.length (roleOf out).2.2 := by
  have hn : ∀ {α : Type} (d : Kd α), d.C W none ([] : List α).length [] := fun d => ⟨rfl, Nat.zero_le _, fun h => absurd h (Nat.lt_irrefl 0)⟩
  cases out with
  | found s f b =>
    obtain ⟨v, rfl, a, k, rfl, h1, h2⟩ := h
    exact ⟨1, f, b, a, k, ⟨#[]⟩, none, 0, none, 0, rfl, ⟨rfl, rfl, rfl, rfl⟩, h1, h2, Nat.le_refl _, hn _, Nat.le_refl _, hn _⟩
  | want s p =>
    obtain ⟨v, vi, vk, rfl, ⟨a, k, rfl, h1, h2⟩, ⟨a2, k2, rfl, h3, h4⟩, ⟨a3, k3, rfl, h5, h6⟩⟩ := h
    exact ⟨3, z25, ⟨#[]⟩, a, k, p.nm, a2, k2, a3, k3, rfl, ⟨rfl, rfl, rfl, rfl⟩, h1, h2, h3, h4, h5, h6⟩
  | none s =>
    obtain ⟨v, rfl, a, k, rfl, h1, h2⟩ := h
    exact ⟨2, z25, ⟨#[]⟩, a, k, ⟨#[]⟩, none, 0, none, 0, rfl, ⟨rfl, rfl, rfl, rfl⟩, h1, h2, Nat.le_refl _, hn _, Nat.le_refl _, hn _⟩
/-- In a law: the walk's result in block g5, the map of what is held in g7. -/
structure O1 (w : World) (g5 : Nat) (cs : Array Value) (g7 : Nat) (xs : List S48) (W : World) : Prop where
  hb : Below w.heap.size w W
  h5 : W.heap[g5]? = some (.cells cs 31 (0, 0))
  hv : ∃ ps, Haves W g7 ps ∧ PairsAre w ps xs ∧ ps.length = xs.length
  l7 : w.heap.size ≤ g7
  n57 : g5 ≠ g7
theorem O1.step {w : World} {g5 : Nat} {cs : Array Value} {g7 : Nat} {xs : List S48} {W W' : World} (h : O1 w g5 cs g7 xs W) (hb : Below W.heap.size W W') : O1 w g5 cs g7 xs W' := by
  obtain ⟨ps, h1, h2, h3⟩ := h.hv
  exact ⟨below_step h.hb hb, (hb.block g5 (lt_of_at h.h5)).trans h.h5, ⟨ps, h1.below hb, h2, h3⟩, h.l7, h.n57⟩
theorem O1.made {w W : World} (cs : Array Value) (h : Below w.heap.size w W) : O1 w W.heap.size cs (W.heap.size + 1) [] ((W.alloc (.cells cs 31)).alloc (.map #[] 0)) := by
  have b1 := below_alloc h (.cells cs 31)
  have b2 := below_alloc b1 (.map #[] 0)
  have hs1 : (W.alloc (.cells cs 31)).heap.size = W.heap.size + 1 := by simp
  have hv := Haves.made (W.alloc (.cells cs 31))
  rw [hs1] at hv
  exact ⟨b2, blk_alloc (blk_new _ _) _, ⟨[], hv, .nil, rfl⟩, Nat.le_succ_of_le h.size, by omega⟩
theorem O1.put {w : World} {g5 : Nat} {cs : Array Value} {g7 : Nat} {xs : List S48} {W W' : World} (h : O1 w g5 cs g7 xs W) {ps : List (ByteArray × Value)} {x : S48} {v : Value} (h2 : PairsAre w ps xs) (h3 : ps.length = xs.length)
    (ho : W'.ownsMap Tryz.prog 9 selfR g7 (ps.length + 1) ((putAll ps).put (.string x.f0.data.toList) (.held v))) (hg : W.grownBy W' (some g7)) (hm : MetaIs w v x.f1) : O1 w g5 cs g7 (xs ++ [x]) W' := by
  refine ⟨h.hb.grown hg h.hb.size (fun k e => by cases e; exact h.l7), (hg.block g5 (lt_of_at h.h5) (by simp [h.n57])).trans h.h5, ⟨ps ++ [(x.f0, v)], ?_, .snoc h2 rfl hm, by simp [h3]⟩, h.l7, h.n57⟩
  unfold Haves
  rw [putAll_snoc, List.length_append]
  exact ho
/-- .. and the map of what was seen in g10. -/
structure O2 (w : World) (g5 : Nat) (cs : Array Value) (g7 : Nat) (ps : List (ByteArray × Value)) (g10 : Nat) (qs : List (ByteArray × Value)) (W : World) : Prop where
  hb : Below w.heap.size w W
  h5 : W.heap[g5]? = some (.cells cs 31 (0, 0))
  hv : Haves W g7 ps
  hq : Haves W g10 qs
  l10 : w.heap.size ≤ g10
  n5 : g5 ≠ g10
  n7 : g7 ≠ g10
theorem O2.step {w : World} {g5 : Nat} {cs : Array Value} {g7 : Nat} {ps : List (ByteArray × Value)} {g10 : Nat} {qs : List (ByteArray × Value)} {W W' : World} (h : O2 w g5 cs g7 ps g10 qs W) (hb : Below W.heap.size W W') : O2 w g5 cs g7 ps g10 qs W' :=
  ⟨below_step h.hb hb, (hb.block g5 (lt_of_at h.h5)).trans h.h5, h.hv.below hb, h.hq.below hb, h.l10, h.n5, h.n7⟩
theorem Haves.lt {W : World} {b : Nat} {ps : List (ByteArray × Value)} (h : Haves W b ps) : b < W.heap.size := by
  obtain ⟨es, clock, h1, _⟩ := h
  exact blk_lt h1
theorem O2.made {w : World} {g5 : Nat} {cs : Array Value} {g7 : Nat} {xs : List S48} {W : World} (h : O1 w g5 cs g7 xs W) {ps : List (ByteArray × Value)} (hv : Haves W g7 ps) : O2 w g5 cs g7 ps W.heap.size [] (W.alloc (.map #[] 0)) := by
  have b1 := below_alloc (Below.refl W.heap.size W) (.map #[] 0)
  exact ⟨below_step h.hb b1, blk_alloc h.h5 _, hv.below b1, Haves.made W, h.hb.size, Nat.ne_of_lt (blk_lt h.h5), Nat.ne_of_lt hv.lt⟩
theorem O2.put {w : World} {g5 : Nat} {cs : Array Value} {g7 : Nat} {ps : List (ByteArray × Value)} {g10 : Nat} {qs : List (ByteArray × Value)} {W W' : World} (h : O2 w g5 cs g7 ps g10 qs W) {nm : ByteArray} {v : Value}
    (ho : W'.ownsMap Tryz.prog 9 selfR g10 (qs.length + 1) ((putAll qs).put (.string nm.data.toList) (.held v))) (hg : W.grownBy W' (some g10)) : O2 w g5 cs g7 ps g10 (qs ++ [(nm, v)]) W' := by
  refine ⟨h.hb.grown hg h.hb.size (fun k e => by cases e; exact h.l10), (hg.block g5 (lt_of_at h.h5) (by simp [h.n5])).trans h.h5, h.hv.kept hg (by simp [h.n7]), ?_, h.l10, h.n5, h.n7⟩
  unfold Haves
  rw [putAll_snoc, List.length_append]
  exact ho
end Go.Proofs.YtgcflmhlegagbaaGreatDoor.E
end
