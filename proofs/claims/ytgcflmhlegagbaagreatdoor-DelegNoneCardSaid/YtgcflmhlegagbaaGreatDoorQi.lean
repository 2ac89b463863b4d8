/- The law DelegOnce, walked. -/
import Derived.Test.YtgcflmhlegagbaaGreatDoorQ9
import Derived.Test.YtgcflmhlegagbaaGreatDoorQ5
import Derived.Deep.RegionHeld3
section
set_option linter.unusedVariables false
set_option linter.unusedSimpArgs false
namespace Go.Proofs.YtgcflmhlegagbaaGreatDoor.E
open Go.RowKit Go.Lib Go.Shelf Go.Proofs.YtgcflmhlegagbaaGreatDoorW.PrintWords Go.Proofs.YtgcflmhlegagbaaGreatDoorW.PrintLast Go.Proofs.YtgcflmhlegagbaaGreatDoorW.PrintMore
open X (S25 k25 z25 S28 k28 S53 k53 S70 k70 S46 k46 S48 k48 z48 rd_T48 at_T48)
attribute [local irreducible] heldOk fewS okW fileEq
theorem eqF (d : Nat) (w : World) (x y : S25) : (Op.equalIn (d + 2) 25 (.agg #[.string x.f0, .int .i64 x.f1, .int .i64 x.f2, .string x.f3]) (.agg #[.string y.f0, .int .i64 y.f1, .int .i64 y.f2, .string y.f3])).run Tryz.prog w = .ok (fileEq x y) w := by
  unfold fileEq
  exact X.eqA25 d w _ _ _ _ _ _ _ _
attribute [local go_sem high] eqF
end Go.Proofs.YtgcflmhlegagbaaGreatDoor.E
end
section
set_option linter.unusedVariables false
set_option linter.unusedSimpArgs false
namespace Go.Proofs.YtgcflmhlegagbaaGreatDoor.E
open Go.RowKit Go.Lib Go.Shelf
open X (S25 z25 S28 S53 S70 S46 S48 z48)
end Go.Proofs.YtgcflmhlegagbaaGreatDoor.E
end
section
set_option linter.unusedVariables false
set_option linter.unusedSimpArgs false
namespace Go.Proofs.YtgcflmhlegagbaaGreatDoor.E
open Go.RowKit Go.Lib Go.Shelf Go.Proofs.YtgcflmhlegagbaaGreatDoorW.PrintWords Go.Proofs.YtgcflmhlegagbaaGreatDoorW.PrintLast Go.Proofs.YtgcflmhlegagbaaGreatDoorW.PrintMore
open X (S25 k25 z25 S28 k28 S53 k53 S70 k70 z70 S46 k46 S48 k48 z48)
theorem eqF2 (d : Nat) (w : World) (x : S25) : (Op.equalIn (d + 2) 25 (.agg #[.string x.f0, .int .i64 x.f1, .int .i64 x.f2, .string x.f3]) (.agg #[.string x.f0, .int .i64 x.f1, .int .i64 x.f2, .string x.f3])).run Tryz.prog w = .ok true w := by
  rw [X.eqA25]; simp
theorem eqK2 (d : Nat) (w : World) (x : S70) : (Op.equalIn (d + 2) 70 (.agg #[.string x.f0, .string x.f1]) (.agg #[.string x.f0, .string x.f1])).run Tryz.prog w = .ok true w := by
  rw [X.eqA70]; simp
attribute [local go_sem high] eqF2 eqK2
structure LK (w : World) (g2 g3 : Nat) (ca cb : Array Value) (W : World) : Prop where
  hb : Below w.heap.size w W
  h2 : W.heap[g2]? = some (.cells ca 31 (0, 0))
  h3 : W.heap[g3]? = some (.cells cb 31 (0, 0))
theorem LK.step {w : World} {g2 g3 : Nat} {ca cb : Array Value} {W W' : World} (h : LK w g2 g3 ca cb W) (hb : Below W.heap.size W W') : LK w g2 g3 ca cb W' :=
  ⟨below_step h.hb hb, (hb.block _ (blk_lt h.h2)).trans h.h2, (hb.block _ (blk_lt h.h3)).trans h.h3⟩
theorem LK.made (w : World) (ca cb : Array Value) : LK w w.heap.size (w.heap.size + 1) ca cb ((w.alloc (.cells ca 31)).alloc (.cells cb 31)) := by
  have b1 := below_alloc (Below.refl w.heap.size w) (.cells ca 31)
  have hs1 : (w.alloc (.cells ca 31)).heap.size = w.heap.size + 1 := by simp
  have n := blk_new (w.alloc (.cells ca 31)) (.cells cb 31)
  rw [hs1] at n
  exact ⟨below_alloc b1 _, blk_alloc (blk_new _ _) _, n⟩
/-- An element of a row of texts, where it lies. -/
theorem text_at {w : World} {A : Option Addr} {l : List ByteArray} (h : Kd.C Kd.string w A l.length l) (k : Nat) (hk : k < l.length) : ∃ ad, A = some ad ∧ w.cell? (ad.add k) = some (.string l[k]) := by
  obtain ⟨ad, c, e, _, hK, hc⟩ := Kd.C_get h ByteArray.empty (k : Int) (by omega) (by omega)
  have e1 : c = [.string l[k]] := by
    have h2 : c = [.string (l.getD ((k : Int)).toNat ByteArray.empty)] := hK
    rw [h2, Int.toNat_natCast, List.getD_eq_getElem?_getD, List.getElem?_eq_getElem hk]; rfl
  subst e1
  have q0 := hc 0 _ rfl
  rw [Int.toNat_natCast, show k * Kd.string.sz + 0 = k from by show k * 1 + 0 = k; omega] at q0
  exact ⟨ad, e, q0⟩
end Go.Proofs.YtgcflmhlegagbaaGreatDoor.E
end
section
set_option linter.unusedVariables false
set_option linter.unusedSimpArgs false
namespace Go.Proofs.YtgcflmhlegagbaaGreatDoor.E
open Go.RowKit Go.Lib Go.Shelf
open X (S25 z25 S28 S53 S70 S46 S48 z48)
end Go.Proofs.YtgcflmhlegagbaaGreatDoor.E
end
section
set_option linter.unusedVariables false
set_option linter.unusedSimpArgs false
namespace Go.Proofs.YtgcflmhlegagbaaGreatDoor.E
open Go.RowKit Go.Lib Go.Shelf Go.Proofs.YtgcflmhlegagbaaGreatDoorW.PrintWords Go.Proofs.YtgcflmhlegagbaaGreatDoorW.PrintLast Go.Proofs.YtgcflmhlegagbaaGreatDoorW.PrintMore
open X (S25 k25 z25 S28 k28 S53 k53 S70 k70 S46 k46 S48 k48 z48)
def C48of (nm : ByteArray) (m : S46) (B3 B4 B6 B7 : Option Addr) (d3 d4 d6 d7 : Nat) : Array Value := #[.string nm, .int .i64 m.f0, .int .i64 m.f1, .int .i64 m.f2, .slice B3 m.f3.length d3, .slice B4 m.f4.length d4, .string m.f5, .slice B6 m.f6.length d6, .slice B7 m.f7.length d7]
def C46of (m : S46) (B3 B4 B6 B7 : Option Addr) (d3 d4 d6 d7 : Nat) : Array Value := #[.int .i64 m.f0, .int .i64 m.f1, .int .i64 m.f2, .slice B3 m.f3.length d3, .slice B4 m.f4.length d4, .string m.f5, .slice B6 m.f6.length d6, .slice B7 m.f7.length d7]
/-- What the third walk handed back. -/
def CFact (path : ByteArray) (l2 : List S48) (W : World) (cs : Array Value) (en : Int) : Prop :=
  (okW path l2 = false ∧ en = 1 ∧ cs = noCells) ∨
  (okW path l2 = true ∧ en = 0 ∧ ∃ st f b As k wn Ai ni ki nd Ak nk kk, cs = #[.int .i64 st, .string (f : S25).f0, .int .i64 f.f1, .int .i64 f.f2, .string f.f3, .string b, .slice As (seenOf (walkS path l2 [first] [])).length k, .string wn, .slice Ai ni ki, .int .i64 nd, .slice Ak nk kk] ∧ (seenOf (walkS path l2 [first] [])).length ≤ k ∧ Kd.C Kd.string W As (seenOf (walkS path l2 [first] [])).length (seenOf (walkS path l2 [first] [])))
theorem CFact.below {path : ByteArray} {l2 : List S48} {W W' : World} {cs : Array Value} {en : Int} (h : CFact path l2 W cs en) (hb : Below W.heap.size W W') : CFact path l2 W' cs en := by
  rcases h with h | ⟨h1, h2, st, f, b, As, k, wn, Ai, ni, ki, nd, Ak, nk, kk, h3, h4, h5⟩
  · exact .inl h
  · exact .inr ⟨h1, h2, st, f, b, As, k, wn, Ai, ni, ki, nd, Ak, nk, kk, h3, h4, Kd.C_below h5 hb⟩
theorem seen_ne {path : ByteArray} {l2 : List S48} (h : okW path l2 = true) : ∀ x ∈ seenOf (walkS path l2 [first] []), x ≠ ⟨#[]⟩ := by
  have hr : heldOk l2 = true := by unfold okW at h; rw [Bool.and_eq_true] at h; exact h.2
  have ht := walk_told (path := path) hr
  have hg : Good l2 (seenOf (walkS path l2 [first] [])) := by
    cases e : walkS path l2 [first] [] with
    | found s f b => rw [e] at ht; exact ht.1
    | want s a => rw [e] at ht; exact ht.1
    | none s => rw [e] at ht; exact ht
  intro x hx e
  obtain ⟨y, hy⟩ := hg.held x hx
  rw [e, held_ne hr] at hy
  cases hy
/-- A row of names that are not empty does not lie in a result's block that is zero. -/
theorem not_zero {W : World} {A : Option Addr} {l : List ByteArray} {g : Nat} (h : Kd.C Kd.string W A l.length l) (hne : ∀ x ∈ l, x ≠ ⟨#[]⟩) (hg : W.heap[g]? = some (.cells noCells 31 (0, 0))) : ∀ ad, A = some ad → 0 < l.length → ad.block ≠ g := by
  intro ad e hp eb
  obtain ⟨ad', e', q⟩ := text_at h 0 hp
  rw [e] at e'
  obtain rfl := Option.some.inj e'
  have q' : W.cell? ad = some (.string l[0]) := by simpa [Addr.add] using q
  have hl0 := hne l[0] (List.getElem_mem hp)
  unfold World.cell? at q'
  rw [eb, hg] at q'
  obtain ⟨bk, off, sp⟩ := ad
  simp only [] at q' eb
  have : ∀ j : Nat, noCells[j]? = some (.string l[0]) → l[0] = ⟨#[]⟩ := fun j hj => by
    have hlt := (Array.getElem?_eq_some_iff.1 hj).1
    have hlt' : j < 11 := hlt
    obtain rfl | rfl | rfl | rfl | rfl | rfl | rfl | rfl | rfl | rfl | rfl : j = 0 ∨ j = 1 ∨ j = 2 ∨ j = 3 ∨ j = 4 ∨ j = 5 ∨ j = 6 ∨ j = 7 ∨ j = 8 ∨ j = 9 ∨ j = 10 := by omega
    all_goals (simp [noCells] at hj; try exact hj.symm)
  split at q'
  · cases q'
  · exact hl0 (this _ q')
def slot21 (i : Nat) : Nat := if i ≤ 11 then 100 + i else if i = 12 then 99 else if i = 13 then 112 else if i = 14 then 113 else if i = 15 then 16 else if i = 17 then 17 else 0
theorem slot21_inj {i j : Nat} (hi : i < 18) (hj : j < 18) (h : slot21 i = slot21 j) : i = j := by
  have e : ∀ k, k < 18 → (k ≤ 11 ∧ slot21 k = 100 + k) ∨ (k = 12 ∧ slot21 k = 99) ∨ (k = 13 ∧ slot21 k = 112) ∨ (k = 14 ∧ slot21 k = 113) ∨ (k = 15 ∧ slot21 k = 16) ∨ (k = 16 ∧ slot21 k = 0) ∨ (k = 17 ∧ slot21 k = 17) := fun k hk => by
    by_cases h11 : k ≤ 11
    · exact .inl ⟨h11, by unfold slot21; rw [if_pos h11]⟩
    · obtain rfl | rfl | rfl | rfl | rfl | rfl : k = 12 ∨ k = 13 ∨ k = 14 ∨ k = 15 ∨ k = 16 ∨ k = 17 := by omega
      all_goals simp [slot21]
  have a := e i hi
  have b := e j hj
  omega
def F21 (w2 W0 : World) (g7 : Nat) (path nm : ByteArray) (m : S46) (B3 B4 B6 B7 : Option Addr) (d3 d4 d6 d7 : Nat) (A9 : Option Addr) (c9 : Nat) (hs : List (List Value)) (fs : List S48) (listed : Array Bool) (W : World) (v : Value) : Nat → Prop
  | 0 => v = .string path
  | 1 => listed.getD 3 false = false → ∃ g, v = .slice (some ⟨g, 0, none⟩) 0 0 ∧ W0.heap.size ≤ g ∧ W.heap[g]? = some (.cells #[] 48 (0, 0))
  | 2 => v = .slice A9 fs.length c9
  | 3 => listed.getD 10 false = false → (valK 9).R 48 W W0.heap.size (fun _ => True) v hs
  | 4 => v = .pointer (some ⟨g7, 7, none⟩)
  | 5 => v = .string nm
  | 6 => v = .agg (C46of m B3 B4 B6 B7 d3 d4 d6 d7)
  | 7 => v = .agg (C48of nm m B3 B4 B6 B7 d3 d4 d6 d7)
  | 8 => listed.getD 9 false = false → ∃ g, v = .slice (some ⟨g, 0, none⟩) 1 1 ∧ W.heap[g]? = some (.cells (C48of nm m B3 B4 B6 B7 d3 d4 d6 d7) 48 (0, 0))
  | 9 => listed.getD 10 false = false → ∃ A c hs', v = .slice A 1 c ∧ 1 ≤ c ∧ (valK 9).C W A 1 hs' ∧ HsAre w2 hs' [⟨nm, cutM m⟩]
  | 10 => listed.getD 11 false = false → ∃ A c hs', v = .slice A (fs ++ [(⟨nm, cutM m⟩ : S48)]).length c ∧ (fs ++ [(⟨nm, cutM m⟩ : S48)]).length ≤ c ∧ (valK 9).C W A (fs ++ [(⟨nm, cutM m⟩ : S48)]).length hs' ∧ HsAre w2 hs' (fs ++ [⟨nm, cutM m⟩])
  | 11 => ∃ cs en, v = .tuple #[.agg cs, .int .i64 en] ∧ CFact path (fs ++ [⟨nm, cutM m⟩]) W cs en
  | 12 => ∃ cs en, v = .tuple #[.agg cs, .int .i64 en] ∧ CFact path (fs ++ [⟨nm, cutM m⟩]) W cs en
  | 13 => ∃ cs en, v = .agg cs ∧ CFact path (fs ++ [⟨nm, cutM m⟩]) W cs en
  | 14 => ∃ cs en, v = .int .i64 en ∧ CFact path (fs ++ [⟨nm, cutM m⟩]) W cs en
  | 15 => ∃ g, v = .pointer (some ⟨g, 0, none⟩) ∧ W0.heap.size ≤ g ∧ (listed.getD 16 false = false → W.heap[g]? = some (.cells noCells 31 (0, 0))) ∧ (listed.getD 16 false = true → ∃ cs en, W.heap[g]? = some (.cells cs 31 (0, 0)) ∧ CFact path (fs ++ [⟨nm, cutM m⟩]) W cs en)
  | 16 => listed.getD 15 false = true
  | 17 => ∃ cs en, v = .int .i64 en ∧ CFact path (fs ++ [⟨nm, cutM m⟩]) W cs en
  | _ => True
structure J21 (w2 W0 : World) (g7 : Nat) (path nm : ByteArray) (m : S46) (B3 B4 B6 B7 : Option Addr) (d3 d4 d6 d7 : Nat) (A9 : Option Addr) (c9 : Nat) (hs : List (List Value)) (fs : List S48) (listed : Array Bool) (x : Nat → Value) (W : World) : Prop where
  sz : listed.size = 18
  hb : Below W0.heap.size W0 W
  f : ∀ j, j < 18 → listed.getD j false = true → F21 w2 W0 g7 path nm m B3 B4 B6 B7 d3 d4 d6 d7 A9 c9 hs fs listed W (x (slot21 j)) j
  dA : ∀ j, 9 ≤ j → j ≠ 15 → j < 18 → listed.getD j false = true → listed.getD 3 false = true
  dB : ∀ j, 11 ≤ j → j ≠ 15 → j < 18 → listed.getD j false = true → listed.getD 10 false = true
section
variable {w2 W0 : World} {g7 : Nat} {path nm : ByteArray} {m : S46} {B3 B4 B6 B7 : Option Addr} {d3 d4 d6 d7 : Nat} {A9 : Option Addr} {c9 : Nat} {hs : List (List Value)} {fs : List S48} {listed : Array Bool} {x : Nat → Value} {W W' : World}
theorem set_false {i j : Nat} (h : (listed.setIfInBounds i true).getD j false = false) : listed.getD j false = false := by
  by_cases e : j = i
  · subst e
    by_cases hlt : j < listed.size
    · rw [getD_set_same j false hlt] at h; exact absurd h (by decide)
    · simp [Array.getElem?_eq_none (Nat.le_of_not_lt hlt)]
  · exact (getD_set_ne false (fun q => e q.symm)).symm.trans h
theorem F21.pass {i j : Nat} {v : Value} (h : F21 w2 W0 g7 path nm m B3 B4 B6 B7 d3 d4 d6 d7 A9 c9 hs fs listed W v j) (hb : Below W.heap.size W W') (hi : i ≠ 16) : F21 w2 W0 g7 path nm m B3 B4 B6 B7 d3 d4 d6 d7 A9 c9 hs fs (listed.setIfInBounds i true) W' v j := by
  have e16 : (listed.setIfInBounds i true).getD 16 false = listed.getD 16 false := getD_set_ne false hi
  unfold F21 at h ⊢
  split at h
  all_goals first
    | exact h
    | trivial
    | skip
  · intro hn
    obtain ⟨g, h1, h2, h3⟩ := h (set_false hn)
    exact ⟨g, h1, h2, (hb.block _ (blk_lt h3)).trans h3⟩
  · intro hn; exact Kd.R_below (h (set_false hn)) hb
  · intro hn
    obtain ⟨g, h1, h3⟩ := h (set_false hn)
    exact ⟨g, h1, (hb.block _ (blk_lt h3)).trans h3⟩
  · intro hn
    obtain ⟨A, c, hs', h1, h2, h3, h4⟩ := h (set_false hn)
    exact ⟨A, c, hs', h1, h2, Kd.C_below h3 hb, h4⟩
  · intro hn
    obtain ⟨A, c, hs', h1, h2, h3, h4⟩ := h (set_false hn)
    exact ⟨A, c, hs', h1, h2, Kd.C_below h3 hb, h4⟩
  · obtain ⟨cs, en, h1, h2⟩ := h; exact ⟨cs, en, h1, h2.below hb⟩
  · obtain ⟨cs, en, h1, h2⟩ := h; exact ⟨cs, en, h1, h2.below hb⟩
  · obtain ⟨cs, en, h1, h2⟩ := h; exact ⟨cs, en, h1, h2.below hb⟩
  · obtain ⟨cs, en, h1, h2⟩ := h; exact ⟨cs, en, h1, h2.below hb⟩
  · obtain ⟨g, h1, h2, h3, h4⟩ := h
    refine ⟨g, h1, h2, fun hn => ?_, fun hn => ?_⟩
    · have := h3 (e16.symm.trans hn); exact (hb.block _ (blk_lt this)).trans this
    · obtain ⟨cs, en, h5, h6⟩ := h4 (e16.symm.trans hn)
      exact ⟨cs, en, (hb.block _ (blk_lt h5)).trans h5, h6.below hb⟩
  · by_cases e : i = 15
    · subst e
      by_cases hlt : 15 < listed.size
      · exact getD_set_same 15 false hlt
      · rw [show listed.getD 15 false = false from by simp [Array.getElem?_eq_none (Nat.le_of_not_lt hlt)]] at h; exact absurd h (by decide)
    · exact (getD_set_ne false e).trans h
  · obtain ⟨cs, en, h1, h2⟩ := h; exact ⟨cs, en, h1, h2.below hb⟩
/-- An operation that makes a value, and leaves what was there. -/
theorem J21.next (i : Nat) (hi : i < 18) (hi16 : i ≠ 16) (h : J21 w2 W0 g7 path nm m B3 B4 B6 B7 d3 d4 d6 d7 A9 c9 hs fs listed x W) (hb : Below W.heap.size W W') (v : Value) (hv : F21 w2 W0 g7 path nm m B3 B4 B6 B7 d3 d4 d6 d7 A9 c9 hs fs (listed.setIfInBounds i true) W' v i)
    (hA : 9 ≤ i → i ≠ 15 → listed.getD 3 false = true) (hB : 11 ≤ i → i ≠ 15 → listed.getD 10 false = true) :
    J21 w2 W0 g7 path nm m B3 B4 B6 B7 d3 d4 d6 d7 A9 c9 hs fs (listed.setIfInBounds i true) (fun k => if k = slot21 i then v else x k) W' := by
  have up : ∀ j, listed.getD j false = true → (listed.setIfInBounds i true).getD j false = true := fun j hj => by
    by_cases e : j = i
    · subst e; exact getD_set_same j false (by rw [h.sz]; exact hi)
    · exact (getD_set_ne false (fun q => e q.symm)).trans hj
  refine ⟨by rw [Array.size_setIfInBounds]; exact h.sz, below_step h.hb hb, fun j hj e => ?_, fun j h9 h15 hj e => ?_, fun j h9 h15 hj e => ?_⟩
  · by_cases hij : j = i
    · subst hij; simpa using hv
    · have hne : slot21 j ≠ slot21 i := fun q => hij (slot21_inj hj hi q)
      simp only [hne, if_false]
      exact (h.f j hj ((getD_set_ne false (fun q => hij q.symm)).symm.trans e)).pass hb hi16
  · by_cases hij : j = i
    · subst hij; exact up 3 (hA h9 h15)
    · exact up 3 (h.dA j h9 h15 hj ((getD_set_ne false (fun q => hij q.symm)).symm.trans e))
  · by_cases hij : j = i
    · subst hij; exact up 10 (hB h9 h15)
    · exact up 10 (h.dB j h9 h15 hj ((getD_set_ne false (fun q => hij q.symm)).symm.trans e))
theorem CFact.set {l2 : List S48} {g : Nat} {cs cs' : Array Value} {en : Int} (h : CFact path l2 W cs en) (hz : W.heap[g]? = some (.cells noCells 31 (0, 0))) : CFact path l2 (W.setRow g cs') cs en := by
  rcases h with h | ⟨h1, h2, st, f, b, As, k, wn, Ai, ni, ki, nd, Ak, nk, kk, h3, h4, h5⟩
  · exact .inl h
  · refine .inr ⟨h1, h2, st, f, b, As, k, wn, Ai, ni, ki, nd, Ak, nk, kk, h3, h4, C_block h5 (fun _ _ hk => hk) (fun ad ea hn => ?_)⟩
    have := not_zero h5 (seen_ne h1) hz ad ea hn
    simp [World.setRow, Array.getElem?_modify, Ne.symm this]
theorem rep18 (j : Nat) : (Array.replicate 18 false).getD j false = false := by
  by_cases h : j < 18
  · simp [h]
  · simp [Array.getElem?_eq_none (show (Array.replicate 18 false).size ≤ j by simp; omega)]
theorem J21.start : J21 w2 W g7 path nm m B3 B4 B6 B7 d3 d4 d6 d7 A9 c9 hs fs (Array.replicate 18 false) x W :=
  ⟨by simp, Below.refl _ _, fun j _ e => absurd ((rep18 j).symm.trans e) (by decide), fun j _ _ _ e => absurd ((rep18 j).symm.trans e) (by decide), fun j _ _ _ e => absurd ((rep18 j).symm.trans e) (by decide)⟩
end
end Go.Proofs.YtgcflmhlegagbaaGreatDoor.E
end
section
set_option linter.unusedVariables false
set_option linter.unusedSimpArgs false
namespace Go.Proofs.YtgcflmhlegagbaaGreatDoor.E
open Go.RowKit Go.Lib Go.Shelf Go.Proofs.YtgcflmhlegagbaaGreatDoorW.PrintWords Go.Proofs.YtgcflmhlegagbaaGreatDoorW.PrintLast Go.Proofs.YtgcflmhlegagbaaGreatDoorW.PrintMore
open X (S25 k25 z25 S28 k28 S53 k53 S70 k70 S46 k46 S48 k48 z48)
theorem C_one {n : Nat} {e : Nat} {W : World} {g : Nat} {cs : Array Value} (h : W.heap[g]? = some (.cells cs e (0, 0))) (hn : cs.toList.length = n) (h1 : ∀ u ∈ cs.toList, u.oneCell' = true) : (valK n).C W (some ⟨g, 0, none⟩) 1 [cs.toList] := by
  refine ⟨rfl, by decide, fun _ => ⟨_, rfl, fun j p hj => ?_⟩⟩
  obtain rfl : j = 0 := by have := (List.getElem?_eq_some_iff.1 hj).1; simpa using this
  obtain rfl : cs.toList = p := by simpa using hj
  refine ⟨cs.toList, hn, ⟨rfl, hn, h1⟩, fun i u hu => ?_⟩
  rw [Array.getElem?_toList] at hu
  have := cell_of_block h i u hu
  have e : (Addr.add ⟨g, 0, none⟩ (0 * n + i) : Addr) = ⟨g, i, none⟩ := by simp [Addr.add]; intro e; exact e.symm
  rw [show (0 * (valK n).sz + i) = 0 * n + i from rfl, e]; exact this
theorem CFact.same {path : ByteArray} {l2 : List S48} {W : World} {cs cs' : Array Value} {en en' : Int} (h : CFact path l2 W cs en) (h' : CFact path l2 W cs' en') : en = en' := by
  rcases h with ⟨a, b, _⟩ | ⟨a, b, _⟩ <;> rcases h' with ⟨a', b', _⟩ | ⟨a', b', _⟩
  · rw [b, b']
  · rw [a] at a'; cases a'
  · rw [a] at a'; cases a'
  · rw [b, b']
theorem CFact.size {path : ByteArray} {l2 : List S48} {W : World} {cs : Array Value} {en : Int} (h : CFact path l2 W cs en) : cs.size = 11 ∧ cs.all (·.oneCell') = true := by
  rcases h with ⟨_, _, rfl⟩ | ⟨_, _, st, f, b, As, k, wn, Ai, ni, ki, nd, Ak, nk, kk, rfl, _⟩
  · exact ⟨rfl, by simp [noCells, Value.oneCell']⟩
  · exact ⟨rfl, by simp [Value.oneCell']⟩
theorem few_val1 (w0 : World) (A : Option Addr) (c : Nat) (nm : ByteArray) (m : S46) (cs : List Value) (w : World) (hC : (valK 9).C w A 1 [cs]) (hK : k48.K w0 ⟨nm, m⟩ cs) (hc : 1 ≤ c) :
    Calls Tryz.prog 8 #[.slice A 1 c] w fun e w' => ∃ A' c' hs', e = .returned (.slice A' 1 c') ∧ 1 ≤ c' ∧ (valK 9).C w' A' 1 hs' ∧ HsAre w0 hs' [⟨nm, cutM m⟩] ∧ Below w.heap.size w w' :=
  few_val w0 A c [⟨nm, m⟩] [cs] w hC ((HsAre.nil w0).snoc hK) hc
end Go.Proofs.YtgcflmhlegagbaaGreatDoor.E
end
