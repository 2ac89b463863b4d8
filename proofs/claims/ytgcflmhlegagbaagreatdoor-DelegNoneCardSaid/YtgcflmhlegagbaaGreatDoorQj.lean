/- The law DelegNone: with targets alone held, what a walk comes to. -/
import Derived.Test.YtgcflmhlegagbaaGreatDoorQh
import Derived.Test.YtgcflmhlegagbaaGreatDoorQi
import Derived.Test.YtgcflmhlegagbaaGreatDoorQv
import Derived.SliceStrings
import Derived.SizedLaws
import Derived.Test.YtgcflmhlegagbaaGreatDoorQ9
import Derived.Test.YtgcflmhlegagbaaGreatDoorQa
section
set_option linter.unusedVariables false
set_option linter.unusedSimpArgs false
namespace Go.Proofs.YtgcflmhlegagbaaGreatDoor.R
open Go.RowKit Go.Lib Go.Shelf Go.Proofs.YtgcflmhlegagbaaGreatDoorW.PrintWords Go.Proofs.YtgcflmhlegagbaaGreatDoorW.PrintLast Go.Proofs.YtgcflmhlegagbaaGreatDoorW.PrintMore
open E
open X (S25 k25 z25 S28 k28 S53 k53 z53 S70 k70 S46 k46 S48 k48 z48)
theorem heldBy_one (m : S46) : heldBy [⟨TARGETS, m⟩] TARGETS = some ⟨TARGETS, m⟩ := by rw [heldBy_cons, if_pos rfl]
theorem one_found {path : ByteArray} {m : S46} (k : Nat) (hk : k < m.f6.length) (h : ((m.f6.getD k z25).f0.toList == path.toList) = true) (hb : ∀ j, j < k → ((m.f6.getD j z25).f0.toList == path.toList) = false) :
    walkS path [⟨TARGETS, m⟩] [first] [] = .found [TARGETS] (m.f6.getD k z25) TARGETS := by
  have e := fileIdx_at path m.f6 k hk h hb
  have h := walkS_found path [⟨TARGETS, m⟩] first [] [] ⟨TARGETS, m⟩ (by decide) (by decide) (heldBy_one m) (by rw [e]; omega)
  rw [h, e, Int.toNat_natCast]; rfl
theorem one_on {path : ByteArray} {m : S46} (hn : ∀ j, j < m.f6.length → ((m.f6.getD j z25).f0.toList == path.toList) = false) :
    walkS path [⟨TARGETS, m⟩] [first] [] = walkS path [⟨TARGETS, m⟩] (goOn path ⟨TARGETS, m⟩ []) [TARGETS] := by
  have e := fileIdx_none path m.f6 hn
  exact walkS_on path [⟨TARGETS, m⟩] first [] [] ⟨TARGETS, m⟩ (by decide) (by decide) (heldBy_one m) (by rw [e]; decide)
theorem asks_none {path : ByteArray} {l : List S53} (h : ∀ j, j < l.length → fitsB path (l.getD j z53) = false) : asksS path l = ([], false) := by
  induction l with
  | nil => rfl
  | cons d t ih =>
    have h0 := h 0 (by simp)
    rw [asksS, if_neg (by rw [show fitsB path d = false from h0]; decide)]
    exact ih (fun j hj => h (j + 1) (by simp; omega))
theorem asks_head {path : ByteArray} {l : List S53} (k : Nat) (hk : k < l.length) (hf : fitsB path (l.getD k z53) = true) (hb : ∀ j, j < k → fitsB path (l.getD j z53) = false) : ∃ t b, asksS path l = (l.getD k z53 :: t, b) := by
  induction l generalizing k with
  | nil => exact absurd hk (Nat.not_lt_zero _)
  | cons d t ih =>
    cases k with
    | zero =>
      have h0 : fitsB path d = true := hf
      rw [asksS, if_pos h0]
      by_cases h : d.f3 = true
      · rw [if_pos h]; exact ⟨_, _, rfl⟩
      · rw [if_neg h]; exact ⟨_, _, rfl⟩
    | succ k =>
      have h0 : fitsB path d = false := hb 0 (Nat.succ_pos _)
      rw [asksS, if_neg (by rw [h0]; decide)]
      exact ih k (by simpa using hk) hf (fun j hj => hb (j + 1) (by omega))
theorem one_none {path : ByteArray} {m : S46} (hn : ∀ j, j < m.f6.length → ((m.f6.getD j z25).f0.toList == path.toList) = false) (hd : ∀ j, j < m.f7.length → fitsB path (m.f7.getD j z53) = false) :
    walkS path [⟨TARGETS, m⟩] [first] [] = .none [TARGETS] := by
  rw [one_on hn, goOn_eq (asks_none hd)]
  exact walkS_nil _ _ _
theorem targets_word : TARGETS ∈ wordsL := by unfold wordsL TARGETS; simp
theorem deleg_name {m : S46} (hr : heldOk [⟨TARGETS, m⟩] = true) (k : Nat) (hk : k < m.f7.length) : (m.f7.getD k z53).f0 ≠ TARGETS := by
  have h1 := heldOk_at hr 0 (Nat.zero_lt_one)
  unfold heldAt metaR metaOk delegsOk at h1
  simp only [Bool.and_eq_true, decide_eq_true_eq] at h1
  obtain ⟨⟨⟨_, _⟩, ⟨_, ⟨_, hda⟩⟩⟩, _⟩ := h1
  have h2 : dgP m.f7 k (m.f7.getD k z53) = true := by
    unfold allK at hda
    exact List.all_eq_true.1 hda k (List.mem_range.2 hk)
  unfold dgP dgB at h2
  simp only [Bool.and_eq_true] at h2
  obtain ⟨⟨⟨⟨⟨⟨_, hw⟩, _⟩, _⟩, _⟩, _⟩, _⟩ := h2
  intro e
  rw [e, Bool.not_eq_true', List.any_eq_false] at hw
  exact hw TARGETS targets_word (beq_self_eq_true _)
theorem one_want {path : ByteArray} {m : S46} (hr : heldOk [⟨TARGETS, m⟩] = true) (hn : ∀ j, j < m.f6.length → ((m.f6.getD j z25).f0.toList == path.toList) = false)
    (k : Nat) (hk : k < m.f7.length) (hf : fitsB path (m.f7.getD k z53) = true) (hb : ∀ j, j < k → fitsB path (m.f7.getD j z53) = false) :
    walkS path [⟨TARGETS, m⟩] [first] [] = .want [TARGETS] (askOf m.f3 (m.f7.getD k z53)) := by
  obtain ⟨t, b, ha⟩ := asks_head k hk hf hb
  have hne := deleg_name hr k hk
  rw [one_on hn, goOn_eq (x := ⟨TARGETS, m⟩) ha, List.map_cons, List.cons_append]
  refine walkS_want _ _ _ _ _ (by decide) ?_ ?_
  · show ¬ wasSeen [TARGETS] (m.f7.getD k z53).f0 = true
    unfold wasSeen
    rw [List.any_cons, List.any_nil, Bool.or_false, beq_iff_eq]
    exact fun e => hne (bytes_ext e)
  · exact heldBy_none (fun x hx => by
      rw [List.mem_singleton] at hx
      subst hx
      exact fun e => hne e.symm)
theorem row_C {w w' : World} {A : Option Addr} {hs : List (List Value)} {x : S48} (h : (valK 9).C w' A 1 hs) (hH : HsAre w hs [x]) (hb : Below w.heap.size w w') : Kd.C k48 w' A ([x] : List S48).length [x] :=
  C_of_val (d := k48) h hH.1 (fun j c y hj hy => k48.K_below hb (hH.2 j c y hj hy))
theorem row_one {w w1 : World} {A : Option Addr} {hs : List (List Value)} {x : S48} (h : (valK 9).C w1 A 1 hs) (hH : HsAre w hs [x]) : ∃ ad c, A = some ad ∧ k48.K w x c ∧ ∀ i u, c[i]? = some u → w1.cell? (ad.add i) = some u := by
  obtain ⟨c, rfl⟩ : ∃ c, hs = [c] := List.length_eq_one_iff.1 hH.1
  obtain ⟨ad, c', e, _, hK, hc⟩ := Kd.C_get h [] (0 : Int) (by decide) (by decide)
  obtain rfl : c' = c := hK.1
  refine ⟨ad, c', e, hH.2 0 c' x rfl rfl, fun i u hu => ?_⟩
  have := hc i u hu
  rwa [show (0 : Int).toNat * (valK 9).sz + i = i from by simp] at this
theorem row_cell {w1 w4 : World} {ad : Addr} {c : List Value} (hb : Below w1.heap.size w1 w4) (h : ∀ i u, c[i]? = some u → w1.cell? (ad.add i) = some u) (i : Nat) (u : Value) (hu : c[i]? = some u) (hi : 0 < i := by decide) : w4.cell? ⟨ad.block, ad.off + i, none⟩ = some u := by
  have h1 := h i u hu
  replace h1 := (hb.cell (World.block_lt_of_cell? w1 _ h1)).trans h1
  cases i with
  | zero => exact absurd hi (Nat.lt_irrefl 0)
  | succ i => simpa [Addr.add] using h1
end Go.Proofs.YtgcflmhlegagbaaGreatDoor.R
end
section
set_option linter.unusedVariables false
set_option linter.unusedSimpArgs false
namespace Go.Proofs.YtgcflmhlegagbaaGreatDoor.R
open Go.RowKit Go.Lib Go.Shelf Go.Proofs.YtgcflmhlegagbaaGreatDoorW.PrintWords Go.Proofs.YtgcflmhlegagbaaGreatDoorW.PrintLast Go.Proofs.YtgcflmhlegagbaaGreatDoorW.PrintMore
open E
open X (S25 k25 z25 S28 k28 S53 k53 z53 S70 k70 S46 k46 S48 k48 z48)
attribute [local irreducible] heldOk fewS okW fileEq cutM fitsB G.which
attribute [local go_sem high] eqF
set_option maxHeartbeats 8000000 in
set_option maxRecDepth 100000 in
theorem None_not (path : ByteArray) (m : S46) (B3 B4 B6 B7 : Option Addr) (d3 d4 d6 d7 : Nat) (w : World) (ht : Tabs w)
    (hl3 : m.f3.length ≤ d3) (hC3 : Kd.C k70 w B3 m.f3.length m.f3) (hl4 : m.f4.length ≤ d4) (hC4 : Kd.C k28 w B4 m.f4.length m.f4) (hl6 : m.f6.length ≤ d6) (hC6 : Kd.C k25 w B6 m.f6.length m.f6) (hl7 : m.f7.length ≤ d7) (hC7 : Kd.C k53 w B7 m.f7.length m.f7)
    (hfit : FitH [⟨⟨#[116, 97, 114, 103, 101, 116, 115]⟩, cutM m⟩]) (hno : okW path [⟨⟨#[116, 97, 114, 103, 101, 116, 115]⟩, cutM m⟩] = false) :
    Calls Tryz.prog 7 #[.string path, .agg #[.int .i64 m.f0, .int .i64 m.f1, .int .i64 m.f2, .slice B3 m.f3.length d3, .slice B4 m.f4.length d4, .string m.f5, .slice B6 m.f6.length d6, .slice B7 m.f7.length d7]] w fun e w' => e = .returned (.bool true) ∧ Below w.heap.size w w' := by
  have hbA : Below w.heap.size w ((w.alloc (.cells #[.int .i64 m.f0, .int .i64 m.f1, .int .i64 m.f2, .slice B3 m.f3.length d3, .slice B4 m.f4.length d4, .string m.f5, .slice B6 m.f6.length d6, .slice B7 m.f7.length d7] 46)).alloc (.cells #[.string ⟨#[116, 97, 114, 103, 101, 116, 115]⟩, .int .i64 m.f0, .int .i64 m.f1, .int .i64 m.f2, .slice B3 m.f3.length d3, .slice B4 m.f4.length d4, .string m.f5, .slice B6 m.f6.length d6, .slice B7 m.f7.length d7] 48)) := below_step (below_alloc (Below.refl w.heap.size w) (.cells #[.int .i64 m.f0, .int .i64 m.f1, .int .i64 m.f2, .slice B3 m.f3.length d3, .slice B4 m.f4.length d4, .string m.f5, .slice B6 m.f6.length d6, .slice B7 m.f7.length d7] 46)) (below_alloc (Below.refl _ _) (.cells #[.string ⟨#[116, 97, 114, 103, 101, 116, 115]⟩, .int .i64 m.f0, .int .i64 m.f1, .int .i64 m.f2, .slice B3 m.f3.length d3, .slice B4 m.f4.length d4, .string m.f5, .slice B6 m.f6.length d6, .slice B7 m.f7.length d7] 48))
  have hrw : ((w.alloc (.cells #[.int .i64 m.f0, .int .i64 m.f1, .int .i64 m.f2, .slice B3 m.f3.length d3, .slice B4 m.f4.length d4, .string m.f5, .slice B6 m.f6.length d6, .slice B7 m.f7.length d7] 46)).alloc (.cells #[.string ⟨#[116, 97, 114, 103, 101, 116, 115]⟩, .int .i64 m.f0, .int .i64 m.f1, .int .i64 m.f2, .slice B3 m.f3.length d3, .slice B4 m.f4.length d4, .string m.f5, .slice B6 m.f6.length d6, .slice B7 m.f7.length d7] 48)).heap[w.heap.size + 1]? = some (.cells #[.string ⟨#[116, 97, 114, 103, 101, 116, 115]⟩, .int .i64 m.f0, .int .i64 m.f1, .int .i64 m.f2, .slice B3 m.f3.length d3, .slice B4 m.f4.length d4, .string m.f5, .slice B6 m.f6.length d6, .slice B7 m.f7.length d7] 48 (0, 0)) := by
    have h := blk_new (w.alloc (.cells #[.int .i64 m.f0, .int .i64 m.f1, .int .i64 m.f2, .slice B3 m.f3.length d3, .slice B4 m.f4.length d4, .string m.f5, .slice B6 m.f6.length d6, .slice B7 m.f7.length d7] 46)) (.cells #[.string ⟨#[116, 97, 114, 103, 101, 116, 115]⟩, .int .i64 m.f0, .int .i64 m.f1, .int .i64 m.f2, .slice B3 m.f3.length d3, .slice B4 m.f4.length d4, .string m.f5, .slice B6 m.f6.length d6, .slice B7 m.f7.length d7] 48)
    rwa [show (w.alloc (.cells #[.int .i64 m.f0, .int .i64 m.f1, .int .i64 m.f2, .slice B3 m.f3.length d3, .slice B4 m.f4.length d4, .string m.f5, .slice B6 m.f6.length d6, .slice B7 m.f7.length d7] 46)).heap.size = w.heap.size + 1 from by simp] at h
  have hbx : ((w.alloc (.cells #[.int .i64 m.f0, .int .i64 m.f1, .int .i64 m.f2, .slice B3 m.f3.length d3, .slice B4 m.f4.length d4, .string m.f5, .slice B6 m.f6.length d6, .slice B7 m.f7.length d7] 46)).alloc (.cells #[.string ⟨#[116, 97, 114, 103, 101, 116, 115]⟩, .int .i64 m.f0, .int .i64 m.f1, .int .i64 m.f2, .slice B3 m.f3.length d3, .slice B4 m.f4.length d4, .string m.f5, .slice B6 m.f6.length d6, .slice B7 m.f7.length d7] 48)).heap[w.heap.size]? = some (.cells #[.int .i64 m.f0, .int .i64 m.f1, .int .i64 m.f2, .slice B3 m.f3.length d3, .slice B4 m.f4.length d4, .string m.f5, .slice B6 m.f6.length d6, .slice B7 m.f7.length d7] 46 (0, 0)) := blk_alloc (blk_new w (.cells #[.int .i64 m.f0, .int .i64 m.f1, .int .i64 m.f2, .slice B3 m.f3.length d3, .slice B4 m.f4.length d4, .string m.f5, .slice B6 m.f6.length d6, .slice B7 m.f7.length d7] 46)) (.cells #[.string ⟨#[116, 97, 114, 103, 101, 116, 115]⟩, .int .i64 m.f0, .int .i64 m.f1, .int .i64 m.f2, .slice B3 m.f3.length d3, .slice B4 m.f4.length d4, .string m.f5, .slice B6 m.f6.length d6, .slice B7 m.f7.length d7] 48)
  have HF := Aside0.mk (few_val1 w (some ⟨w.heap.size + 1, 0, none⟩) 1 ⟨#[116, 97, 114, 103, 101, 116, 115]⟩ m (#[.string ⟨#[116, 97, 114, 103, 101, 116, 115]⟩, .int .i64 m.f0, .int .i64 m.f1, .int .i64 m.f2, .slice B3 m.f3.length d3, .slice B4 m.f4.length d4, .string m.f5, .slice B6 m.f6.length d6, .slice B7 m.f7.length d7] : Array Value).toList ((w.alloc (.cells #[.int .i64 m.f0, .int .i64 m.f1, .int .i64 m.f2, .slice B3 m.f3.length d3, .slice B4 m.f4.length d4, .string m.f5, .slice B6 m.f6.length d6, .slice B7 m.f7.length d7] 46)).alloc (.cells #[.string ⟨#[116, 97, 114, 103, 101, 116, 115]⟩, .int .i64 m.f0, .int .i64 m.f1, .int .i64 m.f2, .slice B3 m.f3.length d3, .slice B4 m.f4.length d4, .string m.f5, .slice B6 m.f6.length d6, .slice B7 m.f7.length d7] 48)) (C_one hrw rfl (by simp [Value.oneCell'])) (X.k48_mk w ⟨⟨#[116, 97, 114, 103, 101, 116, 115]⟩, m⟩ hl3 hC3 hl4 hC4 hl6 hC6 hl7 hC7) (Nat.le_refl 1))
  have HBA := Aside0.mk hbA
  have HBX := Aside0.mk hbx
  have HT := Aside0.mk ht
  have HL := Aside0.mk (fun (W : World) (hT : Tabs W) => alive_any W hT)
  have HMY := Aside0.mk (fun (W : World) (hT : Tabs W) => may_any path W hT)
  have HR := Aside0.mk (fun (A1 : Option Addr) (c1 : Nat) (W : World) (hC : Kd.C k48 W A1 1 [⟨⟨#[116, 97, 114, 103, 101, 116, 115]⟩, cutM m⟩]) (h1 : 1 ≤ c1) => show Calls Tryz.prog 10 #[.slice A1 1 c1] W fun e w' => e = .returned (.bool (heldOk [⟨⟨#[116, 97, 114, 103, 101, 116, 115]⟩, cutM m⟩])) ∧ Below W.heap.size W w' from held_c A1 c1 [⟨⟨#[116, 97, 114, 103, 101, 116, 115]⟩, cutM m⟩] W hC h1 hfit)
  clear hbA hrw hbx ht hl3 hC3 hl4 hC4 hl6 hC6 hl7 hC7 hfit
  have HW := Aside0.mk (fun (A1 : Option Addr) (c1 : Nat) (W : World) (h1 : 1 ≤ c1) (hC : Kd.C k48 W A1 1 [⟨⟨#[116, 97, 114, 103, 101, 116, 115]⟩, cutM m⟩]) (hT : Tabs W) => show Calls Tryz.prog 9 #[.string path, .slice A1 1 c1] W fun e w' => e = .returned (.tuple #[.agg #[.int .i64 0, .string ⟨#[]⟩, .int .i64 0, .int .i64 0, .string ⟨#[]⟩, .string ⟨#[]⟩, .slice none 0 0, .string ⟨#[]⟩, .slice none 0 0, .int .i64 0, .slice none 0 0], .int .i64 1]) ∧ Below W.heap.size W w' from
    (Walk_any path A1 c1 [⟨⟨#[116, 97, 114, 103, 101, 116, 115]⟩, cutM m⟩] W hT hC h1).mono fun e w' ⟨cs, h, hb⟩ => by
      rcases h with ⟨h, _, _⟩ | ⟨_, rfl, rfl⟩
      · rw [hno] at h; exact absurd h (by decide)
      · exact ⟨rfl, hb⟩)
  have hno2 : (G.right false path.data.toList && heldOk [⟨⟨#[116, 97, 114, 103, 101, 116, 115]⟩, cutM m⟩]) = false := by have h := hno; unfold okW at h; exact h
  clear hno
  generalize heldOk [⟨⟨#[116, 97, 114, 103, 101, 116, 115]⟩, cutM m⟩] = bh at *
  generalize G.right false path.data.toList = bp at *
  go_enter Tryz.func7, Tryz.ntmps7
  cases bh
  · clear hno2
    go_wp2_with (first
      | (go_at_call 8; (with_reducible refine HF.out.mono ?_); rintro e w1 ⟨A1, c1, hs1, rfl, hl1, hC1v, hHA, hb1⟩; have HB1 := Aside0.mk (below_step HBA.out hb1); have HC1 := Aside0.mk (row_C hC1v hHA HB1.out); have HCV := Aside0.mk hC1v; have HHA := Aside0.mk hHA; have HB01 := Aside0.mk hb1; clear hb1 hC1v hHA)
      | (go_at_call 9; (with_reducible refine (HW.out _ _ _ hl1 HC1.out (HT.out.below HB1.out)).mono ?_); rintro e w2 ⟨rfl, hb2⟩; have HB12 := Aside0.mk (below_step hb2 (below_alloc (Below.refl _ _) (.cells #[.int .i64 0, .string ⟨#[]⟩, .int .i64 0, .int .i64 0, .string ⟨#[]⟩, .string ⟨#[]⟩, .slice none 0 0, .string ⟨#[]⟩, .slice none 0 0, .int .i64 0, .slice none 0 0] 31))); have HB2 := Aside0.mk (below_step HB1.out HB12.out); clear hb2)
      | (go_at_call 10; (with_reducible refine (HR.out _ _ _ (Kd.C_below HC1.out HB12.out) hl1).mono ?_); rintro e w3 ⟨rfl, hb3⟩; have HB3 := Aside0.mk (below_step HB2.out hb3); skip; clear hb3)
      | (go_at_call 12; (with_reducible refine (HL.out _ (HT.out.below HB3.out)).mono ?_); rintro e w5 ⟨rfl, hb5⟩; have HB5 := Aside0.mk (below_step HB3.out hb5); skip; clear hb5))
    go_ret
    exact ⟨rfl, HB5.out⟩
  · obtain rfl : bp = false := by simpa using hno2
    go_wp2_with (first
      | (go_at_call 8; (with_reducible refine HF.out.mono ?_); rintro e w1 ⟨A1, c1, hs1, rfl, hl1, hC1v, hHA, hb1⟩; have HB1 := Aside0.mk (below_step HBA.out hb1); have HC1 := Aside0.mk (row_C hC1v hHA HB1.out); have HCV := Aside0.mk hC1v; have HHA := Aside0.mk hHA; have HB01 := Aside0.mk hb1; clear hb1 hC1v hHA)
      | (go_at_call 9; (with_reducible refine (HW.out _ _ _ hl1 HC1.out (HT.out.below HB1.out)).mono ?_); rintro e w2 ⟨rfl, hb2⟩; have HB12 := Aside0.mk (below_step hb2 (below_alloc (Below.refl _ _) (.cells #[.int .i64 0, .string ⟨#[]⟩, .int .i64 0, .int .i64 0, .string ⟨#[]⟩, .string ⟨#[]⟩, .slice none 0 0, .string ⟨#[]⟩, .slice none 0 0, .int .i64 0, .slice none 0 0] 31))); have HB2 := Aside0.mk (below_step HB1.out HB12.out); clear hb2)
      | (go_at_call 10; (with_reducible refine (HR.out _ _ _ (Kd.C_below HC1.out HB12.out) hl1).mono ?_); rintro e w3 ⟨rfl, hb3⟩; have HB3 := Aside0.mk (below_step HB2.out hb3); skip; clear hb3)
      | (go_at_call 13; (with_reducible refine (HMY.out _ (HT.out.below HB3.out)).mono ?_); rintro e w4 ⟨rfl, hb4⟩; have HB4 := Aside0.mk (below_step HB3.out hb4); skip; clear hb4)
      | (go_at_call 12; (with_reducible refine (HL.out _ (HT.out.below HB4.out)).mono ?_); rintro e w5 ⟨rfl, hb5⟩; have HB5 := Aside0.mk (below_step HB4.out hb5); skip; clear hb5))
    go_ret
    exact ⟨rfl, HB5.out⟩
set_option maxHeartbeats 8000000 in
set_option maxRecDepth 100000 in
theorem None_ok (path : ByteArray) (m : S46) (B3 B4 B6 B7 : Option Addr) (d3 d4 d6 d7 : Nat) (w : World) (ht : Tabs w)
    (hl3 : m.f3.length ≤ d3) (hC3 : Kd.C k70 w B3 m.f3.length m.f3) (hl4 : m.f4.length ≤ d4) (hC4 : Kd.C k28 w B4 m.f4.length m.f4) (hl6 : m.f6.length ≤ d6) (hC6 : Kd.C k25 w B6 m.f6.length m.f6) (hl7 : m.f7.length ≤ d7) (hC7 : Kd.C k53 w B7 m.f7.length m.f7)
    (hfit : FitH [⟨⟨#[116, 97, 114, 103, 101, 116, 115]⟩, cutM m⟩]) (hok : okW path [⟨⟨#[116, 97, 114, 103, 101, 116, 115]⟩, cutM m⟩] = true) :
    Calls Tryz.prog 7 #[.string path, .agg #[.int .i64 m.f0, .int .i64 m.f1, .int .i64 m.f2, .slice B3 m.f3.length d3, .slice B4 m.f4.length d4, .string m.f5, .slice B6 m.f6.length d6, .slice B7 m.f7.length d7]] w fun e w' => e = .returned (.bool true) ∧ Below w.heap.size w w' := by
  have hbA : Below w.heap.size w ((w.alloc (.cells #[.int .i64 m.f0, .int .i64 m.f1, .int .i64 m.f2, .slice B3 m.f3.length d3, .slice B4 m.f4.length d4, .string m.f5, .slice B6 m.f6.length d6, .slice B7 m.f7.length d7] 46)).alloc (.cells #[.string ⟨#[116, 97, 114, 103, 101, 116, 115]⟩, .int .i64 m.f0, .int .i64 m.f1, .int .i64 m.f2, .slice B3 m.f3.length d3, .slice B4 m.f4.length d4, .string m.f5, .slice B6 m.f6.length d6, .slice B7 m.f7.length d7] 48)) := below_step (below_alloc (Below.refl w.heap.size w) (.cells #[.int .i64 m.f0, .int .i64 m.f1, .int .i64 m.f2, .slice B3 m.f3.length d3, .slice B4 m.f4.length d4, .string m.f5, .slice B6 m.f6.length d6, .slice B7 m.f7.length d7] 46)) (below_alloc (Below.refl _ _) (.cells #[.string ⟨#[116, 97, 114, 103, 101, 116, 115]⟩, .int .i64 m.f0, .int .i64 m.f1, .int .i64 m.f2, .slice B3 m.f3.length d3, .slice B4 m.f4.length d4, .string m.f5, .slice B6 m.f6.length d6, .slice B7 m.f7.length d7] 48))
  have hrw : ((w.alloc (.cells #[.int .i64 m.f0, .int .i64 m.f1, .int .i64 m.f2, .slice B3 m.f3.length d3, .slice B4 m.f4.length d4, .string m.f5, .slice B6 m.f6.length d6, .slice B7 m.f7.length d7] 46)).alloc (.cells #[.string ⟨#[116, 97, 114, 103, 101, 116, 115]⟩, .int .i64 m.f0, .int .i64 m.f1, .int .i64 m.f2, .slice B3 m.f3.length d3, .slice B4 m.f4.length d4, .string m.f5, .slice B6 m.f6.length d6, .slice B7 m.f7.length d7] 48)).heap[w.heap.size + 1]? = some (.cells #[.string ⟨#[116, 97, 114, 103, 101, 116, 115]⟩, .int .i64 m.f0, .int .i64 m.f1, .int .i64 m.f2, .slice B3 m.f3.length d3, .slice B4 m.f4.length d4, .string m.f5, .slice B6 m.f6.length d6, .slice B7 m.f7.length d7] 48 (0, 0)) := by
    have h := blk_new (w.alloc (.cells #[.int .i64 m.f0, .int .i64 m.f1, .int .i64 m.f2, .slice B3 m.f3.length d3, .slice B4 m.f4.length d4, .string m.f5, .slice B6 m.f6.length d6, .slice B7 m.f7.length d7] 46)) (.cells #[.string ⟨#[116, 97, 114, 103, 101, 116, 115]⟩, .int .i64 m.f0, .int .i64 m.f1, .int .i64 m.f2, .slice B3 m.f3.length d3, .slice B4 m.f4.length d4, .string m.f5, .slice B6 m.f6.length d6, .slice B7 m.f7.length d7] 48)
    rwa [show (w.alloc (.cells #[.int .i64 m.f0, .int .i64 m.f1, .int .i64 m.f2, .slice B3 m.f3.length d3, .slice B4 m.f4.length d4, .string m.f5, .slice B6 m.f6.length d6, .slice B7 m.f7.length d7] 46)).heap.size = w.heap.size + 1 from by simp] at h
  have hbx : ((w.alloc (.cells #[.int .i64 m.f0, .int .i64 m.f1, .int .i64 m.f2, .slice B3 m.f3.length d3, .slice B4 m.f4.length d4, .string m.f5, .slice B6 m.f6.length d6, .slice B7 m.f7.length d7] 46)).alloc (.cells #[.string ⟨#[116, 97, 114, 103, 101, 116, 115]⟩, .int .i64 m.f0, .int .i64 m.f1, .int .i64 m.f2, .slice B3 m.f3.length d3, .slice B4 m.f4.length d4, .string m.f5, .slice B6 m.f6.length d6, .slice B7 m.f7.length d7] 48)).heap[w.heap.size]? = some (.cells #[.int .i64 m.f0, .int .i64 m.f1, .int .i64 m.f2, .slice B3 m.f3.length d3, .slice B4 m.f4.length d4, .string m.f5, .slice B6 m.f6.length d6, .slice B7 m.f7.length d7] 46 (0, 0)) := blk_alloc (blk_new w (.cells #[.int .i64 m.f0, .int .i64 m.f1, .int .i64 m.f2, .slice B3 m.f3.length d3, .slice B4 m.f4.length d4, .string m.f5, .slice B6 m.f6.length d6, .slice B7 m.f7.length d7] 46)) (.cells #[.string ⟨#[116, 97, 114, 103, 101, 116, 115]⟩, .int .i64 m.f0, .int .i64 m.f1, .int .i64 m.f2, .slice B3 m.f3.length d3, .slice B4 m.f4.length d4, .string m.f5, .slice B6 m.f6.length d6, .slice B7 m.f7.length d7] 48)
  have HF := Aside0.mk (few_val1 w (some ⟨w.heap.size + 1, 0, none⟩) 1 ⟨#[116, 97, 114, 103, 101, 116, 115]⟩ m (#[.string ⟨#[116, 97, 114, 103, 101, 116, 115]⟩, .int .i64 m.f0, .int .i64 m.f1, .int .i64 m.f2, .slice B3 m.f3.length d3, .slice B4 m.f4.length d4, .string m.f5, .slice B6 m.f6.length d6, .slice B7 m.f7.length d7] : Array Value).toList ((w.alloc (.cells #[.int .i64 m.f0, .int .i64 m.f1, .int .i64 m.f2, .slice B3 m.f3.length d3, .slice B4 m.f4.length d4, .string m.f5, .slice B6 m.f6.length d6, .slice B7 m.f7.length d7] 46)).alloc (.cells #[.string ⟨#[116, 97, 114, 103, 101, 116, 115]⟩, .int .i64 m.f0, .int .i64 m.f1, .int .i64 m.f2, .slice B3 m.f3.length d3, .slice B4 m.f4.length d4, .string m.f5, .slice B6 m.f6.length d6, .slice B7 m.f7.length d7] 48)) (C_one hrw rfl (by simp [Value.oneCell'])) (X.k48_mk w ⟨⟨#[116, 97, 114, 103, 101, 116, 115]⟩, m⟩ hl3 hC3 hl4 hC4 hl6 hC6 hl7 hC7) (Nat.le_refl 1))
  have HBA := Aside0.mk hbA
  have HBX := Aside0.mk hbx
  have HT := Aside0.mk ht
  have HL := Aside0.mk (fun (W : World) (hT : Tabs W) => alive_any W hT)
  have HMY := Aside0.mk (fun (W : World) (hT : Tabs W) => may_any path W hT)
  have HR := Aside0.mk (fun (A1 : Option Addr) (c1 : Nat) (W : World) (hC : Kd.C k48 W A1 1 [⟨⟨#[116, 97, 114, 103, 101, 116, 115]⟩, cutM m⟩]) (h1 : 1 ≤ c1) => show Calls Tryz.prog 10 #[.slice A1 1 c1] W fun e w' => e = .returned (.bool (heldOk [⟨⟨#[116, 97, 114, 103, 101, 116, 115]⟩, cutM m⟩])) ∧ Below W.heap.size W w' from held_c A1 c1 [⟨⟨#[116, 97, 114, 103, 101, 116, 115]⟩, cutM m⟩] W hC h1 hfit)
  clear hbA hrw hbx ht hl3 hC3 hl4 hC4 hl6 hC6 hl7 hC7 hfit
  have hok2 : G.right false path.data.toList = true ∧ heldOk [⟨⟨#[116, 97, 114, 103, 101, 116, 115]⟩, cutM m⟩] = true := by
    have h := hok
    unfold okW at h
    rw [Bool.and_eq_true] at h
    exact h
  clear hok
  obtain ⟨hp, hr⟩ := hok2
  generalize cutM m = m' at *
  have HFT := Aside0.mk (Fits.of hr (List.mem_singleton.2 rfl))
  have hps := path_short hp
  have HW := Aside0.mk (fun (A1 : Option Addr) (c1 : Nat) (W : World) (h1 : 1 ≤ c1) (hC : Kd.C k48 W A1 1 [⟨⟨#[116, 97, 114, 103, 101, 116, 115]⟩, m'⟩]) (hT : Tabs W) => show Calls Tryz.prog 9 #[.string path, .slice A1 1 c1] W fun e w' => ∃ cs, e = .returned (.tuple #[.agg cs, .int .i64 0]) ∧ WalkIs w' cs (walkS path [⟨⟨#[116, 97, 114, 103, 101, 116, 115]⟩, m'⟩] [first] []) ∧ Below W.heap.size W w' from Walk_ok path A1 c1 [⟨⟨#[116, 97, 114, 103, 101, 116, 115]⟩, m'⟩] W hT hC h1 hp hr)
  rw [hr] at HR
  rw [hp] at HMY
  obtain ⟨out, hout⟩ : ∃ out, walkS path [⟨⟨#[116, 97, 114, 103, 101, 116, 115]⟩, m'⟩] [first] [] = out := ⟨_, rfl⟩
  have HFOUND := Aside0.mk (fun (k : Nat) hk h hb => hout.symm.trans (one_found (path := path) (m := m') k hk h hb))
  have HWANT := Aside0.mk (fun hn (k : Nat) hk hf hb => hout.symm.trans (one_want (path := path) (m := m') hr hn k hk hf hb))
  have HNONE := Aside0.mk (fun hn hd => hout.symm.trans (one_none (path := path) (m := m') hn hd))
  rw [hout] at HW
  have hf32 := HFT.out.files
  have hd16 := HFT.out.delegs
  replace hf32 : m'.f6.length ≤ 32 := hf32
  replace hd16 : m'.f7.length ≤ 16 := hd16
  clear hp hr hout
  go_enter Tryz.func7, Tryz.ntmps7
  go_wp2_with (first
    | (go_at_call 8; (with_reducible refine HF.out.mono ?_); rintro e w1 ⟨A1, c1, hs1, rfl, hl1, hC1v, hHA, hb1⟩; have HB1 := Aside0.mk (below_step HBA.out hb1); have HC1 := Aside0.mk (row_C hC1v hHA HB1.out); obtain ⟨ad, cc, rfl, hK, hcc⟩ := row_one hC1v hHA; obtain ⟨a4, k4, a5, k5, a7, k7, a8, k8, rfl, l4, g4, l5, g5, l7, g7, l8, g8⟩ := X.k48_open hK; have HG7 := Aside0.mk g7; have HG8 := Aside0.mk g8; have HCC := Aside0.mk hcc; have HX1 := Aside0.mk ((hb1.block _ (blk_lt HBX.out)).trans HBX.out); clear hb1 hC1v hHA hK hcc g4 g5 g7 g8 l4 l5)
    | (go_at_call 9; (with_reducible refine (HW.out _ _ _ hl1 HC1.out (HT.out.below HB1.out)).mono ?_); rintro e w2 ⟨cs, rfl, hwi, hb2⟩; obtain ⟨st, f, b, As, ks, wn, Ai, ki, Ak, kk, rfl, hOI, _, _, _, _, _, _⟩ := hwi.openAll; have HOI := Aside0.mk hOI; have H62 := Aside0.mk (blk_new w2 (.cells #[.int .i64 st, .string f.f0, .int .i64 f.f1, .int .i64 f.f2, .string f.f3, .string b, .slice As (seenOf out).length ks, .string wn, .slice Ai (roleOf out).1.length ki, .int .i64 (roleOf out).2.1, .slice Ak (roleOf out).2.2.length kk] 31)); have HB12 := Aside0.mk (below_step hb2 (below_alloc (Below.refl _ _) (.cells #[.int .i64 st, .string f.f0, .int .i64 f.f1, .int .i64 f.f2, .string f.f3, .string b, .slice As (seenOf out).length ks, .string wn, .slice Ai (roleOf out).1.length ki, .int .i64 (roleOf out).2.1, .slice Ak (roleOf out).2.2.length kk] 31))); have HB2 := Aside0.mk (below_step HB1.out HB12.out); have HX2 := Aside0.mk ((HB12.out.block _ (blk_lt HX1.out)).trans HX1.out); have hne : w2.heap.size ≠ w.heap.size := (by have h1 := HB12.out.size; have h2 := HB1.out.size; have h3 := blk_lt HX1.out; have h4 := hb2.size; omega); clear hb2 hwi hOI)
    | (go_at_call 10; (with_reducible refine (HR.out _ _ _ (Kd.C_below HC1.out HB12.out) hl1).mono ?_); rintro e w3 ⟨rfl, hb3⟩; have HB13 := Aside0.mk (below_step HB12.out hb3); have HB3 := Aside0.mk (below_step HB2.out hb3); have H63 := Aside0.mk ((hb3.block _ (blk_lt H62.out)).trans H62.out); have HX3 := Aside0.mk ((hb3.block _ (blk_lt HX2.out)).trans HX2.out); clear hb3)
    | (go_at_call 13; (with_reducible refine (HMY.out _ (HT.out.below HB3.out)).mono ?_); rintro e w4 ⟨rfl, hb4⟩; have HB14 := Aside0.mk (below_step HB13.out hb4); have HB4 := Aside0.mk (below_step HB3.out hb4); have H64 := Aside0.mk ((hb4.block _ (blk_lt H63.out)).trans H63.out); have HX4 := Aside0.mk ((hb4.block _ (blk_lt HX3.out)).trans HX3.out); have r1 := row_cell HB14.out HCC.out 1 (.int .i64 m'.f0) rfl; have r2 := row_cell HB14.out HCC.out 2 (.int .i64 m'.f1) rfl; have r3 := row_cell HB14.out HCC.out 3 (.int .i64 m'.f2) rfl; have r4 := row_cell HB14.out HCC.out 4 (.slice a4 m'.f3.length k4) rfl; have r5 := row_cell HB14.out HCC.out 5 (.slice a5 m'.f4.length k5) rfl; have r6 := row_cell HB14.out HCC.out 6 (.string m'.f5) rfl; have r7 := row_cell HB14.out HCC.out 7 (.slice a7 m'.f6.length k7) rfl; have r8 := row_cell HB14.out HCC.out 8 (.slice a8 m'.f7.length k8) rfl; clear hb4)
    | (refine wpList_store_row rfl 46 _ _ rfl w.heap.size #[.int .i64 m'.f0, .int .i64 m'.f1, .int .i64 m'.f2, .slice a4 m'.f3.length k4, .slice a5 m'.f4.length k5, .string m'.f5, .slice a7 m'.f6.length k7, .slice a8 m'.f7.length k8] rfl rfl 46 _ HX4.out (by kernel_rfl) rfl (by simp [Value.oneCell']) ?_; obtain ⟨W5, hW5, H5, HB5, H65⟩ : ∃ W5, w4.setRow w.heap.size #[.int .i64 m'.f0, .int .i64 m'.f1, .int .i64 m'.f2, .slice a4 m'.f3.length k4, .slice a5 m'.f4.length k5, .string m'.f5, .slice a7 m'.f6.length k7, .slice a8 m'.f7.length k8] = W5 ∧ Aside0 (W5.heap[w.heap.size]? = some (.cells #[.int .i64 m'.f0, .int .i64 m'.f1, .int .i64 m'.f2, .slice a4 m'.f3.length k4, .slice a5 m'.f4.length k5, .string m'.f5, .slice a7 m'.f6.length k7, .slice a8 m'.f7.length k8] 46 (0, 0))) ∧ Aside0 (Below w.heap.size w W5) ∧ Aside0 (W5.heap[w2.heap.size]? = some (.cells #[.int .i64 st, .string f.f0, .int .i64 f.f1, .int .i64 f.f2, .string f.f3, .string b, .slice As (seenOf out).length ks, .string wn, .slice Ai (roleOf out).1.length ki, .int .i64 (roleOf out).2.1, .slice Ak (roleOf out).2.2.length kk] 31 (0, 0))) := ⟨_, rfl, Aside0.mk (setRow_heap _ _ _ _ _ _ HX4.out), Aside0.mk (K.below_setRow HB4.out (Nat.le_refl _) _), Aside0.mk ((setRow_other _ _ _ _ hne).trans H64.out)⟩; rw [hW5]; clear hW5 r1 r2 r3 r4 r5 r6 r7 r8; have s6 := cell_of_block H5.out 6 (.slice a7 m'.f6.length k7) rfl))
  clear s6
  generalize hg6 : w2.heap.size = g6 at H65 ⊢
  go_loopg [44] m'.f6.length (fun gg s44 wr => ∃ k : Nat, k ≤ m'.f6.length ∧ m'.f6.length - k ≤ gg ∧ s44 = .int .i64 k ∧ Aside (Below W5.heap.size W5 wr) ∧ Aside (∀ j, j < k → ((m'.f6.getD j z25).f0.toList == path.toList) = false))
  case atStart => exact ⟨0, Nat.zero_le _, by omega, rfl, Below.refl _ _, fun j hj => absurd hj (Nat.not_lt_zero _)⟩
  case round =>
    obtain ⟨k, hk, hg, rfl, BW, AN⟩ := hrel
    by_cases hlt : k < m'.f6.length
    · have hltz : (k : Int) < (m'.f6.length : Int) := by omega
      have hk0 : (0 : Int) ≤ (k : Int) := by omega
      obtain ⟨ad7, rfl, c0, c1', c2, c3⟩ := X.at_T25 HG7.out (k : Int) (by omega) (by omega)
      rw [rd25, Int.toNat_natCast] at c0 c1' c2 c3
      obtain ⟨y, hy⟩ : ∃ y, m'.f6.getD k z25 = y := ⟨_, rfl⟩
      rw [hy] at c0 c1' c2 c3
      replace c0 := (HB5.out.cell (World.block_lt_of_cell? w _ c0)).trans c0
      replace c0 := (BW.out.cell (World.block_lt_of_cell? W5 _ c0)).trans c0
      replace c1' := (HB5.out.cell (World.block_lt_of_cell? w _ c1')).trans c1'
      replace c1' := (BW.out.cell (World.block_lt_of_cell? W5 _ c1')).trans c1'
      replace c2 := (HB5.out.cell (World.block_lt_of_cell? w _ c2)).trans c2
      replace c2 := (BW.out.cell (World.block_lt_of_cell? W5 _ c2)).trans c2
      replace c3 := (HB5.out.cell (World.block_lt_of_cell? w _ c3)).trans c3
      replace c3 := (BW.out.cell (World.block_lt_of_cell? W5 _ c3)).trans c3
      have BA := Aside0.mk (below_step HB5.out (below_step BW.out (below_alloc (Below.refl wr.heap.size wr) (.cells #[.string y.f0, .int .i64 y.f1, .int .i64 y.f2, .string y.f3] 25))))
      have BN := Aside0.mk (below_step BW.out (below_alloc (Below.refl wr.heap.size wr) (.cells #[.string y.f0, .int .i64 y.f1, .int .i64 y.f2, .string y.f3] 25)))
      have Z9 := Aside0.mk (blk_new wr (.cells #[.string y.f0, .int .i64 y.f1, .int .i64 y.f2, .string y.f3] 25))
      have Z6 := Aside0.mk ((BN.out.block _ (blk_lt H65.out)).trans H65.out)
      cases e : (y.f0.toList == path.toList)
      · have AN2 := Aside0.mk (show ∀ j, j < k + 1 → ((m'.f6.getD j z25).f0.toList == path.toList) = false from fun j hj => by
          by_cases ej : j = k
          · subst ej; rw [hy]; exact e
          · exact AN.out j (by omega))
        clear Z9 Z6 hy
        go_wp2
        go_roundg (m'.f6.length - (k + 1))
        case measure => omega
        case rel => exact ⟨k + 1, by omega, by omega, by go_num, BN.out, AN2.out⟩
      · have hoi := HOI.out
        rw [HFOUND.out k hlt (by rw [hy]; exact e) AN.out] at hoi
        obtain ⟨rfl, rfl, _, _⟩ := hoi
        rw [hy] at Z6
        have hfe := fileEq_self y
        clear hy HOI
        go_wp2_with (first
          | (go_at_call 12; (with_reducible refine (HL.out _ (HT.out.below BA.out)).mono ?_); rintro e w6 ⟨rfl, hb6⟩; have B6 := Aside0.mk (below_step BA.out hb6); have z6 := (hb6.block _ (blk_lt Z6.out)).trans Z6.out; have x0 := cell_of_block z6 0 (.int .i64 1) rfl; have x1 := cell_of_block z6 1 (.string y.f0) rfl; have x2 := cell_of_block z6 2 (.int .i64 y.f1) rfl; have x3 := cell_of_block z6 3 (.int .i64 y.f2) rfl; have x4 := cell_of_block z6 4 (.string y.f3) rfl; have z9 := (hb6.block _ (blk_lt Z9.out)).trans Z9.out; have y0 := cell_of_block z9 0 (.string y.f0) rfl; have y1 := cell_of_block z9 1 (.int .i64 y.f1) rfl; have y2 := cell_of_block z9 2 (.int .i64 y.f2) rfl; have y3 := cell_of_block z9 3 (.string y.f3) rfl; clear z6 z9; clear hb6))
        go_ret
        exact ⟨rfl, B6.out⟩
    · have hltz : ¬ (k : Int) < (m'.f6.length : Int) := by omega
      have HN := Aside0.mk (show ∀ j, j < m'.f6.length → ((m'.f6.getD j z25).f0.toList == path.toList) = false from fun j hj => AN.out j (by omega))
      have s7 := cell_of_block ((BW.out.block _ (blk_lt H5.out)).trans H5.out) 7 (.slice a8 m'.f7.length k8) rfl
      clear AN
      go_wp2
      clear s7
      have BW2 := Aside0.mk BW.out
      generalize hwo : wr = wo at *
      clear hwo BW
      go_loopg [72] m'.f7.length (fun gg s72 wr => ∃ k : Nat, k ≤ m'.f7.length ∧ m'.f7.length - k ≤ gg ∧ s72 = .int .i64 k ∧ Aside (Below W5.heap.size W5 wr) ∧ Aside (∀ j, j < k → fitsB path (m'.f7.getD j z53) = false))
      case atStart => exact ⟨0, Nat.zero_le _, by omega, rfl, BW2.out, fun j hj => absurd hj (Nat.not_lt_zero _)⟩
      case round =>
        obtain ⟨n, hn, hg2, rfl, BZ, AD⟩ := hrel
        by_cases hltn : n < m'.f7.length
        · have hltnz : (n : Int) < (m'.f7.length : Int) := by omega
          have hn0 : (0 : Int) ≤ (n : Int) := by omega
          obtain ⟨ad8, A1', k1', A3', k3', rfl, c0, c1', c2, c3, c4, l1', g1', l3', g3'⟩ := X.at_T53 HG8.out (n : Int) (by omega) (by omega)
          have hmem : m'.f7.getD n z53 ∈ m'.f7 := by
            rw [List.getD_eq_getElem?_getD, List.getElem?_eq_getElem hltn]; exact List.getElem_mem hltn
          have hzs := HFT.out.paths _ hmem
          rw [rd53] at c0 c1' c2 c3 c4 l1' g1' l3' g3'
          rw [Int.toNat_natCast] at c0 c1' c2 c3 c4
          obtain ⟨x, hx⟩ : ∃ x, m'.f7.getD n z53 = x := ⟨_, rfl⟩
          rw [hx] at c0 c1' c2 c3 c4 l1' g1' l3' g3' hzs
          replace c0 := (HB5.out.cell (World.block_lt_of_cell? w _ c0)).trans c0
          replace c0 := (BZ.out.cell (World.block_lt_of_cell? W5 _ c0)).trans c0
          replace c1' := (HB5.out.cell (World.block_lt_of_cell? w _ c1')).trans c1'
          replace c1' := (BZ.out.cell (World.block_lt_of_cell? W5 _ c1')).trans c1'
          replace c2 := (HB5.out.cell (World.block_lt_of_cell? w _ c2)).trans c2
          replace c2 := (BZ.out.cell (World.block_lt_of_cell? W5 _ c2)).trans c2
          replace c3 := (HB5.out.cell (World.block_lt_of_cell? w _ c3)).trans c3
          replace c3 := (BZ.out.cell (World.block_lt_of_cell? W5 _ c3)).trans c3
          replace c4 := (HB5.out.cell (World.block_lt_of_cell? w _ c4)).trans c4
          replace c4 := (BZ.out.cell (World.block_lt_of_cell? W5 _ c4)).trans c4
          have BA := Aside0.mk (below_step HB5.out (below_step BZ.out (below_alloc (Below.refl wr.heap.size wr) (.cells #[.string x.f0, .slice A1' x.f1.f0.length k1', .int .i64 x.f1.f1, .slice A3' x.f2.length k3', .bool x.f3] 53))))
          have BN := Aside0.mk (below_step BZ.out (below_alloc (Below.refl wr.heap.size wr) (.cells #[.string x.f0, .slice A1' x.f1.f0.length k1', .int .i64 x.f1.f1, .slice A3' x.f2.length k3', .bool x.f3] 53)))
          have Z9 := Aside0.mk (blk_new wr (.cells #[.string x.f0, .slice A1' x.f1.f0.length k1', .int .i64 x.f1.f1, .slice A3' x.f2.length k3', .bool x.f3] 53))
          have Z6 := Aside0.mk ((BN.out.block _ (blk_lt H65.out)).trans H65.out)
          have HANY := Aside0.mk (fun (W : World) (hb : Below w.heap.size w W) => Any_any path A3' x.f2.length k3' x.f2 W hps hzs rfl (C_len g3') (Kd.C_below g3' hb))
          have efit : fitsB path x = ((G.which (dat x.f2) path.data.toList).2 == 0) := by unfold fitsB; rfl
          obtain ⟨r1, r2, hrr⟩ : ∃ r1 r2, G.which (dat x.f2) path.data.toList = (r1, r2) := ⟨_, _, rfl⟩
          rw [hrr] at HANY efit
          have efit2 : fitsB path x = (r2 == 0) := efit
          clear efit hrr g1' g3' hmem hzs
          cases e : (r2 == 0)
          · have AD2 := Aside0.mk (show ∀ j, j < n + 1 → fitsB path (m'.f7.getD j z53) = false from fun j hj => by
              by_cases ej : j = n
              · subst ej; rw [hx, efit2]; exact e
              · exact AD.out j (by omega))
            clear Z9 Z6 hx efit2
            go_wp2_with (first
              | (go_at_call 17; (with_reducible refine (HANY.out _ BA.out).mono ?_); rintro e7 w7 ⟨rfl, hb7⟩; have BN7 := Aside0.mk (below_step BN.out hb7); clear hb7))
            go_roundg (m'.f7.length - (n + 1))
            case measure => omega
            case rel => exact ⟨n + 1, by omega, by omega, by go_num, BN7.out, AD2.out⟩
          · have hoi := HOI.out
            rw [HWANT.out HN.out n hltn (by rw [hx, efit2]; exact e) AD.out] at hoi
            obtain ⟨rfl, _, _, hwn⟩ := hoi
            rw [hx] at hwn
            replace hwn : wn = x.f0 := hwn
            subst hwn
            clear hx HOI efit2
            go_wp2_with (first
              | (go_at_call 17; (with_reducible refine (HANY.out _ BA.out).mono ?_); rintro e7 w7 ⟨rfl, hb7⟩; have BA7 := Aside0.mk (below_step BA.out hb7); have Z67 := Aside0.mk ((hb7.block _ (blk_lt Z6.out)).trans Z6.out); have Z97 := Aside0.mk ((hb7.block _ (blk_lt Z9.out)).trans Z9.out); clear hb7)
              | (go_at_call 12; (with_reducible refine (HL.out _ (HT.out.below BA7.out)).mono ?_); rintro e8 w8 ⟨rfl, hb8⟩; have B8' := Aside0.mk (below_step BA7.out hb8); have z6 := (hb8.block _ (blk_lt Z67.out)).trans Z67.out; have x0 := cell_of_block z6 0 (.int .i64 3) rfl; have x7 := cell_of_block z6 7 (.string x.f0) rfl; have y0 := cell_of_block ((hb8.block _ (blk_lt Z97.out)).trans Z97.out) 0 (.string x.f0) rfl; clear hb8 z6))
            go_ret
            exact ⟨rfl, B8'.out⟩
        · have hltnz : ¬ (n : Int) < (m'.f7.length : Int) := by omega
          have hoi := HOI.out
          rw [HNONE.out HN.out (fun j hj => AD.out j (by omega))] at hoi
          obtain ⟨rfl, _, _, _⟩ := hoi
          have BA := Aside0.mk (below_step HB5.out BZ.out)
          have Z6 := Aside0.mk ((BZ.out.block _ (blk_lt H65.out)).trans H65.out)
          clear HOI
          go_wp2_with (first
            | (go_at_call 12; (with_reducible refine (HL.out _ (HT.out.below BA.out)).mono ?_); rintro e w6 ⟨rfl, hb6⟩; have B6 := Aside0.mk (below_step BA.out hb6); have z6 := (hb6.block _ (blk_lt Z6.out)).trans Z6.out; have x0 := cell_of_block z6 0 (.int .i64 2) rfl; clear z6; clear hb6))
          go_ret
          exact ⟨rfl, B6.out⟩
end Go.Proofs.YtgcflmhlegagbaaGreatDoor.R
end
section
set_option linter.unusedVariables false
namespace Go.Proofs.YtgcflmhlegagbaaGreatDoor.Oz
open Go.ChangeShapes Go.WideShapes Go.Proofs.YtgcflmhlegagbaaGreatDoorW.PrintWords
open X (S25 k25 S28 k28 S53 k53 S70 k70 S46 k46 S48 k48)
def SB (s : ByteArray) : Prop := s.size ≤ 140737488351232
def P70 (x : S70) : Prop := SB x.f0 ∧ SB x.f1
def P25 (x : S25) : Prop := SB x.f0 ∧ True ∧ True ∧ SB x.f3
def P28 (x : S28) : Prop := (∀ y ∈ x.f0, SB y) ∧ True
def P53 (x : S53) : Prop := SB x.f0 ∧ P28 x.f1 ∧ (∀ y ∈ x.f2, SB y) ∧ True
def P46 (x : S46) : Prop := True ∧ True ∧ True ∧ (∀ y ∈ x.f3, P70 y) ∧ (∀ y ∈ x.f4, P28 y) ∧ SB x.f5 ∧ (∀ y ∈ x.f6, P25 y) ∧ (∀ y ∈ x.f7, P53 y)
/-- All of it is of a size that a machine can hold. -/
def Lo {H : Type} (t : TypeId) (d : DataW H) : Prop := ∀ n ∈ d.weights Tryz.prog t, n ≤ reachBytes
theorem Lo.field {H : Type} {t : TypeId} {fs : Array Field} {xs : List (DataW H × List MemPlace)} (h : Lo t (.agg (xs.map (·.1)))) (ht : Tryz.prog.underlying t = some (.struct fs)) (i : Nat) (f : TypeId) (hf : (fs.toList.map (·.type))[i]? = some f) {y : DataW H × List MemPlace} (hy : xs[i]? = some y) : Lo f y.1 := by
  intro n hn
  refine h n ?_
  unfold DataW.weights
  rw [ht]
  exact DataW.weights_mem_each hf (by rw [List.getElem?_map, hy]; rfl) n hn
theorem mem_all {H : Type} {e : TypeId} {d : DataW H} {n : Nat} (hn : n ∈ d.weights Tryz.prog e) : ∀ {l : List (DataW H)}, d ∈ l → n ∈ DataW.weightsAll Tryz.prog e l
  | a :: l, h => by
    unfold DataW.weightsAll
    rw [List.mem_append]
    rcases List.mem_cons.1 h with rfl | h
    · exact .inl hn
    · exact .inr (mem_all hn h)
theorem Lo.elem {H : Type} {t e : TypeId} {es sp : List (DataW H)} (h : Lo t (.slice es sp)) (ht : Tryz.prog.underlying t = some (.slice e)) {d : DataW H} (hd : d ∈ es) : Lo e d := by
  intro n hn
  refine h n ?_
  unfold DataW.weights
  rw [ht]
  exact List.mem_cons_of_mem _ (List.mem_append_left _ (mem_all hn hd))
/-- What is read of a type is of a kind. -/
structure Opens {α : Type} (d : Kd α) (t : TypeId) (P : α → Prop) : Prop where
  size : Tryz.prog.cellsOf t = d.sz
  opens : ∀ {H : Type} {enc : TypeId × Value → H} {w : World} {base : Nat} {spare : Nat → Bool} {held : Bool} {fuel : Nat} {cs : List Value} {x : DataW H × List MemPlace}, DataW.trod enc Tryz.prog w base spare held fuel t cs = some x → Lo t x.1 → ∃ a, d.K w a cs ∧ P a
theorem opString : Opens Kd.string 9 SB := ⟨by kernel_rfl, fun h hx => by
  obtain ⟨s, rfl, rfl, _⟩ := DataW.trod_string Tryz.underlying9 h
  refine ⟨s, rfl, ?_⟩
  have := hx s.data.toList.length (by simp [DataW.weights])
  have h2 : s.data.toList.length = s.size := by simp
  rw [h2] at this
  exact this⟩
theorem opInt : Opens (Kd.int .i64) 3 (fun _ => True) := ⟨by kernel_rfl, fun h _ => by
  obtain ⟨s, rfl, _, _⟩ := DataW.trod_int Tryz.underlying3 h
  exact ⟨s, rfl, trivial⟩⟩
theorem opBool : Opens Kd.bool 4 (fun _ => True) := ⟨by kernel_rfl, fun h _ => by
  obtain ⟨s, rfl, _⟩ := DataW.trod_bool Tryz.underlying4 h
  exact ⟨s, rfl, trivial⟩⟩
theorem cells_each {w : World} {base : Nat} {a : Addr} {n : Nat} {cs : List Value} (h : w.cells? base a n = some cs) : cs.length = n ∧ ∀ i u, cs[i]? = some u → w.cell? (a.add i) = some u := by
  unfold World.cells? at h
  split at h
  · have hl : cs.length = n := by simpa using mapM_some_length h
    refine ⟨hl, fun i u hu => ?_⟩
    have hi : i < n := by have := (List.getElem?_eq_some_iff.1 hu).1; omega
    have := mapM_some_get h i i (by simp [hi])
    rw [this]; exact hu
  · cases h
theorem opSlice {α : Type} {d : Kd α} {P : α → Prop} {e t : TypeId} (k : Nat) (h : Opens d e P) (ht : Tryz.prog.underlying t = some (.slice e)) (hc : Tryz.prog.cellsOf t = 1) : Opens (Kd.slice k d) t (fun l => ∀ x ∈ l, P x) := ⟨hc, fun {H enc w base spare held fuel cs x} hx hLo => by
  rcases DataW.trod_slice ht hx with ⟨rfl, _⟩ | ⟨a, len, cap, elems, rest, n, _, rfl, rfl, _, hlc, hcm, hel, hget, _, _⟩
  · exact ⟨[], ⟨none, 0, rfl, Nat.le_refl _, rfl, Nat.zero_le _, fun h => absurd h (Nat.lt_irrefl 0)⟩, fun x hx => by cases hx⟩
  · have hch : ∀ i : Fin len, ∃ y : α, ∃ c : List Value, (c.length = d.sz ∧ d.K w y c ∧ ∀ j u, c[j]? = some u → w.cell? ((a.add (i.1 * d.sz)).add j) = some u) ∧ P y := fun i => by
      have hi := hget i.1 i.2
      have hlt : i.1 < elems.length := by rw [hel]; exact i.2
      rw [List.getElem?_eq_getElem hlt, h.size] at hi
      obtain ⟨c, h1, h2⟩ := Option.bind_eq_some_iff.1 hi
      obtain ⟨hl, hcell⟩ := cells_each h1
      obtain ⟨y, hy, hPy⟩ := h.opens h2 (hLo.elem ht (List.mem_map.2 ⟨_, List.getElem_mem hlt, rfl⟩))
      exact ⟨y, c, ⟨hl, hy, hcell⟩, hPy⟩
    refine ⟨List.ofFn (fun i : Fin len => Classical.choose (hch i)), ⟨some a, cap, by rw [List.length_ofFn], by rw [List.length_ofFn]; exact hlc, rfl, by rw [List.length_ofFn]; have := hcm; unfold maxLen at this; omega, fun _ => ⟨a, rfl, fun j p hj => ?_⟩⟩, fun x hx => by
      obtain ⟨i, rfl⟩ := (List.mem_ofFn).1 hx
      obtain ⟨_, _, h2⟩ := Classical.choose_spec (hch i)
      exact h2⟩
    have hlt : j < len := by
      have := (List.getElem?_eq_some_iff.1 hj).1
      rwa [List.length_ofFn] at this
    have ep : p = Classical.choose (hch ⟨j, hlt⟩) := by
      rw [List.getElem?_ofFn, dif_pos hlt] at hj
      exact (Option.some.inj hj).symm
    obtain ⟨c, ⟨h1, h2, h3⟩, _⟩ := Classical.choose_spec (hch ⟨j, hlt⟩)
    rw [← ep] at h2
    refine ⟨c, h1, h2, fun i u hu => ?_⟩
    have := h3 i u hu
    rwa [add_add] at this⟩
set_option maxRecDepth 100000 in
theorem op70 : Opens k70 70 P70 := ⟨by kernel_rfl, fun {H enc w base spare held fuel cs x} h hLo => by
  obtain ⟨xs, n, _, rfl, hl, hlen, hf⟩ := DataW.trod_struct Tryz.underlying70 h
  have hl' : cs.length = 2 := hl.trans (by kernel_rfl)
  obtain ⟨c0, c1, rfl⟩ : ∃ c0 c1, cs = [c0, c1] := by
    match cs, hl' with
    | [c0, c1], _ => exact ⟨c0, c1, rfl⟩
  have hx : ∀ i, i < 2 → ∃ y, xs[i]? = some y := fun i hi => ⟨xs[i]'(by rw [hlen]; exact hi), List.getElem?_eq_getElem _⟩
  have h0 : DataW.trod enc Tryz.prog w base spare held n 9 (([c0, c1].drop 0).take (Tryz.prog.cellsOf 9)) = xs[0]? := hf 0 _ rfl
  obtain ⟨y0, e0⟩ := hx 0 (by decide)
  rw [e0, show Tryz.prog.cellsOf 9 = 1 from by kernel_rfl] at h0
  obtain ⟨a0, k0, p0⟩ := opString.opens h0 (hLo.field Tryz.underlying70 0 9 rfl e0)
  have h1 : DataW.trod enc Tryz.prog w base spare held n 9 (([c0, c1].drop 1).take (Tryz.prog.cellsOf 9)) = xs[1]? := hf 1 _ rfl
  obtain ⟨y1, e1⟩ := hx 1 (by decide)
  rw [e1, show Tryz.prog.cellsOf 9 = 1 from by kernel_rfl] at h1
  obtain ⟨a1, k1, p1⟩ := opString.opens h1 (hLo.field Tryz.underlying70 1 9 rfl e1)
  exact ⟨⟨a0, a1⟩, ⟨[c0], [c1], rfl, k0, k1⟩, ⟨p0, p1⟩⟩⟩
set_option maxRecDepth 100000 in
theorem op25 : Opens k25 25 P25 := ⟨by kernel_rfl, fun {H enc w base spare held fuel cs x} h hLo => by
  obtain ⟨xs, n, _, rfl, hl, hlen, hf⟩ := DataW.trod_struct Tryz.underlying25 h
  have hl' : cs.length = 4 := hl.trans (by kernel_rfl)
  obtain ⟨c0, c1, c2, c3, rfl⟩ : ∃ c0 c1 c2 c3, cs = [c0, c1, c2, c3] := by
    match cs, hl' with
    | [c0, c1, c2, c3], _ => exact ⟨c0, c1, c2, c3, rfl⟩
  have hx : ∀ i, i < 4 → ∃ y, xs[i]? = some y := fun i hi => ⟨xs[i]'(by rw [hlen]; exact hi), List.getElem?_eq_getElem _⟩
  have h0 : DataW.trod enc Tryz.prog w base spare held n 9 (([c0, c1, c2, c3].drop 0).take (Tryz.prog.cellsOf 9)) = xs[0]? := hf 0 _ rfl
  obtain ⟨y0, e0⟩ := hx 0 (by decide)
  rw [e0, show Tryz.prog.cellsOf 9 = 1 from by kernel_rfl] at h0
  obtain ⟨a0, k0, p0⟩ := opString.opens h0 (hLo.field Tryz.underlying25 0 9 rfl e0)
  have h1 : DataW.trod enc Tryz.prog w base spare held n 3 (([c0, c1, c2, c3].drop 1).take (Tryz.prog.cellsOf 3)) = xs[1]? := hf 1 _ rfl
  obtain ⟨y1, e1⟩ := hx 1 (by decide)
  rw [e1, show Tryz.prog.cellsOf 3 = 1 from by kernel_rfl] at h1
  obtain ⟨a1, k1, p1⟩ := opInt.opens h1 (hLo.field Tryz.underlying25 1 3 rfl e1)
  have h2 : DataW.trod enc Tryz.prog w base spare held n 3 (([c0, c1, c2, c3].drop 2).take (Tryz.prog.cellsOf 3)) = xs[2]? := hf 2 _ rfl
  obtain ⟨y2, e2⟩ := hx 2 (by decide)
  rw [e2, show Tryz.prog.cellsOf 3 = 1 from by kernel_rfl] at h2
  obtain ⟨a2, k2, p2⟩ := opInt.opens h2 (hLo.field Tryz.underlying25 2 3 rfl e2)
  have h3 : DataW.trod enc Tryz.prog w base spare held n 9 (([c0, c1, c2, c3].drop 3).take (Tryz.prog.cellsOf 9)) = xs[3]? := hf 3 _ rfl
  obtain ⟨y3, e3⟩ := hx 3 (by decide)
  rw [e3, show Tryz.prog.cellsOf 9 = 1 from by kernel_rfl] at h3
  obtain ⟨a3, k3, p3⟩ := opString.opens h3 (hLo.field Tryz.underlying25 3 9 rfl e3)
  exact ⟨⟨a0, a1, a2, a3⟩, ⟨[c0], [c1, c2, c3], rfl, k0, ⟨[c1], [c2, c3], rfl, k1, ⟨[c2], [c3], rfl, k2, k3⟩⟩⟩, ⟨p0, p1, p2, p3⟩⟩⟩
set_option maxRecDepth 100000 in
theorem op28 : Opens k28 28 P28 := ⟨by kernel_rfl, fun {H enc w base spare held fuel cs x} h hLo => by
  obtain ⟨xs, n, _, rfl, hl, hlen, hf⟩ := DataW.trod_struct Tryz.underlying28 h
  have hl' : cs.length = 2 := hl.trans (by kernel_rfl)
  obtain ⟨c0, c1, rfl⟩ : ∃ c0 c1, cs = [c0, c1] := by
    match cs, hl' with
    | [c0, c1], _ => exact ⟨c0, c1, rfl⟩
  have hx : ∀ i, i < 2 → ∃ y, xs[i]? = some y := fun i hi => ⟨xs[i]'(by rw [hlen]; exact hi), List.getElem?_eq_getElem _⟩
  have h0 : DataW.trod enc Tryz.prog w base spare held n 26 (([c0, c1].drop 0).take (Tryz.prog.cellsOf 26)) = xs[0]? := hf 0 _ rfl
  obtain ⟨y0, e0⟩ := hx 0 (by decide)
  rw [e0, show Tryz.prog.cellsOf 26 = 1 from by kernel_rfl] at h0
  obtain ⟨a0, k0, p0⟩ := (opSlice 9 opString Tryz.underlying26 (by kernel_rfl)).opens h0 (hLo.field Tryz.underlying28 0 26 rfl e0)
  have h1 : DataW.trod enc Tryz.prog w base spare held n 3 (([c0, c1].drop 1).take (Tryz.prog.cellsOf 3)) = xs[1]? := hf 1 _ rfl
  obtain ⟨y1, e1⟩ := hx 1 (by decide)
  rw [e1, show Tryz.prog.cellsOf 3 = 1 from by kernel_rfl] at h1
  obtain ⟨a1, k1, p1⟩ := opInt.opens h1 (hLo.field Tryz.underlying28 1 3 rfl e1)
  exact ⟨⟨a0, a1⟩, ⟨[c0], [c1], rfl, k0, k1⟩, ⟨p0, p1⟩⟩⟩
set_option maxRecDepth 100000 in
theorem op53 : Opens k53 53 P53 := ⟨by kernel_rfl, fun {H enc w base spare held fuel cs x} h hLo => by
  obtain ⟨xs, n, _, rfl, hl, hlen, hf⟩ := DataW.trod_struct Tryz.underlying53 h
  have hl' : cs.length = 5 := hl.trans (by kernel_rfl)
  obtain ⟨c0, c1, c2, c3, c4, rfl⟩ : ∃ c0 c1 c2 c3 c4, cs = [c0, c1, c2, c3, c4] := by
    match cs, hl' with
    | [c0, c1, c2, c3, c4], _ => exact ⟨c0, c1, c2, c3, c4, rfl⟩
  have hx : ∀ i, i < 4 → ∃ y, xs[i]? = some y := fun i hi => ⟨xs[i]'(by rw [hlen]; exact hi), List.getElem?_eq_getElem _⟩
  have h0 : DataW.trod enc Tryz.prog w base spare held n 9 (([c0, c1, c2, c3, c4].drop 0).take (Tryz.prog.cellsOf 9)) = xs[0]? := hf 0 _ rfl
  obtain ⟨y0, e0⟩ := hx 0 (by decide)
  rw [e0, show Tryz.prog.cellsOf 9 = 1 from by kernel_rfl] at h0
  obtain ⟨a0, k0, p0⟩ := opString.opens h0 (hLo.field Tryz.underlying53 0 9 rfl e0)
  have h1 : DataW.trod enc Tryz.prog w base spare held n 28 (([c0, c1, c2, c3, c4].drop 1).take (Tryz.prog.cellsOf 28)) = xs[1]? := hf 1 _ rfl
  obtain ⟨y1, e1⟩ := hx 1 (by decide)
  rw [e1, show Tryz.prog.cellsOf 28 = 2 from by kernel_rfl] at h1
  obtain ⟨a1, k1, p1⟩ := op28.opens h1 (hLo.field Tryz.underlying53 1 28 rfl e1)
  have h2 : DataW.trod enc Tryz.prog w base spare held n 26 (([c0, c1, c2, c3, c4].drop 3).take (Tryz.prog.cellsOf 26)) = xs[2]? := hf 2 _ rfl
  obtain ⟨y2, e2⟩ := hx 2 (by decide)
  rw [e2, show Tryz.prog.cellsOf 26 = 1 from by kernel_rfl] at h2
  obtain ⟨a2, k2, p2⟩ := (opSlice 9 opString Tryz.underlying26 (by kernel_rfl)).opens h2 (hLo.field Tryz.underlying53 2 26 rfl e2)
  have h3 : DataW.trod enc Tryz.prog w base spare held n 4 (([c0, c1, c2, c3, c4].drop 4).take (Tryz.prog.cellsOf 4)) = xs[3]? := hf 3 _ rfl
  obtain ⟨y3, e3⟩ := hx 3 (by decide)
  rw [e3, show Tryz.prog.cellsOf 4 = 1 from by kernel_rfl] at h3
  obtain ⟨a3, k3, p3⟩ := opBool.opens h3 (hLo.field Tryz.underlying53 3 4 rfl e3)
  exact ⟨⟨a0, a1, a2, a3⟩, ⟨[c0], [c1, c2, c3, c4], rfl, k0, ⟨[c1, c2], [c3, c4], rfl, k1, ⟨[c3], [c4], rfl, k2, k3⟩⟩⟩, ⟨p0, p1, p2, p3⟩⟩⟩
set_option maxRecDepth 100000 in
theorem op46 : Opens k46 46 P46 := ⟨by kernel_rfl, fun {H enc w base spare held fuel cs x} h hLo => by
  obtain ⟨xs, n, _, rfl, hl, hlen, hf⟩ := DataW.trod_struct Tryz.underlying46 h
  have hl' : cs.length = 8 := hl.trans (by kernel_rfl)
  obtain ⟨c0, c1, c2, c3, c4, c5, c6, c7, rfl⟩ : ∃ c0 c1 c2 c3 c4 c5 c6 c7, cs = [c0, c1, c2, c3, c4, c5, c6, c7] := by
    match cs, hl' with
    | [c0, c1, c2, c3, c4, c5, c6, c7], _ => exact ⟨c0, c1, c2, c3, c4, c5, c6, c7, rfl⟩
  have hx : ∀ i, i < 8 → ∃ y, xs[i]? = some y := fun i hi => ⟨xs[i]'(by rw [hlen]; exact hi), List.getElem?_eq_getElem _⟩
  have h0 : DataW.trod enc Tryz.prog w base spare held n 3 (([c0, c1, c2, c3, c4, c5, c6, c7].drop 0).take (Tryz.prog.cellsOf 3)) = xs[0]? := hf 0 _ rfl
  obtain ⟨y0, e0⟩ := hx 0 (by decide)
  rw [e0, show Tryz.prog.cellsOf 3 = 1 from by kernel_rfl] at h0
  obtain ⟨a0, k0, p0⟩ := opInt.opens h0 (hLo.field Tryz.underlying46 0 3 rfl e0)
  have h1 : DataW.trod enc Tryz.prog w base spare held n 3 (([c0, c1, c2, c3, c4, c5, c6, c7].drop 1).take (Tryz.prog.cellsOf 3)) = xs[1]? := hf 1 _ rfl
  obtain ⟨y1, e1⟩ := hx 1 (by decide)
  rw [e1, show Tryz.prog.cellsOf 3 = 1 from by kernel_rfl] at h1
  obtain ⟨a1, k1, p1⟩ := opInt.opens h1 (hLo.field Tryz.underlying46 1 3 rfl e1)
  have h2 : DataW.trod enc Tryz.prog w base spare held n 3 (([c0, c1, c2, c3, c4, c5, c6, c7].drop 2).take (Tryz.prog.cellsOf 3)) = xs[2]? := hf 2 _ rfl
  obtain ⟨y2, e2⟩ := hx 2 (by decide)
  rw [e2, show Tryz.prog.cellsOf 3 = 1 from by kernel_rfl] at h2
  obtain ⟨a2, k2, p2⟩ := opInt.opens h2 (hLo.field Tryz.underlying46 2 3 rfl e2)
  have h3 : DataW.trod enc Tryz.prog w base spare held n 29 (([c0, c1, c2, c3, c4, c5, c6, c7].drop 3).take (Tryz.prog.cellsOf 29)) = xs[3]? := hf 3 _ rfl
  obtain ⟨y3, e3⟩ := hx 3 (by decide)
  rw [e3, show Tryz.prog.cellsOf 29 = 1 from by kernel_rfl] at h3
  obtain ⟨a3, k3, p3⟩ := (opSlice 70 op70 Tryz.underlying29 (by kernel_rfl)).opens h3 (hLo.field Tryz.underlying46 3 29 rfl e3)
  have h4 : DataW.trod enc Tryz.prog w base spare held n 42 (([c0, c1, c2, c3, c4, c5, c6, c7].drop 4).take (Tryz.prog.cellsOf 42)) = xs[4]? := hf 4 _ rfl
  obtain ⟨y4, e4⟩ := hx 4 (by decide)
  rw [e4, show Tryz.prog.cellsOf 42 = 1 from by kernel_rfl] at h4
  obtain ⟨a4, k4, p4⟩ := (opSlice 28 op28 Tryz.underlying42 (by kernel_rfl)).opens h4 (hLo.field Tryz.underlying46 4 42 rfl e4)
  have h5 : DataW.trod enc Tryz.prog w base spare held n 9 (([c0, c1, c2, c3, c4, c5, c6, c7].drop 5).take (Tryz.prog.cellsOf 9)) = xs[5]? := hf 5 _ rfl
  obtain ⟨y5, e5⟩ := hx 5 (by decide)
  rw [e5, show Tryz.prog.cellsOf 9 = 1 from by kernel_rfl] at h5
  obtain ⟨a5, k5, p5⟩ := opString.opens h5 (hLo.field Tryz.underlying46 5 9 rfl e5)
  have h6 : DataW.trod enc Tryz.prog w base spare held n 43 (([c0, c1, c2, c3, c4, c5, c6, c7].drop 6).take (Tryz.prog.cellsOf 43)) = xs[6]? := hf 6 _ rfl
  obtain ⟨y6, e6⟩ := hx 6 (by decide)
  rw [e6, show Tryz.prog.cellsOf 43 = 1 from by kernel_rfl] at h6
  obtain ⟨a6, k6, p6⟩ := (opSlice 25 op25 Tryz.underlying43 (by kernel_rfl)).opens h6 (hLo.field Tryz.underlying46 6 43 rfl e6)
  have h7 : DataW.trod enc Tryz.prog w base spare held n 44 (([c0, c1, c2, c3, c4, c5, c6, c7].drop 7).take (Tryz.prog.cellsOf 44)) = xs[7]? := hf 7 _ rfl
  obtain ⟨y7, e7⟩ := hx 7 (by decide)
  rw [e7, show Tryz.prog.cellsOf 44 = 1 from by kernel_rfl] at h7
  obtain ⟨a7, k7, p7⟩ := (opSlice 53 op53 Tryz.underlying44 (by kernel_rfl)).opens h7 (hLo.field Tryz.underlying46 7 44 rfl e7)
  exact ⟨⟨a0, a1, a2, a3, a4, a5, a6, a7⟩, ⟨[c0], [c1, c2, c3, c4, c5, c6, c7], rfl, k0, ⟨[c1], [c2, c3, c4, c5, c6, c7], rfl, k1, ⟨[c2], [c3, c4, c5, c6, c7], rfl, k2, ⟨[c3], [c4, c5, c6, c7], rfl, k3, ⟨[c4], [c5, c6, c7], rfl, k4, ⟨[c5], [c6, c7], rfl, k5, ⟨[c6], [c7], rfl, k6, k7⟩⟩⟩⟩⟩⟩⟩, ⟨p0, p1, p2, p3, p4, p5, p6, p7⟩⟩⟩
theorem lo_of {H : Type} {ts : List TypeId} {ds : List (DataW H)} (h : (DataW.weightsEach Tryz.prog ts ds).all (· ≤ reachBytes) = true) {j : Nat} {t : TypeId} {d : DataW H} (ht : ts[j]? = some t) (hd : ds[j]? = some d) : Lo t d := fun n hn => by
  have := List.all_eq_true.1 h _ (DataW.weights_mem_each ht hd n hn)
  simpa using this
/-- Metadata, by value. -/
theorem open_meta {H : Type} {enc : TypeId × Value → H} {W : World} {base : Nat} {spare : Nat → Bool} {held : Bool} {cs : Array Value} {d : DataW H} {ps : List MemPlace}
    (h : DataW.Trod enc Tryz.prog W base spare held 46 (.agg cs) d ps) (hLo : Lo 46 d) : ∃ m : S46, k46.K W m cs.toList ∧ P46 m := by
  obtain ⟨fuel, hf⟩ := h
  exact op46.opens hf hLo
end Go.Proofs.YtgcflmhlegagbaaGreatDoor.Oz
end
section
set_option linter.unusedVariables false
set_option linter.unusedSimpArgs false
namespace Go.Proofs.YtgcflmhlegagbaaGreatDoor.R
open Go.RowKit
open E (cutM cutS fewS)
open X (S25 z25 S28 z28 S53 z53 S70 z70 S46 S48 z48)
theorem getD_all {α : Type} {P : α → Prop} {l : List α} {d : α} (h : ∀ y ∈ l, P y) (hd : P d) (i : Nat) : P (l.getD i d) := by
  rw [List.getD_eq_getElem?_getD]
  cases e : l[i]? with
  | none => exact hd
  | some y => exact h y (List.mem_of_getElem? e)
theorem fit_cut {m : S46} (h : Oz.P46 m) : Fit (cutM m).f6 (cutM m).f3 (cutM m).f7 := by
  obtain ⟨_, _, _, h3, h4, h5, h6, h7⟩ := h
  have e6 : (cutM m).f6 = m.f6.take 34 := rfl
  have e3 : (cutM m).f3 = m.f3.take 18 := rfl
  have e7 : (cutM m).f7 = m.f7.take 18 := rfl
  rw [e6, e3, e7]
  have g6 : ∀ y ∈ m.f6.take 34, Oz.P25 y := fun y hy => h6 y (List.mem_of_mem_take hy)
  have g3 : ∀ y ∈ m.f3.take 18, Oz.P70 y := fun y hy => h3 y (List.mem_of_mem_take hy)
  have g7 : ∀ y ∈ m.f7.take 18, Oz.P53 y := fun y hy => h7 y (List.mem_of_mem_take hy)
  have z : Oz.SB (⟨#[]⟩ : ByteArray) := Nat.zero_le _
  have zz : ∀ j, (([] : List ByteArray).getD j ByteArray.empty).size ≤ 140737488351232 := fun j => Nat.zero_le _
  have d53 : Oz.P53 z53 := ⟨z, ⟨(fun y hy => by cases hy), trivial⟩, (fun y hy => by cases hy), trivial⟩
  refine ⟨?_, ?_, ?_, fun i => (getD_all (P := Oz.P25) g6 ⟨z, trivial, trivial, z⟩ i).1, fun i => (getD_all (P := Oz.P70) g3 ⟨z, z⟩ i).1, fun i => (getD_all (P := Oz.P53) g7 d53 i).1, fun i j => ?_, fun i => (getD_all (P := Oz.P53) g7 d53 i).2.2.1⟩
  · rw [List.length_take]; omega
  · rw [List.length_take]; omega
  · rw [List.length_take]; omega
  · exact getD_all (P := Oz.SB) (getD_all (P := Oz.P53) g7 d53 i).2.1.1 (Nat.zero_le _) j
theorem fitH_of {l : List S48} (hl : l.length ≤ 1000) (h : ∀ x ∈ l, Oz.SB x.f0 ∧ Fit x.f1.f6 x.f1.f3 x.f1.f7) : FitH l := by
  have d : Oz.SB z48.f0 ∧ Fit z48.f1.f6 z48.f1.f3 z48.f1.f7 := ⟨Nat.zero_le _, ⟨Nat.zero_le _, Nat.zero_le _, Nat.zero_le _, fun i => Nat.zero_le _, fun i => Nat.zero_le _, fun i => Nat.zero_le _, fun i j => Nat.zero_le _, fun i p hp => by cases hp⟩⟩
  exact ⟨hl, fun i => (getD_all (P := fun x : S48 => Oz.SB x.f0 ∧ Fit x.f1.f6 x.f1.f3 x.f1.f7) h d i).1, fun i => (getD_all (P := fun x : S48 => Oz.SB x.f0 ∧ Fit x.f1.f6 x.f1.f3 x.f1.f7) h d i).2⟩
theorem fitH_one {nm : ByteArray} (hn : nm.size ≤ 1000) {m : S46} (h : Oz.P46 m) : FitH [⟨nm, cutM m⟩] := by
  refine fitH_of (show (1 : Nat) ≤ 1000 by decide) (fun x hx => ?_)
  rw [List.mem_singleton] at hx
  subst hx
  exact ⟨Nat.le_trans hn (by decide), fit_cut h⟩
end Go.Proofs.YtgcflmhlegagbaaGreatDoor.R
end
section
namespace Go.Proofs.YtgcflmhlegagbaaGreatDoor.R
open Go.RowKit Go.Lib Go.Proofs.YtgcflmhlegagbaaGreatDoorW.PrintWords
open E (tabs_of okW cutM)
theorem none_laid {w : World} (hL : laidMetH Tryz.prog Rows.delegNoneRow.laid w) (path : ByteArray) (_ : path.size ≤ 140737488351232) (cs : Array Value) (m : X.S46) (hm : X.k46.K w m cs.toList) (hp : Oz.P46 m) :
    Calls Tryz.prog 7 #[.string path, .agg cs] w fun e w' => e = .returned (.bool true) ∧ Below w.heap.size w w' := by
  have ht := tabs_of (l := Rows.delegNoneRow.laid) hL (by simp [Rows.delegNoneRow]) (by simp [Rows.delegNoneRow]) (by simp [Rows.delegNoneRow])
  obtain ⟨B3, d3, B4, d4, B6, d6, B7, d7, e, hl3, hC3, hl4, hC4, hl6, hC6, hl7, hC7⟩ := X.k46_open hm
  have ec : cs = #[.int .i64 m.f0, .int .i64 m.f1, .int .i64 m.f2, .slice B3 m.f3.length d3, .slice B4 m.f4.length d4, .string m.f5, .slice B6 m.f6.length d6, .slice B7 m.f7.length d7] := Array.toList_inj.1 e
  subst ec
  have hfit : FitH [⟨⟨#[116, 97, 114, 103, 101, 116, 115]⟩, cutM m⟩] := fitH_one (nm := ⟨#[116, 97, 114, 103, 101, 116, 115]⟩) (by decide) hp
  cases hok : okW path [⟨⟨#[116, 97, 114, 103, 101, 116, 115]⟩, cutM m⟩] with
  | false => exact None_not path m B3 B4 B6 B7 d3 d4 d6 d7 w ht hl3 hC3 hl4 hC4 hl6 hC6 hl7 hC7 hfit hok
  | true => exact None_ok path m B3 B4 B6 B7 d3 d4 d6 d7 w ht hl3 hC3 hl4 hC4 hl6 hC6 hl7 hC7 hfit hok
end Go.Proofs.YtgcflmhlegagbaaGreatDoor.R
end
