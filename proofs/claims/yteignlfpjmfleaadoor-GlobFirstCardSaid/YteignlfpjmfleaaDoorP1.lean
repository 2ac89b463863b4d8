/- Patterns over lists of bytes, more: a path against itself, stars, question marks. No program in sight. -/
import Derived.Test.YteignlfpjmfleaaDoorG5
import Derived.Lib.Repeat
import Derived.Lib.IndexAny
import Derived.Lib.Strings
set_option linter.unusedVariables false
set_option linter.unusedSimpArgs false
namespace Go.Proofs.YteignlfpjmfleaaDoor.G
open Go.Proofs.YteignlfpjmfleaaDoor.E (split_count)

theorem pm_self (l : List UInt8) : pm l l = true := by
  induction l with
  | nil => rw [pm_nil]; rfl
  | cons c t ih =>
    by_cases h : c = 42
    · subst h
      rw [pm_star_cons]
      cases t with
      | nil => simp [pm_star_nil, pm_nil]
      | cons d u => rw [pm_star_cons, ih]; simp
    · rw [pm_one_cons _ _ _ _ h, ih]; simp
theorem pm_any (s : List UInt8) : pm [42] s = true := (pm_star _ _).2 ⟨s.length, Nat.le_refl _, by rw [List.drop_length, pm_nil]; rfl⟩
theorem mt_self (s : List UInt8) : mt s s = true := by
  unfold mt
  rw [Bool.and_eq_true]
  refine ⟨by simp, List.all_eq_true.2 fun x hx => ?_⟩
  obtain ⟨y, hy⟩ : ∃ y, x = (y, y) := by
    generalize split s = l at hx
    induction l with
    | nil => simp at hx
    | cons a t ih =>
      rw [List.zip_cons_cons] at hx
      rcases List.mem_cons.1 hx with h | h
      · exact ⟨a, h⟩
      · exact ih h
  rw [hy]; exact pm_self y
theorem split_single (l : List UInt8) (h : (47 : UInt8) ∉ l) : split l = [l] := by
  induction l with
  | nil => rw [split]
  | cons c t ih =>
    rw [split, if_neg (fun e => h (by simp [e])), ih (fun e => h (List.mem_cons_of_mem _ e))]
theorem mt_single (p s : List UInt8) (hp : (47 : UInt8) ∉ p) (hs : (47 : UInt8) ∉ s) : mt p s = pm p s := by
  unfold mt; rw [split_single p hp, split_single s hs]; simp
theorem right_single (pat : Bool) (l : List UInt8) (h : (47 : UInt8) ∉ l) (h2 : l.length ≤ 200) (h3 : ∀ c ∈ l, byt pat c = true) (hb : bad l = false) : right pat l = true := by
  unfold right; rw [split_single l h]; simp [h2, hb]; exact h3
theorem right_inv {pat : Bool} {l : List UInt8} (h : right pat l = true) : l.length ≤ 200 ∧ (∀ c ∈ l, byt pat c = true) ∧ ∀ p ∈ split l, bad p = false := by
  unfold right at h
  rw [Bool.and_eq_true, Bool.and_eq_true] at h
  refine ⟨of_decide_eq_true h.1.1, List.all_eq_true.1 h.1.2, fun p hp => ?_⟩
  have := h.2
  simp at this
  simpa using this p hp
theorem byt_pat {c : UInt8} (h : byt false c = true) : byt true c = true := by
  unfold byt at *; unfold patB; simp at h; simp [h]
theorem right_pat {l : List UInt8} (h : right false l = true) : right true l = true := by
  have hi := right_inv h
  unfold right
  rw [Bool.and_eq_true, Bool.and_eq_true]
  refine ⟨⟨by simpa using hi.1, List.all_eq_true.2 fun c hc => byt_pat (hi.2.1 c hc)⟩, ?_⟩
  simp
  exact fun p hp => by simpa using hi.2.2 p hp
/-- Parts that hold something: a text is at least as long as they and the slashes between. -/
theorem split_long (l : List UInt8) (h : ∀ p ∈ split l, p ≠ []) : 2 * l.count 47 + 1 ≤ l.length := by
  have key : ∀ l : List UInt8, (∀ p ∈ (split l).tail, p ≠ []) → 2 * l.count 47 + (if (split l).headD [] = [] then 0 else 1) ≤ l.length := by
    intro l
    induction l with
    | nil => intro _; simp [split]
    | cons c t ih =>
      intro h
      rw [split] at h ⊢
      by_cases hc : c = 47
      · subst hc
        rw [if_pos rfl] at h ⊢
        have h1 := ih (fun p hp => h p (by rw [List.tail_cons]; exact List.mem_of_mem_tail hp))
        have h2 : (split t).headD [] ≠ [] := by
          cases e : split t with
          | nil => have := split_count t; rw [e] at this; simp at this
          | cons a r => rw [e] at h; simpa using h a (by simp)
        rw [if_neg h2] at h1
        simp; omega
      · rw [if_neg hc] at h ⊢
        rw [List.count_cons_of_ne (by simpa using hc)]
        cases e : split t with
        | nil => have := split_count t; rw [e] at this; simp at this
        | cons a r =>
          rw [e] at h
          have h1 := ih (fun p hp => h p (by rw [e] at hp; simpa using hp))
          simp
          split at h1 <;> omega
  have h0 := key l (fun p hp => h p (List.mem_of_mem_tail hp))
  cases e : split l with
  | nil => have := split_count l; rw [e] at this; simp at this
  | cons a r =>
    have : a ≠ [] := h a (by rw [e]; simp)
    rw [e] at h0
    simpa [this] using h0
/-- As many stars as parts. -/
theorem split_stars (n : Nat) : split (Go.Lib.repeatL [42, 47] n ++ [42]) = List.replicate (n + 1) [42] := by
  induction n with
  | zero => simp [Go.Lib.repeatL, split]
  | succ n ih =>
    rw [Go.Lib.repeatL]
    show split (42 :: 47 :: (Go.Lib.repeatL [42, 47] n ++ [42])) = _
    rw [split, if_neg (by decide), split, if_pos rfl, ih, List.replicate_succ]
    rfl
theorem all_stars (n : Nat) : ∀ c ∈ Go.Lib.repeatL [42, 47] n ++ [42], c = 42 ∨ c = 47 := by
  induction n with
  | zero => intro c hc; simp [Go.Lib.repeatL] at hc; exact .inl hc
  | succ n ih =>
    intro c hc
    rw [Go.Lib.repeatL] at hc
    rcases (by simpa using hc : c = 42 ∨ c = 47 ∨ c ∈ Go.Lib.repeatL [42, 47] n ∨ c = 42) with h | h | h | h
    · exact .inl h
    · exact .inr h
    · exact ih c (List.mem_append_left _ h)
    · exact .inl h
theorem right_stars (n : Nat) (h : 2 * n + 1 ≤ 200) : right true (Go.Lib.repeatL [42, 47] n ++ [42]) = true := by
  unfold right
  rw [Bool.and_eq_true, Bool.and_eq_true]
  refine ⟨⟨?_, List.all_eq_true.2 fun c hc => ?_⟩, ?_⟩
  · have := Go.Lib.repeatL_length [42, 47] n
    simp [this]; omega
  · rcases all_stars n c hc with rfl | rfl <;> decide
  · rw [split_stars]; simp [bad]
theorem mt_stars (s : List UInt8) : mt (Go.Lib.repeatL [42, 47] (s.count 47) ++ [42]) s = true := by
  unfold mt
  rw [split_stars, Bool.and_eq_true]
  refine ⟨by rw [split_count]; simp, List.all_eq_true.2 fun x hx => ?_⟩
  have := (List.of_mem_zip (a := x.1) (b := x.2) hx).1
  rw [List.eq_of_mem_replicate this]; exact pm_any _
theorem mt_stars_more (s : List UInt8) : mt ([42, 47] ++ (Go.Lib.repeatL [42, 47] (s.count 47) ++ [42])) s = false := by
  unfold mt
  have e : split ([42, 47] ++ (Go.Lib.repeatL [42, 47] (s.count 47) ++ [42])) = List.replicate (s.count 47 + 2) [42] := split_stars (s.count 47 + 1)
  rw [e, split_count]; simp
/-- A pattern without a star or a question mark is its own only path. -/
theorem pm_lit (l s : List UInt8) (h : ∀ c ∈ l, c ≠ 42 ∧ c ≠ 63) : pm l s = true ↔ l = s := by
  induction l generalizing s with
  | nil => rw [pm_nil]; cases s <;> simp
  | cons c t ih =>
    have hc := h c (by simp)
    cases s with
    | nil => rw [pm_one_nil _ _ hc.1]; simp
    | cons d u =>
      rw [pm_one_cons _ _ _ _ hc.1, Bool.and_eq_true, ih u (fun x hx => h x (by simp [hx]))]
      simp [hc.2]
theorem pm_mid (a b s : List UInt8) (ha : ∀ c ∈ a, c ≠ 42 ∧ c ≠ 63) (hb : ∀ c ∈ b, c ≠ 42 ∧ c ≠ 63) :
    pm (a ++ 42 :: b) s = (decide (a.length + b.length ≤ s.length) && (a.isPrefixOf s && b.isSuffixOf s)) := by
  rw [Bool.eq_iff_iff, pm_append, Bool.and_eq_true, Bool.and_eq_true, decide_eq_true_iff, List.isPrefixOf_iff_prefix, List.isSuffixOf_iff_suffix]
  constructor
  · rintro ⟨j, hj, h1, h2⟩
    rw [pm_lit a _ ha] at h1
    obtain ⟨i, hi, h3⟩ := (pm_star _ _).1 h2
    rw [pm_lit b _ hb] at h3
    have l1 : a.length = j := by rw [h1]; simp; omega
    have l2 : b.length = s.length - j - i := by rw [h3]; simp; omega
    rw [List.length_drop] at hi
    exact ⟨by omega, ⟨s.drop j, by rw [h1]; exact List.take_append_drop j s⟩, ⟨s.take (j + i), by rw [h3, List.drop_drop]; exact List.take_append_drop _ s⟩⟩
  · rintro ⟨hl, ⟨u, hu⟩, ⟨v, hv⟩⟩
    refine ⟨a.length, by omega, (pm_lit a _ ha).2 (by rw [← hu]; simp), (pm_star _ _).2 ⟨v.length - a.length, ?_, (pm_lit b _ hb).2 ?_⟩⟩
    · have := congrArg List.length hv; simp at this; simp; omega
    · have hvl := congrArg List.length hv; simp at hvl
      rw [List.drop_drop, show a.length + (v.length - a.length) = v.length from by omega, ← hv]; simp
/-- Question marks have what is as long as they. -/
theorem pm_marks (n : Nat) (s : List UInt8) : pm (List.replicate n 63) s = decide (n = s.length) := by
  induction n generalizing s with
  | zero => rw [List.replicate_zero, pm_nil]; cases s <;> simp
  | succ n ih =>
    rw [List.replicate_succ]
    cases s with
    | nil => rw [pm_one_nil _ _ (by decide)]; simp
    | cons d u => rw [pm_one_cons _ _ _ _ (by decide), ih]; simp
theorem marks_rep (n : Nat) : Go.Lib.repeatL [63] n = List.replicate n 63 := by
  induction n with
  | zero => rfl
  | succ n ih => rw [Go.Lib.repeatL, ih]; rfl
theorem pm_front (s : List UInt8) (at' : Nat) (h : at' ≤ s.length) : pm (s.take at' ++ [42, 42, 42]) s = true := by
  refine (pm_append _ _ _).2 ⟨at', h, pm_self _, ?_⟩
  refine (pm_star _ _).2 ⟨0, by simp, (pm_star _ _).2 ⟨0, by simp, ?_⟩⟩
  exact pm_any _
theorem pm_back (s : List UInt8) (at' : Nat) (h : at' ≤ s.length) : pm ([42, 42] ++ s.drop at') s = true := by
  refine (pm_star _ _).2 ⟨at', h, (pm_star _ _).2 ⟨0, by simp, ?_⟩⟩
  rw [List.drop_zero]; exact pm_self _
theorem pm_between (s : List UInt8) (at' : Nat) (h : at' ≤ s.length) : pm (s.take at' ++ 42 :: s.drop at') s = true := by
  refine (pm_append _ _ _).2 ⟨at', h, pm_self _, (pm_star _ _).2 ⟨0, by simp, ?_⟩⟩
  rw [List.drop_zero]; exact pm_self _
theorem indexByte_mem (l : List UInt8) (c : UInt8) : 0 ≤ Go.Lib.indexByte l c ↔ c ∈ l := by
  induction l with
  | nil => simp [Go.Lib.indexByte]
  | cons b t ih =>
    rw [Go.Lib.indexByte]
    have hge := Go.Lib.indexByte_ge t c
    by_cases h : b = c
    · subst h; simp
    · have hb : (b == c) = false := by simpa using h
      rw [hb]
      simp only [Bool.false_eq_true, if_false]
      by_cases hm : Go.Lib.indexByte t c = -1
      · have hm2 : (Go.Lib.indexByte t c == -1) = true := by simpa using hm
        rw [hm2]
        simp only [if_true, List.mem_cons, ← ih]
        constructor
        · intro h'; omega
        · rintro (h' | h')
          · exact absurd h'.symm h
          · omega
      · have hm2 : (Go.Lib.indexByte t c == -1) = false := by simpa using hm
        rw [hm2]
        simp only [Bool.false_eq_true, if_false, List.mem_cons, ← ih]
        constructor
        · intro h'; exact .inr (by omega)
        · rintro (h' | h')
          · exact absurd h'.symm h
          · omega
theorem containsAny_mem (l cs : List UInt8) : Go.Lib.containsAny l cs = true ↔ ∃ c ∈ l, c ∈ cs := by
  unfold Go.Lib.containsAny
  rw [decide_eq_true_iff]
  induction l with
  | nil => simp [Go.Lib.indexAny]
  | cons b t ih =>
    rw [Go.Lib.indexAny]
    have hge := Go.Lib.indexAny_ge cs t
    by_cases h : b ∈ cs
    · have : cs.contains b = true := by simpa using h
      rw [this]
      simp [h]
    · have : cs.contains b = false := by simpa using h
      rw [this]
      simp only [Bool.false_eq_true, if_false]
      by_cases hm : Go.Lib.indexAny t cs = -1
      · have hm2 : (Go.Lib.indexAny t cs == -1) = true := by simpa using hm
        rw [hm2]
        simp only [if_true]
        constructor
        · intro h'; omega
        · rintro ⟨c, hc, hcs⟩
          rcases List.mem_cons.1 hc with rfl | hc
          · exact absurd hcs h
          · have := ih.2 ⟨c, hc, hcs⟩; omega
      · have hm2 : (Go.Lib.indexAny t cs == -1) = false := by simpa using hm
        rw [hm2]
        simp only [Bool.false_eq_true, if_false]
        constructor
        · intro h'
          obtain ⟨c, hc, hcs⟩ := ih.1 (by omega)
          exact ⟨c, List.mem_cons_of_mem _ hc, hcs⟩
        · rintro ⟨c, hc, hcs⟩
          rcases List.mem_cons.1 hc with rfl | hc
          · exact absurd hcs h
          · have := ih.2 ⟨c, hc, hcs⟩; omega
theorem byt_ascii {pat : Bool} {c : UInt8} (h : byt pat c = true) : c.toNat < 128 := by
  have hk := E.u8_all (fun c => !byt pat c || decide (c.toNat < 128)) (by cases pat <;> decide +kernel) c
  simp [h] at hk
  exact hk
end Go.Proofs.YteignlfpjmfleaaDoor.G
