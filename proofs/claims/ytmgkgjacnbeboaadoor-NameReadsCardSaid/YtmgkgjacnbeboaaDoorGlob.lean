/- Patterns over lists of bytes: which may be, parts, a part's match. No program in sight. -/
set_option linter.unusedVariables false
set_option linter.unusedSimpArgs false
namespace Go.Proofs.YtmgkgjacnbeboaaDoor.G

def plainB (c : UInt8) : Bool := (decide (97 ≤ c.toNat) && decide (c.toNat ≤ 122)) || (decide (65 ≤ c.toNat) && decide (c.toNat ≤ 90)) || (decide (48 ≤ c.toNat) && decide (c.toNat ≤ 57)) || c == 46 || c == 47 || c == 95 || c == 45
def patB (c : UInt8) : Bool := plainB c || c == 42 || c == 63
def byt (pat : Bool) (c : UInt8) : Bool := if pat then patB c else plainB c

/-- The parts between the slashes. -/
def split : List UInt8 → List (List UInt8)
  | [] => [[]]
  | c :: t => if c = 47 then [] :: split t else match split t with | [] => [[c]] | h :: r => (c :: h) :: r
def bad (p : List UInt8) : Bool := p == [] || p == [46] || p == [46, 46]
def right (pat : Bool) (s : List UInt8) : Bool := decide (s.length ≤ 200) && s.all (byt pat) && !(split s).any bad

/-- A part of a pattern against a part of a path. -/
def pm : List UInt8 → List UInt8 → Bool
  | [], s => s.isEmpty
  | c :: p, s => if c = 42 then (pm p s || (match s with | [] => false | _ :: t => pm (c :: p) t)) else (match s with | [] => false | d :: t => (c == 63 || c == d) && pm p t)
termination_by p s => (p.length, s.length)

theorem pm_nil (s : List UInt8) : pm [] s = s.isEmpty := by rw [pm]
theorem pm_star_nil (p : List UInt8) : pm (42 :: p) [] = pm p [] := by rw [pm]; simp
theorem pm_star_cons (p : List UInt8) (d : UInt8) (t : List UInt8) : pm (42 :: p) (d :: t) = (pm p (d :: t) || pm (42 :: p) t) := by rw [pm]; simp
theorem pm_one_nil (c : UInt8) (p : List UInt8) (h : c ≠ 42) : pm (c :: p) [] = false := by rw [pm]; simp [h]
theorem pm_one_cons (c : UInt8) (p : List UInt8) (d : UInt8) (t : List UInt8) (h : c ≠ 42) : pm (c :: p) (d :: t) = ((c == 63 || c == d) && pm p t) := by rw [pm]; simp [h]

/-- A star takes any bytes. -/
theorem pm_star (p s : List UInt8) : pm (42 :: p) s = true ↔ ∃ j, j ≤ s.length ∧ pm p (s.drop j) = true := by
  induction s with
  | nil => rw [pm_star_nil]; constructor
           · intro h; exact ⟨0, by simp, by simpa using h⟩
           · rintro ⟨j, hj, h⟩; simpa using h
  | cons d t ih =>
    rw [pm_star_cons, Bool.or_eq_true, ih]
    constructor
    · rintro (h | ⟨j, hj, h⟩)
      · exact ⟨0, by simp, by simpa using h⟩
      · exact ⟨j + 1, by simp; omega, by simpa using h⟩
    · rintro ⟨j, hj, h⟩
      cases j with
      | zero => left; simpa using h
      | succ j => right; exact ⟨j, by simp at hj; omega, by simpa using h⟩

/-- A pattern in two pieces. -/
theorem pm_append (p q s : List UInt8) : pm (p ++ q) s = true ↔ ∃ j, j ≤ s.length ∧ pm p (s.take j) = true ∧ pm q (s.drop j) = true := by
  induction p generalizing s with
  | nil =>
    constructor
    · intro h; exact ⟨0, by simp, by simp [pm_nil], by simpa using h⟩
    · rintro ⟨j, hj, h1, h2⟩
      rw [pm_nil] at h1
      have : j = 0 ∨ s = [] := by cases s <;> cases j <;> simp_all
      rcases this with rfl | rfl <;> simpa using h2
  | cons c p ih =>
    rw [List.cons_append]
    by_cases hc : c = 42
    · subst hc
      rw [pm_star]
      constructor
      · rintro ⟨j, hj, h⟩
        obtain ⟨i, hi, h1, h2⟩ := (ih _).1 h
        rw [List.length_drop] at hi
        refine ⟨j + i, by omega, (pm_star _ _).2 ⟨j, by simp; omega, ?_⟩, by rw [← List.drop_drop]; exact h2⟩
        rw [List.drop_take, show j + i - j = i from by omega]; exact h1
      · rintro ⟨j, hj, h1, h2⟩
        obtain ⟨i, hi, h1⟩ := (pm_star _ _).1 h1
        rw [List.length_take] at hi
        refine ⟨i, by omega, (ih _).2 ⟨j - i, by simp; omega, ?_, ?_⟩⟩
        · rw [← List.drop_take]; exact h1
        · rw [List.drop_drop, show i + (j - i) = j from by omega]; exact h2
    · cases s with
      | nil =>
        rw [pm_one_nil _ _ hc]
        constructor
        · intro h; cases h
        · rintro ⟨j, hj, h1, h2⟩; rw [List.take_nil, pm_one_nil _ _ hc] at h1; cases h1
      | cons d t =>
        rw [pm_one_cons _ _ _ _ hc, Bool.and_eq_true, ih]
        constructor
        · rintro ⟨h0, j, hj, h1, h2⟩
          exact ⟨j + 1, by simp; omega, by rw [List.take_succ_cons, pm_one_cons _ _ _ _ hc, h0, h1]; rfl, by simpa using h2⟩
        · rintro ⟨j, hj, h1, h2⟩
          cases j with
          | zero => rw [List.take_zero, pm_one_nil _ _ hc] at h1; cases h1
          | succ j =>
            rw [List.take_succ_cons, pm_one_cons _ _ _ _ hc, Bool.and_eq_true] at h1
            exact ⟨h1.1, j, by simp at hj; omega, h1.2, by simpa using h2⟩

/-! the table of the reference: whether the first i bytes of the pattern have the first k bytes of the path -/
def E (p s : List UInt8) (i k : Nat) : Bool := pm (p.take i) (s.take k)
theorem E_zero (p s : List UInt8) (k : Nat) (hk : k ≤ s.length) : E p s 0 k = decide (k = 0) := by
  unfold E; rw [List.take_zero, pm_nil]
  cases k with
  | zero => simp
  | succ k => cases s with
    | nil => simp at hk
    | cons d t => simp
theorem E_all (p s : List UInt8) : E p s p.length s.length = pm p s := by unfold E; rw [List.take_length, List.take_length]
theorem E_star (p s : List UInt8) (i k : Nat) (hi : i < p.length) (hk : k ≤ s.length) (hc : p[i] = 42) :
    E p s (i + 1) k = (E p s i k || (decide (0 < k) && E p s (i + 1) (k - 1))) := by
  have e : p.take (i + 1) = p.take i ++ [42] := by rw [List.take_succ_eq_append_getElem hi, hc]
  unfold E; rw [e, Bool.eq_iff_iff, Bool.or_eq_true, Bool.and_eq_true, pm_append, pm_append]
  constructor
  · rintro ⟨j, hj, h1, h2⟩
    rw [List.length_take] at hj
    rw [List.take_take] at h1
    by_cases hjk : j = k
    · left; rw [show min j k = k from by omega] at h1; exact h1
    · right
      refine ⟨by simp; omega, j, by rw [List.length_take]; omega, ?_, ?_⟩
      · rw [List.take_take, show min j (k - 1) = min j k from by omega]; exact h1
      · exact (pm_star _ _).2 ⟨(List.drop j (List.take (k - 1) s)).length, Nat.le_refl _, by rw [List.drop_length]; simp [pm_nil]⟩
  · rintro (h | ⟨h0, j, hj, h1, h2⟩)
    · exact ⟨k, by rw [List.length_take]; omega, by rw [List.take_take, Nat.min_self]; exact h, (pm_star _ _).2 ⟨0, Nat.zero_le _, by rw [List.drop_zero, List.drop_eq_nil_of_le (by rw [List.length_take]; omega)]; simp [pm_nil]⟩⟩
    · rw [List.length_take] at hj
      refine ⟨j, by rw [List.length_take]; omega, ?_, (pm_star _ _).2 ⟨(List.drop j (List.take k s)).length, Nat.le_refl _, by rw [List.drop_length]; simp [pm_nil]⟩⟩
      rw [List.take_take] at h1 ⊢
      simp at h0
      rw [show min j k = min j (k - 1) from by omega]; exact h1
theorem E_one (p s : List UInt8) (i k : Nat) (hi : i < p.length) (hk : k ≤ s.length) (hc : p[i] ≠ 42) :
    E p s (i + 1) k = (decide (0 < k) && ((p[i] == 63 || p[i] == s[k - 1]!) && E p s i (k - 1))) := by
  have e : p.take (i + 1) = p.take i ++ [p[i]] := List.take_succ_eq_append_getElem hi
  unfold E; rw [e, Bool.eq_iff_iff, pm_append]
  cases k with
  | zero =>
    constructor
    · rintro ⟨j, hj, h1, h2⟩; rw [List.take_zero, List.drop_nil, pm_one_nil _ _ hc] at h2; cases h2
    · intro h; simp at h
  | succ k =>
    have e2 : s.take (k + 1) = s.take k ++ [s[k]] := List.take_succ_eq_append_getElem (by omega)
    have e3 : s[k + 1 - 1]! = s[k] := by rw [Nat.add_sub_cancel, getElem!_pos s k (by omega)]
    rw [e3, Nat.add_sub_cancel, e2]
    have hl : (s.take k).length = k := by rw [List.length_take]; omega
    rw [show decide (0 < k + 1) = true from by simp, Bool.true_and, Bool.and_eq_true]
    constructor
    · rintro ⟨j, hj, h1, h2⟩
      rw [List.length_append, hl, List.length_singleton] at hj
      by_cases hjk : j = k + 1
      · subst hjk; rw [List.drop_eq_nil_of_le (by simp; omega), pm_one_nil _ _ hc] at h2; cases h2
      · by_cases hjk2 : j = k
        · subst hjk2
          rw [List.take_left' hl] at h1; rw [List.drop_left' hl, pm_one_cons _ _ _ _ hc, Bool.and_eq_true] at h2
          exact ⟨h2.1, h1⟩
        · exfalso
          have hlt : j < k := by omega
          rw [List.drop_append_of_le_length (by omega)] at h2
          have hne : 0 < ((s.take k).drop j).length := by rw [List.length_drop]; omega
          generalize (s.take k).drop j = u at h2 hne
          cases u with
          | nil => simp at hne
          | cons a b => rw [List.cons_append, pm_one_cons _ _ _ _ hc, pm_nil, Bool.and_eq_true] at h2; cases b <;> simp at h2
    · rintro ⟨h1, h2⟩
      exact ⟨k, by simp; omega, by rw [List.take_left' hl]; exact h2, by rw [List.drop_left' hl, pm_one_cons _ _ _ _ hc, h1, pm_nil]; rfl⟩

/-! the greedy walk of the program: st is one past the last star (0: none), fr where it began, i and k the places -/
def stars (p : List UInt8) : Bool := p.all (· == 42)
theorem pm_end (p : List UInt8) : pm p [] = stars p := by
  induction p with
  | nil => rw [pm_nil]; rfl
  | cons c p ih =>
    by_cases h : c = 42
    · subst h; rw [pm_star_nil, ih]; simp [stars]
    · rw [pm_one_nil _ _ h]; simp [stars, h]
def gr (p s : List UInt8) : Nat → Nat → Nat → Nat → Nat → Option Bool
  | 0, _, _, _, _ => none
  | f + 1, st, fr, i, k =>
    if k < s.length then
      (if i < p.length ∧ p[i]! = 42 then gr p s f (i + 1) k (i + 1) k
       else if i < p.length ∧ (p[i]! = 63 ∨ p[i]! = s[k]!) then gr p s f st fr (i + 1) (k + 1)
       else if 0 < st then gr p s f st (fr + 1) st (fr + 1)
       else some false)
    else some (stars (p.drop i))

/-- lit has no star and fits t byte by byte. -/
def fits : List UInt8 → List UInt8 → Bool
  | [], [] => true
  | c :: l, d :: t => c != 42 && (c == 63 || c == d) && fits l t
  | _, _ => false
theorem fits_len {l t : List UInt8} (h : fits l t = true) : l.length = t.length := by
  induction l generalizing t with
  | nil => cases t <;> simp_all [fits]
  | cons c l ih => cases t with
    | nil => simp [fits] at h
    | cons d t => simp [fits] at h; simp [ih h.2]
theorem fits_pm {l t : List UInt8} (h : fits l t = true) (r u : List UInt8) : pm (l ++ r) (t ++ u) = pm r u := by
  induction l generalizing t with
  | nil => cases t <;> simp_all [fits]
  | cons c l ih => cases t with
    | nil => simp [fits] at h
    | cons d t =>
      simp [fits] at h
      rw [List.cons_append, List.cons_append, pm_one_cons _ _ _ _ h.1.1, ih h.2]
      have : (c == 63 || c == d) = true := by simpa using h.1.2
      rw [this]; rfl
theorem fits_snoc {l t : List UInt8} {c d : UInt8} (h : fits l t = true) (h1 : c ≠ 42) (h2 : c = 63 ∨ c = d) : fits (l ++ [c]) (t ++ [d]) = true := by
  induction l generalizing t with
  | nil => cases t <;> simp_all [fits]
  | cons c l ih => cases t with
    | nil => simp [fits] at h
    | cons d t => simp [fits] at h ⊢; exact ⟨h.1, ih h.2⟩
/-- lit takes just as many bytes as it has. -/
theorem noStar_pm {l : List UInt8} (hl : ∀ c ∈ l, c ≠ 42) (r s : List UInt8) (h : pm (l ++ r) s = true) : l.length ≤ s.length ∧ pm r (s.drop l.length) = true := by
  induction l generalizing s with
  | nil => exact ⟨by simp, by simpa using h⟩
  | cons c l ih => cases s with
    | nil => rw [List.cons_append, pm_one_nil _ _ (hl c (by simp))] at h; cases h
    | cons d t =>
      rw [List.cons_append, pm_one_cons _ _ _ _ (hl c (by simp)), Bool.and_eq_true] at h
      obtain ⟨a, b⟩ := ih (fun x hx => hl x (by simp [hx])) t h.2
      exact ⟨by simp; omega, by simpa using b⟩
theorem fits_noStar {l t : List UInt8} (h : fits l t = true) : ∀ c ∈ l, c ≠ 42 := by
  induction l generalizing t with
  | nil => simp
  | cons c l ih => cases t with
    | nil => simp [fits] at h
    | cons d t =>
      simp [fits] at h
      intro x hx
      rcases List.mem_cons.1 hx with rfl | hx
      · exact h.1.1
      · exact ih h.2 x hx
/-- A second star: what lay ahead of it is settled. -/
theorem pm_settled {l t : List UInt8} (h : fits l t = true) (q u : List UInt8) : pm (42 :: (l ++ 42 :: q)) (t ++ u) = pm (42 :: q) u := by
  rw [Bool.eq_iff_iff]
  constructor
  · intro hp
    obtain ⟨j, hj, hp⟩ := (pm_star _ _).1 hp
    obtain ⟨hl, hp⟩ := noStar_pm (fits_noStar h) _ _ hp
    obtain ⟨i, hi, hp⟩ := (pm_star _ _).1 hp
    rw [List.drop_drop, List.drop_drop] at hp
    have hlen := fits_len h
    rw [List.length_drop, List.length_append] at hl
    rw [List.length_append] at hj
    rw [List.length_drop, List.length_drop, List.length_append] at hi
    refine (pm_star _ _).2 ⟨j + l.length + i - t.length, by omega, ?_⟩
    rw [List.drop_append, List.drop_eq_nil_of_le (by omega), List.nil_append] at hp
    have e : j + (l.length + i) - t.length = j + l.length + i - t.length := by omega
    rw [← e]; first | exact hp | (rw [show j + (l.length + i) = j + l.length + i from by omega]; exact hp)
  · intro hp
    refine (pm_star _ _).2 ⟨0, by omega, ?_⟩
    rw [List.drop_zero, fits_pm h]; exact hp
theorem pm_settled_end {l t : List UInt8} (h : fits l t = true) (r : List UInt8) : pm (42 :: (l ++ r)) t = pm r [] := by
  rw [Bool.eq_iff_iff]
  have hlen := fits_len h
  constructor
  · intro hp
    obtain ⟨j, hj, hp⟩ := (pm_star _ _).1 hp
    obtain ⟨hl, hp⟩ := noStar_pm (fits_noStar h) _ _ hp
    rw [List.length_drop] at hl
    rw [List.drop_eq_nil_of_le (by rw [List.length_drop]; omega)] at hp
    exact hp
  · intro hp
    refine (pm_star _ _).2 ⟨0, by omega, ?_⟩
    have := fits_pm h r []
    rw [List.append_nil] at this
    rw [List.drop_zero, this]; exact hp

/-- What holds at each round: with no star yet the rest decides; behind a star what lies between fits. -/
structure Inv (p s : List UInt8) (st fr i k : Nat) : Prop where
  hi : i ≤ p.length
  hk : k ≤ s.length
  none : st = 0 → pm p s = pm (p.drop i) (s.drop k)
  some : 0 < st → ∃ l t, p.drop (st - 1) = 42 :: (l ++ p.drop i) ∧ s.drop fr = t ++ s.drop k ∧ fits l t = true ∧ i = st + l.length ∧ k = fr + t.length ∧ pm p s = pm (42 :: (l ++ p.drop i)) (t ++ s.drop k)

def meas (p s : List UInt8) (fr i k : Nat) : Nat := (s.length + 1 - fr) * (p.length + s.length + 2) + (p.length - i) + (s.length - k)

theorem gr_right (p s : List UInt8) : ∀ (f st fr i k : Nat), Inv p s st fr i k → fr ≤ k → meas p s fr i k < f → gr p s f st fr i k = some (pm p s) := by
  intro f
  induction f with
  | zero => intro st fr i k _ _ h; omega
  | succ f ih =>
    intro st fr i k I hfk hm
    rw [gr]
    by_cases hk : k < s.length
    · rw [if_pos hk]
      have ek : s.drop k = s[k] :: s.drop (k + 1) := List.drop_eq_getElem_cons hk
      have eK : s[k]! = s[k] := getElem!_pos s k hk
      by_cases h1 : i < p.length ∧ p[i]! = 42
      · rw [if_pos h1]
        obtain ⟨hi, hc⟩ := h1
        rw [getElem!_pos p i hi] at hc
        have ei : p.drop i = 42 :: p.drop (i + 1) := by rw [List.drop_eq_getElem_cons hi, hc]
        refine ih _ _ _ _ ⟨by omega, by omega, by omega, fun _ => ⟨[], [], by simpa using ei, by simp, rfl, by simp, by simp, ?_⟩⟩ (by omega) ?_
        · rw [List.nil_append, List.nil_append, ← ei]
          by_cases hst : st = 0
          · exact I.none hst
          · obtain ⟨l, t, a1, a2, a3, a4, a5, a6⟩ := I.some (by omega)
            rw [a6, ei, pm_settled a3]
        · unfold meas at hm ⊢
          have : (s.length + 1 - k) * (p.length + s.length + 2) ≤ (s.length + 1 - fr) * (p.length + s.length + 2) := Nat.mul_le_mul_right _ (by omega)
          omega
      · rw [if_neg h1]
        by_cases h2 : i < p.length ∧ (p[i]! = 63 ∨ p[i]! = s[k]!)
        · rw [if_pos h2]
          obtain ⟨hi, hc⟩ := h2
          rw [getElem!_pos p i hi] at hc h1
          rw [eK] at hc
          have hn : p[i] ≠ 42 := fun h => h1 ⟨hi, h⟩
          have ei : p.drop i = p[i] :: p.drop (i + 1) := List.drop_eq_getElem_cons hi
          refine ih _ _ _ _ ⟨by omega, by omega, fun hst => ?_, fun hst => ?_⟩ (by omega) (by unfold meas at hm ⊢; omega)
          · rw [I.none hst, ei, ek, pm_one_cons _ _ _ _ hn]
            have : (p[i] == 63 || p[i] == s[k]) = true := by simpa using hc
            rw [this]; rfl
          · obtain ⟨l, t, a1, a2, a3, a4, a5, a6⟩ := I.some hst
            refine ⟨l ++ [p[i]], t ++ [s[k]], ?_, ?_, fits_snoc a3 hn hc, by simp; omega, by simp; omega, ?_⟩
            · rw [a1, ei, List.append_assoc]; rfl
            · rw [a2, ek, List.append_assoc]; rfl
            · rw [a6, ei, ek, List.append_assoc, List.append_assoc]; rfl
        · rw [if_neg h2]
          have hf : pm (p.drop i) (s.drop k) = false := by
            by_cases hi : i < p.length
            · rw [getElem!_pos p i hi] at h1 h2
              rw [eK] at h2
              have hn : p[i] ≠ 42 := fun h => h1 ⟨hi, h⟩
              rw [List.drop_eq_getElem_cons hi, ek, pm_one_cons _ _ _ _ hn]
              have : (p[i] == 63 || p[i] == s[k]) = false := by
                rw [Bool.eq_false_iff]; intro h; exact h2 ⟨hi, by simpa using h⟩
              rw [this]; rfl
            · rw [List.drop_eq_nil_of_le (by omega), ek, pm_nil]; rfl
          by_cases hst : 0 < st
          · rw [if_pos hst]
            obtain ⟨l, t, a1, a2, a3, a4, a5, a6⟩ := I.some hst
            have hp : st ≤ p.length := by
              have := congrArg List.length a1
              simp at this; omega
            have e1 : p.drop st = l ++ p.drop i := by
              have : p.drop st = (p.drop (st - 1)).drop 1 := by rw [List.drop_drop]; congr 1; omega
              rw [this, a1]; rfl
            have hx : s.drop fr = s[fr]'(by omega) :: s.drop (fr + 1) := List.drop_eq_getElem_cons (by omega)
            refine ih _ _ _ _ ⟨hp, by omega, by omega, fun _ => ⟨[], [], ?_, by simp, rfl, by simp, by simp, ?_⟩⟩ (by omega) ?_
            · rw [a1, List.nil_append, e1]
            · rw [List.nil_append, List.nil_append, a6, ← a2, hx, pm_star_cons, ← hx, a2, fits_pm a3, hf, Bool.false_or, e1]
            · unfold meas at hm ⊢
              have e : s.length + 1 - fr = (s.length + 1 - (fr + 1)) + 1 := by omega
              rw [e, Nat.add_mul] at hm
              omega
          · rw [if_neg hst, I.none (by omega), hf]
    · rw [if_neg hk]
      have hkk : k = s.length := by have := I.hk; omega
      have ek : s.drop k = [] := List.drop_eq_nil_of_le (by omega)
      rw [← pm_end]
      by_cases hst : st = 0
      · rw [I.none hst, ek]
      · obtain ⟨l, t, a1, a2, a3, a4, a5, a6⟩ := I.some (by omega)
        rw [a6, ek, List.append_nil, pm_settled_end a3]
theorem gr_pm (p s : List UInt8) : gr p s (meas p s 0 0 0 + 1) 0 0 0 0 = some (pm p s) :=
  gr_right p s _ _ _ _ _ ⟨by omega, by omega, fun _ => by simp, by omega⟩ (by omega) (by omega)
/-- The whole pattern against the whole path: as many parts, each fits. -/
def mt (p s : List UInt8) : Bool := decide ((split p).length = (split s).length) && ((split p).zip (split s)).all (fun x => pm x.1 x.2)
/-- Which of some patterns a path is one of: the first; (0, 1): one may not be; (0, 36): it is one of none. -/
def which (ps : List (List UInt8)) (s : List UInt8) : Int × Int :=
  if right false s = true ∧ ps.all (right true) = true then (match ps.findIdx? (fun p => mt p s) with | some i => ((i : Nat), 0) | none => (0, 36)) else (0, 1)
end Go.Proofs.YtmgkgjacnbeboaaDoor.G
