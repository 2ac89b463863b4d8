/- Plain lists of bytes: digits, big-endian numbers, packed parts. No program in sight. -/
import Derived.Lib.Bytealg
import Derived.Lib.IndexLaws
import Derived.Laws.BytesArg
import Derived.Laws.BitsAllLaws
import Derived.Laws.BitsLemmas
import Derived.WalkKit
import Derived.Test.YtgcflmhlegagbaaGreatDoorProg
import Derived.Shelf.RegionOpenPlain
import Derived.Lib.Strings
import Derived.Lib.Slices
import Derived.Lib.Walk
import Derived.Lib.Builder
import Derived.Lib.AppendStr
import Derived.Lib.UnsafeStr
import Derived.KernelRfl
import Derived.RowKit3
import Derived.Laws.Externs
import Derived.Laws.IdiomCopy
import Derived.Test.YtgcflmhlegagbaaGreatDoorQv
import Derived.Test.YtgcflmhlegagbaaGreatDoorQ0
import Derived.Lib.Hide
section
set_option linter.unusedVariables false
set_option linter.unusedSimpArgs false
namespace Go.Proofs.YtgcflmhlegagbaaGreatDoor.S
open Go.RowKit
def mkB (l : List UInt8) : ByteArray := ⟨l.toArray⟩
theorem mkB_size (l : List UInt8) : (mkB l).size = l.length := by simp [mkB, ByteArray.size]
theorem mkB_list (l : List UInt8) : (mkB l).data.toList = l := by simp [mkB]
theorem mkB_data (s : ByteArray) : mkB s.data.toList = s := by cases s; simp [mkB]
theorem size_list (s : ByteArray) : s.data.toList.length = s.size := by simp
theorem toList_list (s : ByteArray) : s.toList = s.data.toList := by
  exact ByteArray.toList_eq s
theorem wrap64_id {x : Int} (h0 : -9223372036854775808 ≤ x) (h1 : x ≤ 9223372036854775807) : wrap64 x = x := by unfold wrap64; omega
def digs : List UInt8 := [48, 49, 50, 51, 52, 53, 54, 55, 56, 57, 97, 98, 99, 100, 101, 102]
def hex1 (c : UInt8) : List UInt8 := [digs.getD (c.toNat / 16) 0, digs.getD (c.toNat % 16) 0]
def hexs (l : List UInt8) : List UInt8 := l.flatMap hex1
theorem hexs_length (l : List UInt8) : (hexs l).length = 2 * l.length := by
  induction l with
  | nil => rfl
  | cons a l ih => simp [hexs, hex1] at ih ⊢; omega
theorem hexs_append (a b : List UInt8) : hexs (a ++ b) = hexs a ++ hexs b := by simp [hexs]
/-- a digit's number; none: it is none. -/
def undig (c : UInt8) : Option Nat := if 48 ≤ c.toNat ∧ c.toNat ≤ 57 then some (c.toNat - 48) else if 97 ≤ c.toNat ∧ c.toNat ≤ 102 then some (c.toNat - 87) else none
theorem undig_lt {c : UInt8} {n : Nat} (h : undig c = some n) : n < 16 := by
  unfold undig at h; split at h
  · cases h; omega
  · split at h
    · cases h; omega
    · cases h
theorem all_bytes {p : UInt8 → Prop} [DecidablePred p] (h : ∀ n : Fin 256, p (UInt8.ofNat n.val)) (c : UInt8) : p c := by
  have := h ⟨c.toNat, c.toNat_lt⟩; simpa using this
theorem undig_index (c : UInt8) : (match undig c with | some n => (n : Int) | none => -1) = Lib.indexByte digs c :=
  all_bytes (p := fun c => (match undig c with | some n => (n : Int) | none => -1) = Lib.indexByte digs c) (by decide +kernel) c
def unhex : List UInt8 → Option (List UInt8)
  | [] => some []
  | [_] => none
  | a :: b :: r => match undig a, undig b with
    | some x, some y => (unhex r).map fun l => UInt8.ofNat (16 * x + y) :: l
    | _, _ => none
def num (l : List UInt8) : Nat := l.foldl (fun n c => 256 * n + c.toNat) 0
theorem num_snoc (l : List UInt8) (c : UInt8) : num (l ++ [c]) = 256 * num l + c.toNat := by simp [num]
theorem num_lt (l : List UInt8) : num l < 256 ^ l.length := by
  have h : ∀ n (l : List UInt8), l.length = n → num l < 256 ^ n := by
    intro n
    induction n with
    | zero => intro l h; cases l with
      | nil => simp [num]
      | cons a l => simp at h
    | succ n ih =>
      intro l h
      rcases List.eq_nil_or_concat l with rfl | ⟨l', c, rfl⟩
      · simp at h
      · rw [List.concat_eq_append] at h ⊢
        simp at h
        have := ih l' h
        rw [num_snoc, Nat.pow_succ]
        have := c.toNat_lt
        omega
  exact h _ l rfl
/-- a number in so many bytes, the highest first. -/
def be : Nat → Nat → List UInt8
  | 0, _ => []
  | k + 1, n => be k (n / 256) ++ [UInt8.ofNat (n % 256)]
theorem be_length (k n : Nat) : (be k n).length = k := by
  induction k generalizing n with
  | zero => rfl
  | succ k ih => simp [be, ih]
/-- .. told from the lowest byte on. -/
theorem be_top (k n : Nat) : be (k + 1) n = UInt8.ofNat (n / 256 ^ k % 256) :: be k n := by
  induction k generalizing n with
  | zero => simp [be]
  | succ k ih =>
    rw [be, ih (n / 256)]
    conv => rhs; rw [be]
    rw [List.cons_append, Nat.div_div_eq_div_mul, Nat.pow_succ, Nat.mul_comm 256]
/-! parts -/
end Go.Proofs.YtgcflmhlegagbaaGreatDoor.S
end
section
set_option linter.unusedVariables false
set_option linter.unusedSimpArgs false
namespace Go.Proofs.YtgcflmhlegagbaaGreatDoor.G
def plainB (c : UInt8) : Bool := (decide (97 ≤ c.toNat) && decide (c.toNat ≤ 122)) || (decide (65 ≤ c.toNat) && decide (c.toNat ≤ 90)) || (decide (48 ≤ c.toNat) && decide (c.toNat ≤ 57)) || c == 46 || c == 47 || c == 95 || c == 45
def patB (c : UInt8) : Bool := plainB c || c == 42 || c == 63
def byt (pat : Bool) (c : UInt8) : Bool := if pat then patB c else plainB c
/-- The parts between the slashes. -/
def split : List UInt8 → List (List UInt8)
  | [] => [[]]
  | c :: t => if c = 47 then [] :: split t else match split t with | [] => [[c]] | h :: r => (c :: h) :: r
def bad (p : List UInt8) : Bool := p == [] || p == [46] || p == [46, 46]
def right (pat : Bool) (s : List UInt8) : Bool := decide (s.length ≤ 200) && s.all (byt pat) && !(split s).any bad
/-- A part of a pattern against a part of a path. -/
def pm : List UInt8 → List UInt8 → Bool
  | [], s => s.isEmpty
  | c :: p, s => if c = 42 then (pm p s || (match s with | [] => false | _ :: t => pm (c :: p) t)) else (match s with | [] => false | d :: t => (c == 63 || c == d) && pm p t)
termination_by p s => (p.length, s.length)
theorem pm_nil (s : List UInt8) : pm [] s = s.isEmpty := by rw [pm]
theorem pm_star_nil (p : List UInt8) : pm (42 :: p) [] = pm p [] := by rw [pm]; simp
theorem pm_star_cons (p : List UInt8) (d : UInt8) (t : List UInt8) : pm (42 :: p) (d :: t) = (pm p (d :: t) || pm (42 :: p) t) := by rw [pm]; simp
theorem pm_one_nil (c : UInt8) (p : List UInt8) (h : c ≠ 42) : pm (c :: p) [] = false := by rw [pm]; simp [h]
theorem pm_one_cons (c : UInt8) (p : List UInt8) (d : UInt8) (t : List UInt8) (h : c ≠ 42) : pm (c :: p) (d :: t) = ((c == 63 || c == d) && pm p t) := by rw [pm]; simp [h]
/-- A star takes any bytes. -/
theorem pm_star (p s : List UInt8) : pm (42 :: p) s = true ↔ ∃ j, j ≤ s.length ∧ pm p (s.drop j) = true := by
  induction s with
  | nil => rw [pm_star_nil]; constructor
           · intro h; exact ⟨0, by simp, by simpa using h⟩
           · rintro ⟨j, hj, h⟩; simpa using h
  | cons d t ih =>
    rw [pm_star_cons, Bool.or_eq_true, ih]
    constructor
    · rintro (h | ⟨j, hj, h⟩)
      · exact ⟨0, by simp, by simpa using h⟩
      · exact ⟨j + 1, by simp; omega, by simpa using h⟩
    · rintro ⟨j, hj, h⟩
      cases j with
      | zero => left; simpa using h
      | succ j => right; exact ⟨j, by simp at hj; omega, by simpa using h⟩
def E (p s : List UInt8) (i k : Nat) : Bool := pm (p.take i) (s.take k)
def stars (p : List UInt8) : Bool := p.all (· == 42)
theorem pm_end (p : List UInt8) : pm p [] = stars p := by
  induction p with
  | nil => rw [pm_nil]; rfl
  | cons c p ih =>
    by_cases h : c = 42
    · subst h; rw [pm_star_nil, ih]; simp [stars]
    · rw [pm_one_nil _ _ h]; simp [stars, h]
def gr (p s : List UInt8) : Nat → Nat → Nat → Nat → Nat → Option Bool
  | 0, _, _, _, _ => none
  | f + 1, st, fr, i, k =>
    if k < s.length then
      (if i < p.length ∧ p[i]! = 42 then gr p s f (i + 1) k (i + 1) k
       else if i < p.length ∧ (p[i]! = 63 ∨ p[i]! = s[k]!) then gr p s f st fr (i + 1) (k + 1)
       else if 0 < st then gr p s f st (fr + 1) st (fr + 1)
       else some false)
    else some (stars (p.drop i))
/-- lit has no star and fits t byte by byte. -/
def fits : List UInt8 → List UInt8 → Bool
  | [], [] => true
  | c :: l, d :: t => c != 42 && (c == 63 || c == d) && fits l t
  | _, _ => false
theorem fits_len {l t : List UInt8} (h : fits l t = true) : l.length = t.length := by
  induction l generalizing t with
  | nil => cases t <;> simp_all [fits]
  | cons c l ih => cases t with
    | nil => simp [fits] at h
    | cons d t => simp [fits] at h; simp [ih h.2]
theorem fits_pm {l t : List UInt8} (h : fits l t = true) (r u : List UInt8) : pm (l ++ r) (t ++ u) = pm r u := by
  induction l generalizing t with
  | nil => cases t <;> simp_all [fits]
  | cons c l ih => cases t with
    | nil => simp [fits] at h
    | cons d t =>
      simp [fits] at h
      rw [List.cons_append, List.cons_append, pm_one_cons _ _ _ _ h.1.1, ih h.2]
      have : (c == 63 || c == d) = true := by simpa using h.1.2
      rw [this]; rfl
theorem fits_snoc {l t : List UInt8} {c d : UInt8} (h : fits l t = true) (h1 : c ≠ 42) (h2 : c = 63 ∨ c = d) : fits (l ++ [c]) (t ++ [d]) = true := by
  induction l generalizing t with
  | nil => cases t <;> simp_all [fits]
  | cons c l ih => cases t with
    | nil => simp [fits] at h
    | cons d t => simp [fits] at h ⊢; exact ⟨h.1, ih h.2⟩
/-- lit takes just as many bytes as it has. -/
theorem noStar_pm {l : List UInt8} (hl : ∀ c ∈ l, c ≠ 42) (r s : List UInt8) (h : pm (l ++ r) s = true) : l.length ≤ s.length ∧ pm r (s.drop l.length) = true := by
  induction l generalizing s with
  | nil => exact ⟨by simp, by simpa using h⟩
  | cons c l ih => cases s with
    | nil => rw [List.cons_append, pm_one_nil _ _ (hl c (by simp))] at h; cases h
    | cons d t =>
      rw [List.cons_append, pm_one_cons _ _ _ _ (hl c (by simp)), Bool.and_eq_true] at h
      obtain ⟨a, b⟩ := ih (fun x hx => hl x (by simp [hx])) t h.2
      exact ⟨by simp; omega, by simpa using b⟩
theorem fits_noStar {l t : List UInt8} (h : fits l t = true) : ∀ c ∈ l, c ≠ 42 := by
  induction l generalizing t with
  | nil => simp
  | cons c l ih => cases t with
    | nil => simp [fits] at h
    | cons d t =>
      simp [fits] at h
      intro x hx
      rcases List.mem_cons.1 hx with rfl | hx
      · exact h.1.1
      · exact ih h.2 x hx
/-- A second star: what lay ahead of it is settled. -/
theorem pm_settled {l t : List UInt8} (h : fits l t = true) (q u : List UInt8) : pm (42 :: (l ++ 42 :: q)) (t ++ u) = pm (42 :: q) u := by
  rw [Bool.eq_iff_iff]
  constructor
  · intro hp
    obtain ⟨j, hj, hp⟩ := (pm_star _ _).1 hp
    obtain ⟨hl, hp⟩ := noStar_pm (fits_noStar h) _ _ hp
    obtain ⟨i, hi, hp⟩ := (pm_star _ _).1 hp
    rw [List.drop_drop, List.drop_drop] at hp
    have hlen := fits_len h
    rw [List.length_drop, List.length_append] at hl
    rw [List.length_append] at hj
    rw [List.length_drop, List.length_drop, List.length_append] at hi
    refine (pm_star _ _).2 ⟨j + l.length + i - t.length, by omega, ?_⟩
    rw [List.drop_append, List.drop_eq_nil_of_le (by omega), List.nil_append] at hp
    have e : j + (l.length + i) - t.length = j + l.length + i - t.length := by omega
    rw [← e]; first | exact hp | (rw [show j + (l.length + i) = j + l.length + i from by omega]; exact hp)
  · intro hp
    refine (pm_star _ _).2 ⟨0, by omega, ?_⟩
    rw [List.drop_zero, fits_pm h]; exact hp
theorem pm_settled_end {l t : List UInt8} (h : fits l t = true) (r : List UInt8) : pm (42 :: (l ++ r)) t = pm r [] := by
  rw [Bool.eq_iff_iff]
  have hlen := fits_len h
  constructor
  · intro hp
    obtain ⟨j, hj, hp⟩ := (pm_star _ _).1 hp
    obtain ⟨hl, hp⟩ := noStar_pm (fits_noStar h) _ _ hp
    rw [List.length_drop] at hl
    rw [List.drop_eq_nil_of_le (by rw [List.length_drop]; omega)] at hp
    exact hp
  · intro hp
    refine (pm_star _ _).2 ⟨0, by omega, ?_⟩
    have := fits_pm h r []
    rw [List.append_nil] at this
    rw [List.drop_zero, this]; exact hp
/-- What holds at each round: with no star yet the rest decides; behind a star what lies between fits. -/
structure Inv (p s : List UInt8) (st fr i k : Nat) : Prop where
  hi : i ≤ p.length
  hk : k ≤ s.length
  none : st = 0 → pm p s = pm (p.drop i) (s.drop k)
  some : 0 < st → ∃ l t, p.drop (st - 1) = 42 :: (l ++ p.drop i) ∧ s.drop fr = t ++ s.drop k ∧ fits l t = true ∧ i = st + l.length ∧ k = fr + t.length ∧ pm p s = pm (42 :: (l ++ p.drop i)) (t ++ s.drop k)
def meas (p s : List UInt8) (fr i k : Nat) : Nat := (s.length + 1 - fr) * (p.length + s.length + 2) + (p.length - i) + (s.length - k)
theorem gr_right (p s : List UInt8) : ∀ (f st fr i k : Nat), Inv p s st fr i k → fr ≤ k → meas p s fr i k < f → gr p s f st fr i k = some (pm p s) := by
  intro f
  induction f with
  | zero => intro st fr i k _ _ h; omega
  | succ f ih =>
    intro st fr i k I hfk hm
    rw [gr]
    by_cases hk : k < s.length
    · rw [if_pos hk]
      have ek : s.drop k = s[k] :: s.drop (k + 1) := List.drop_eq_getElem_cons hk
      have eK : s[k]! = s[k] := getElem!_pos s k hk
      by_cases h1 : i < p.length ∧ p[i]! = 42
      · rw [if_pos h1]
        obtain ⟨hi, hc⟩ := h1
        rw [getElem!_pos p i hi] at hc
        have ei : p.drop i = 42 :: p.drop (i + 1) := by rw [List.drop_eq_getElem_cons hi, hc]
        refine ih _ _ _ _ ⟨by omega, by omega, by omega, fun _ => ⟨[], [], by simpa using ei, by simp, rfl, by simp, by simp, ?_⟩⟩ (by omega) ?_
        · rw [List.nil_append, List.nil_append, ← ei]
          by_cases hst : st = 0
          · exact I.none hst
          · obtain ⟨l, t, a1, a2, a3, a4, a5, a6⟩ := I.some (by omega)
            rw [a6, ei, pm_settled a3]
        · unfold meas at hm ⊢
          have : (s.length + 1 - k) * (p.length + s.length + 2) ≤ (s.length + 1 - fr) * (p.length + s.length + 2) := Nat.mul_le_mul_right _ (by omega)
          omega
      · rw [if_neg h1]
        by_cases h2 : i < p.length ∧ (p[i]! = 63 ∨ p[i]! = s[k]!)
        · rw [if_pos h2]
          obtain ⟨hi, hc⟩ := h2
          rw [getElem!_pos p i hi] at hc h1
          rw [eK] at hc
          have hn : p[i] ≠ 42 := fun h => h1 ⟨hi, h⟩
          have ei : p.drop i = p[i] :: p.drop (i + 1) := List.drop_eq_getElem_cons hi
          refine ih _ _ _ _ ⟨by omega, by omega, fun hst => ?_, fun hst => ?_⟩ (by omega) (by unfold meas at hm ⊢; omega)
          · rw [I.none hst, ei, ek, pm_one_cons _ _ _ _ hn]
            have : (p[i] == 63 || p[i] == s[k]) = true := by simpa using hc
            rw [this]; rfl
          · obtain ⟨l, t, a1, a2, a3, a4, a5, a6⟩ := I.some hst
            refine ⟨l ++ [p[i]], t ++ [s[k]], ?_, ?_, fits_snoc a3 hn hc, by simp; omega, by simp; omega, ?_⟩
            · rw [a1, ei, List.append_assoc]; rfl
            · rw [a2, ek, List.append_assoc]; rfl
            · rw [a6, ei, ek, List.append_assoc, List.append_assoc]; rfl
        · rw [if_neg h2]
          have hf : pm (p.drop i) (s.drop k) = false := by
            by_cases hi : i < p.length
            · rw [getElem!_pos p i hi] at h1 h2
              rw [eK] at h2
              have hn : p[i] ≠ 42 := fun h => h1 ⟨hi, h⟩
              rw [List.drop_eq_getElem_cons hi, ek, pm_one_cons _ _ _ _ hn]
              have : (p[i] == 63 || p[i] == s[k]) = false := by
                rw [Bool.eq_false_iff]; intro h; exact h2 ⟨hi, by simpa using h⟩
              rw [this]; rfl
            · rw [List.drop_eq_nil_of_le (by omega), ek, pm_nil]; rfl
          by_cases hst : 0 < st
          · rw [if_pos hst]
            obtain ⟨l, t, a1, a2, a3, a4, a5, a6⟩ := I.some hst
            have hp : st ≤ p.length := by
              have := congrArg List.length a1
              simp at this; omega
            have e1 : p.drop st = l ++ p.drop i := by
              have : p.drop st = (p.drop (st - 1)).drop 1 := by rw [List.drop_drop]; congr 1; omega
              rw [this, a1]; rfl
            have hx : s.drop fr = s[fr]'(by omega) :: s.drop (fr + 1) := List.drop_eq_getElem_cons (by omega)
            refine ih _ _ _ _ ⟨hp, by omega, by omega, fun _ => ⟨[], [], ?_, by simp, rfl, by simp, by simp, ?_⟩⟩ (by omega) ?_
            · rw [a1, List.nil_append, e1]
            · rw [List.nil_append, List.nil_append, a6, ← a2, hx, pm_star_cons, ← hx, a2, fits_pm a3, hf, Bool.false_or, e1]
            · unfold meas at hm ⊢
              have e : s.length + 1 - fr = (s.length + 1 - (fr + 1)) + 1 := by omega
              rw [e, Nat.add_mul] at hm
              omega
          · rw [if_neg hst, I.none (by omega), hf]
    · rw [if_neg hk]
      have hkk : k = s.length := by have := I.hk; omega
      have ek : s.drop k = [] := List.drop_eq_nil_of_le (by omega)
      rw [← pm_end]
      by_cases hst : st = 0
      · rw [I.none hst, ek]
      · obtain ⟨l, t, a1, a2, a3, a4, a5, a6⟩ := I.some (by omega)
        rw [a6, ek, List.append_nil, pm_settled_end a3]
theorem gr_pm (p s : List UInt8) : gr p s (meas p s 0 0 0 + 1) 0 0 0 0 = some (pm p s) :=
  gr_right p s _ _ _ _ _ ⟨by omega, by omega, fun _ => by simp, by omega⟩ (by omega) (by omega)
/-- The whole pattern against the whole path: as many parts, each fits. -/
def mt (p s : List UInt8) : Bool := decide ((split p).length = (split s).length) && ((split p).zip (split s)).all (fun x => pm x.1 x.2)
/-- Which of some patterns a path is one of: the first; (0, 1): one may not be; (0, 36): it is one of none. -/
def which (ps : List (List UInt8)) (s : List UInt8) : Int × Int :=
  if right false s = true ∧ ps.all (right true) = true then (match ps.findIdx? (fun p => mt p s) with | some i => ((i : Nat), 0) | none => (0, 36)) else (0, 1)
end Go.Proofs.YtgcflmhlegagbaaGreatDoor.G
end
section
set_option linter.unusedVariables false
set_option linter.unusedSimpArgs false
namespace Go.Proofs.YtgcflmhlegagbaaGreatDoor.Sh
open Go.Proofs.YtgcflmhlegagbaaGreatDoor.S
def M : Nat := 4294967296
/-- a word turned right. -/
def rr (x n : Nat) : Nat := (x * 2 ^ (32 - n)) % 4294967296 ||| x / 2 ^ n
def nt (x : Nat) : Nat := 4294967295 - x
def ad (a b : Nat) : Nat := (a + b) % 4294967296
def kw : List Nat := [1116352408, 1899447441, 3049323471, 3921009573, 961987163, 1508970993, 2453635748, 2870763221, 3624381080, 310598401, 607225278, 1426881987, 1925078388, 2162078206, 2614888103, 3248222580, 3835390401, 4022224774, 264347078, 604807628, 770255983, 1249150122, 1555081692, 1996064986, 2554220882, 2821834349, 2952996808, 3210313671, 3336571891, 3584528711, 113926993, 338241895, 666307205, 773529912, 1294757372, 1396182291, 1695183700, 1986661051, 2177026350, 2456956037, 2730485921, 2820302411, 3259730800, 3345764771, 3516065817, 3600352804, 4094571909, 275423344, 430227734, 506948616, 659060556, 883997877, 958139571, 1322822218, 1537002063, 1747873779, 1955562222, 2024104815, 2227730452, 2361852424, 2428436474, 2756734187, 3204031479, 3329325298]
def h0 : List Nat := [1779033703, 3144134277, 1013904242, 2773480762, 1359893119, 2600822924, 528734635, 1541459225]
/-- a block's words, with those that are made of them. -/
def w16 (b : List UInt8) (t : Nat) : List Nat := (List.range t).map fun i => num ((b.drop (4 * i)).take 4)
def sg0 (a : Nat) : Nat := (rr a 7 ^^^ rr a 18) ^^^ a / 2 ^ 3
def sg1 (b : Nat) : Nat := (rr b 17 ^^^ rr b 19) ^^^ b / 2 ^ 10
def nextW (l : List Nat) : Nat := ad (ad (ad (l.getD (l.length - 16) 0) (sg0 (l.getD (l.length - 15) 0))) (l.getD (l.length - 7) 0)) (sg1 (l.getD (l.length - 2) 0))
def grow : Nat → List Nat → List Nat
  | 0, l => l
  | n + 1, l => grow n (l ++ [nextW l])
def sched (b : List UInt8) : List Nat := grow 48 (w16 b 16)
/-- one round. -/
def t1 (e f g h k w : Nat) : Nat := ad (ad (ad (ad h ((rr e 6 ^^^ rr e 11) ^^^ rr e 25)) ((e &&& f) ^^^ (nt e &&& g))) k) w
def t2 (a b c : Nat) : Nat := ad ((rr a 2 ^^^ rr a 13) ^^^ rr a 22) (((a &&& b) ^^^ (a &&& c)) ^^^ (b &&& c))
def rnd : List Nat → Nat → Nat → List Nat
  | [a, b, c, d, e, f, g, h], k, w => [ad (t1 e f g h k w) (t2 a b c), a, b, c, ad d (t1 e f g h k w), e, f, g]
  | v, _, _ => v
def rnds (W : List Nat) : Nat → List Nat → List Nat
  | 0, v => v
  | t + 1, v => rnd (rnds W t v) (kw.getD t 0) (W.getD t 0)
def comp (h : List Nat) (b : List UInt8) : List Nat := List.zipWith ad h (rnds (sched b) 64 h)
/-- block by block. -/
def blocks : Nat → List Nat → List UInt8 → List Nat × List UInt8
  | 0, h, s => (h, s)
  | f + 1, h, s => if s.length < 64 then (h, s) else blocks f (comp h s) (s.drop 64)
def take (h : List Nat) (buf s : List UInt8) : List Nat × List UInt8 := blocks (buf.length + s.length) h (buf ++ s)
/-- what ends a sum of n bytes of which so many wait. -/
def tail (n m : Nat) : List UInt8 := 128 :: (List.replicate ((119 - m) % 64) 0 ++ be 8 ((8 * n) % 18446744073709551616))
def bytes (h : List Nat) : List UInt8 := h.flatMap (be 4)
def fin (h : List Nat) (buf : List UInt8) (n : Nat) : List UInt8 := bytes (take h buf (tail n buf.length)).1
def sum (s : List UInt8) : List UInt8 := fin (take h0 [] s).1 (take h0 [] s).2 s.length
theorem ad_lt (a b : Nat) : ad a b < 4294967296 := by unfold ad; exact Nat.mod_lt _ (by decide)
theorem num8_lt (b : List UInt8) : num (b.take 4) < 4294967296 := by
  have h : num (b.take 4) < 256 ^ 4 := Nat.lt_of_lt_of_le (num_lt _) (Nat.pow_le_pow_right (by decide) (List.length_take_le _ _))
  have e : (256 : Nat) ^ 4 = 4294967296 := by decide
  rw [e] at h; exact h
theorem grow_length (n : Nat) (l : List Nat) : (grow n l).length = l.length + n := by
  induction n generalizing l with
  | zero => rfl
  | succ n ih => rw [grow, ih]; simp; omega
theorem grow_low (n : Nat) (l : List Nat) (j : Nat) (h : j < l.length) : (grow n l).getD j 0 = l.getD j 0 := by
  induction n generalizing l with
  | zero => rfl
  | succ n ih => rw [grow, ih _ (by simp; omega), List.getD_eq_getElem?_getD, List.getD_eq_getElem?_getD, List.getElem?_append_left h]
theorem grow_take (n : Nat) (l : List Nat) (j : Nat) (h : j ≤ l.length) : (grow n l).take j = l.take j := by
  induction n generalizing l with
  | zero => rfl
  | succ n ih => rw [grow, ih _ (by simp; omega), List.take_append_of_le_length h]
theorem getD_snoc (l : List Nat) (x : Nat) : (l ++ [x]).getD l.length 0 = x := by simp [List.getD_eq_getElem?_getD]
theorem grow_high (n : Nat) (l : List Nat) (j : Nat) (h1 : l.length ≤ j) (h2 : j < l.length + n) : (grow n l).getD j 0 = nextW ((grow n l).take j) := by
  induction n generalizing l with
  | zero => omega
  | succ n ih =>
    rw [grow]
    by_cases h : j = l.length
    · subst h
      rw [grow_low _ _ _ (by simp), grow_take _ _ _ (by simp), List.take_append_of_le_length (Nat.le_refl _), List.take_length]
      exact getD_snoc l _
    · exact ih (l ++ [nextW l]) (by simp; omega) (by simp; omega)
theorem sched_length (b : List UInt8) : (sched b).length = 64 := by rw [sched, grow_length]; simp [w16]
theorem sched_low (b : List UInt8) (t : Nat) (h : t < 16) : (sched b).getD t 0 = num ((b.drop (4 * t)).take 4) := by
  rw [sched, grow_low _ _ _ (by simp [w16]; exact h), w16, List.getD_eq_getElem?_getD]
  simp [h]
theorem take_getD (l : List Nat) (t j : Nat) (h : j < t) : (l.take t).getD j 0 = l.getD j 0 := by
  rw [List.getD_eq_getElem?_getD, List.getD_eq_getElem?_getD, List.getElem?_take_of_lt h]
theorem sched_high (b : List UInt8) (t : Nat) (h1 : 16 ≤ t) (h2 : t < 64) :
    (sched b).getD t 0 = ad (ad (ad ((sched b).getD (t - 16) 0) (sg0 ((sched b).getD (t - 15) 0))) ((sched b).getD (t - 7) 0)) (sg1 ((sched b).getD (t - 2) 0)) := by
  have hl : ((sched b).take t).length = t := by rw [List.length_take, sched_length]; omega
  have := grow_high 48 (w16 b 16) t (by simp [w16]; exact h1) (by simp [w16]; omega)
  rw [show grow 48 (w16 b 16) = sched b from rfl] at this
  rw [this, nextW, hl, take_getD _ _ _ (by omega), take_getD _ _ _ (by omega), take_getD _ _ _ (by omega), take_getD _ _ _ (by omega)]
theorem sched_lt (b : List UInt8) (t : Nat) : (sched b).getD t 0 < 4294967296 := by
  by_cases h : t < 64
  · by_cases h1 : t < 16
    · rw [sched_low b t h1]; exact num8_lt _
    · rw [sched_high b t (by omega) h]; exact ad_lt _ _
  · rw [List.getD_eq_getElem?_getD, List.getElem?_eq_none (by rw [sched_length]; omega)]; decide
theorem rnd_length (v : List Nat) (k w : Nat) : (rnd v k w).length = v.length := by
  unfold rnd
  split
  · simp only [List.length_cons, List.length_nil]
  · rfl
theorem rnds_length (W : List Nat) (t : Nat) (v : List Nat) : (rnds W t v).length = v.length := by
  induction t with
  | zero => rfl
  | succ t ih => rw [rnds, rnd_length, ih]
theorem comp_length (h : List Nat) (b : List UInt8) : (comp h b).length = h.length := by
  rw [comp, List.length_zipWith, rnds_length, Nat.min_self]
theorem zip_ad_lt (a b : List Nat) : ∀ x ∈ List.zipWith ad a b, x < 4294967296 := by
  intro x hx
  rw [List.mem_iff_getElem] at hx
  obtain ⟨i, hi, rfl⟩ := hx
  rw [List.getElem_zipWith]
  exact ad_lt _ _
theorem comp_lt (h : List Nat) (b : List UInt8) : ∀ x ∈ comp h b, x < 4294967296 := by
  unfold comp; exact zip_ad_lt _ _
theorem w16_take (b : List UInt8) : w16 (b.take 64) 16 = w16 b 16 := by
  unfold w16
  apply List.map_congr_left
  intro i hi
  have : i < 16 := List.mem_range.1 hi
  rw [List.drop_take, List.take_take, Nat.min_eq_left (by omega)]
theorem comp_take (h : List Nat) (b : List UInt8) : comp h (b.take 64) = comp h b := by
  unfold comp sched
  rw [w16_take]
theorem blocks_fuel (f : Nat) : ∀ (g : Nat) (h : List Nat) (s : List UInt8), s.length ≤ f → s.length ≤ g → blocks f h s = blocks g h s := by
  induction f with
  | zero =>
    intro g h s hf hg
    cases g with
    | zero => rfl
    | succ g => rw [blocks, blocks, if_pos (by omega)]
  | succ f ih =>
    intro g h s hf hg
    cases g with
    | zero => rw [blocks, blocks, if_pos (by omega)]
    | succ g =>
      rw [blocks, blocks]
      split
      · rfl
      · exact ih g _ _ (by rw [List.length_drop]; omega) (by rw [List.length_drop]; omega)
theorem blocks_done (f : Nat) (h : List Nat) (s : List UInt8) (hs : s.length < 64) : blocks f h s = (h, s) := by
  cases f with
  | zero => rfl
  | succ f => rw [blocks, if_pos hs]
theorem blocks_step (h : List Nat) (s : List UInt8) (hs : 64 ≤ s.length) : blocks s.length h s = blocks (s.drop 64).length (comp h s) (s.drop 64) := by
  rw [blocks_fuel s.length (s.length + 1) h s (Nat.le_refl _) (by omega), blocks, if_neg (by omega)]
  exact blocks_fuel _ _ _ _ (by rw [List.length_drop]; omega) (Nat.le_refl _)
theorem blocks_ok (f : Nat) : ∀ (h : List Nat) (s : List UInt8), h.length = 8 → (∀ x ∈ h, x < 4294967296) → (blocks f h s).1.length = 8 ∧ ∀ x ∈ (blocks f h s).1, x < 4294967296 := by
  induction f with
  | zero => intro h s h1 h2; exact ⟨h1, h2⟩
  | succ f ih =>
    intro h s h1 h2
    rw [blocks]
    split
    · exact ⟨h1, h2⟩
    · exact ih _ _ (by rw [comp_length, h1]) (comp_lt _ _)
theorem blocks_rest (f : Nat) : ∀ (h : List Nat) (s : List UInt8), s.length ≤ f → (blocks f h s).2 = s.drop (64 * (s.length / 64)) := by
  induction f with
  | zero => intro h s hs; obtain rfl : s = [] := List.length_eq_zero_iff.1 (by omega); rfl
  | succ f ih =>
    intro h s hs
    rw [blocks]
    split
    · rename_i hlt
      rw [Nat.div_eq_of_lt hlt]; rfl
    · rw [ih _ _ (by rw [List.length_drop]; omega), List.drop_drop, List.length_drop]
      congr 1; omega
theorem take_rest (h : List Nat) (buf s : List UInt8) : (take h buf s).2 = (buf ++ s).drop (64 * ((buf ++ s).length / 64)) := by
  unfold take; exact blocks_rest _ _ _ (by simp)
theorem take_rest_length (h : List Nat) (buf s : List UInt8) : (take h buf s).2.length = (buf.length + s.length) % 64 := by
  rw [take_rest, List.length_drop, List.length_append]; omega
/-- block after block: what was taken in two goes. -/
theorem blocks_append (f : Nat) : ∀ (h : List Nat) (a b : List UInt8), a.length ≤ f → blocks (a ++ b).length h (a ++ b) = blocks ((blocks f h a).2 ++ b).length (blocks f h a).1 ((blocks f h a).2 ++ b) := by
  induction f with
  | zero => intro h a b ha; rfl
  | succ f ih =>
    intro h a b ha
    by_cases hlt : a.length < 64
    · rw [blocks_done (f + 1) h a hlt]
    · have e : blocks (f + 1) h a = blocks f (comp h a) (a.drop 64) := by rw [blocks, if_neg hlt]
      rw [e, blocks_step h (a ++ b) (by rw [List.length_append]; omega), List.drop_append_of_le_length (by omega)]
      rw [← ih (comp h a) (a.drop 64) b (by rw [List.length_drop]; omega)]
      rw [← comp_take h (a ++ b), ← comp_take h a, List.take_append_of_le_length (by omega)]
theorem take_take (h : List Nat) (buf a b : List UInt8) : take (take h buf a).1 (take h buf a).2 b = take h buf (a ++ b) := by
  unfold take
  rw [← List.length_append, ← List.length_append, ← List.length_append, ← List.append_assoc]
  exact (blocks_append _ h (buf ++ a) b (Nat.le_refl _)).symm
theorem rr_lt (x n : Nat) (h : x < 4294967296) : rr x n < 4294967296 := by
  unfold rr
  exact Nat.or_lt_two_pow (n := 32) (Nat.mod_lt _ (by decide)) (Nat.lt_of_le_of_lt (Nat.div_le_self _ _) h)
theorem xor_lt (a b : Nat) (h1 : a < 4294967296) (h2 : b < 4294967296) : a ^^^ b < 4294967296 := Nat.xor_lt_two_pow (n := 32) h1 h2
theorem and_lt (a b : Nat) (h1 : a < 4294967296) : a &&& b < 4294967296 := Nat.lt_of_le_of_lt Nat.and_le_left h1
theorem nt_lt (a : Nat) : nt a < 4294967296 := by unfold nt; omega
theorem div_lt (a n : Nat) (h : a < 4294967296) : a / n < 4294967296 := Nat.lt_of_le_of_lt (Nat.div_le_self _ _) h
end Go.Proofs.YtgcflmhlegagbaaGreatDoor.Sh
end
section
set_option linter.unusedVariables false
set_option linter.unusedSimpArgs false
namespace Go.Proofs.YtgcflmhlegagbaaGreatDoor.B
open Go.RowKit
theorem sizeB : (Tryz.prog.info? 116).map (·.size) = some 2 := by kernel_rfl
theorem liesB : liesAt Tryz.prog Tryz.prog.depth 116 (2 / Tryz.prog.cellsOf 116) 0 116 1 = true := by kernel_rfl
theorem infoByte : (Tryz.prog.info? 5).map (fun i => (i.zero, i.size, i.bytes)) = some (some (.int .u8 0), 1, 1) := by kernel_rfl
theorem neB : (116 : Nat) ≠ 5 := by decide
set_option maxHeartbeats 1000000 in
set_option maxRecDepth 100000 in
theorem copyCheck_used (b : Nat) (w : World) (h0 : w.cell? ⟨b, 0, none⟩ = some (.pointer (some ⟨b, 0, none⟩))) :
    Calls Tryz.prog 108 #[.pointer (some ⟨b, 0, none⟩)] w fun e w' => e = .returned (.tuple #[]) ∧ w' = w := by
  obtain ⟨j, hj, _⟩ := Option.map_eq_some_iff.1 sizeB
  go_enter Tryz.func108, Tryz.ntmps108
  go_wp2
  rw [Lib.run_neq_ptr_same w _ Tryz.underlying114 hj]
  go_wp2
  go_end0
  exact ⟨rfl, rfl⟩
set_option maxHeartbeats 1000000 in
set_option maxRecDepth 100000 in
theorem copyCheck_fresh (b : Nat) (w : World) (h0 : w.cell? ⟨b, 0, none⟩ = some (.pointer none)) (hsh : w.shape? b = some (116, 2)) (hfz : w.frozen? ⟨b, 0, none⟩ = false) :
    Calls Tryz.prog 108 #[.pointer (some ⟨b, 0, none⟩)] w fun e w' => e = .returned (.tuple #[]) ∧ w' = w.setCell ⟨b, 0, none⟩ (.pointer (some ⟨b, 0, none⟩)) := by
  obtain ⟨j, hj, hjs⟩ := Option.map_eq_some_iff.1 sizeB
  go_enter Tryz.func108, Tryz.ntmps108
  go_wp2
  rw [Lib.run_to_unsafe w ⟨b, 0, none⟩ Tryz.underlying114 Tryz.underlying168 hj (by rw [hjs]; decide) hsh (Nat.zero_lt_succ 1)]
  simp only [Result.andThen]
  rw [Oper.upon_value]
  go_wp2
  rw [run_callFunc_extern Tryz.func129 (by kernel_rfl) (by kernel_rfl) (by kernel_rfl) (e := Extern.AbiNoEscape.same) (by kernel_rfl)]
  rw [Lib.run_noEscape]
  simp only [Result.andThen]
  rw [Oper.upon_value]
  go_wp2
  rw [Lib.run_from_unsafe w ⟨b, 0, none⟩ Tryz.underlying168 Tryz.underlying114 hj hsh liesB]
  simp only [Result.andThen]
  rw [Oper.upon_value]
  go_wp2
  go_end0
  exact ⟨rfl, rfl⟩
theorem copyCheck (B b : Nat) (bs : List Value) (w : World) (h : Lib.IsBuilder 116 5 B b bs w) :
    Calls Tryz.prog 108 #[.pointer (some ⟨b, 0, none⟩)] w fun e w' => e = .returned (.tuple #[]) ∧ (Lib.BuilderAt 116 5 B b (.pointer (some ⟨b, 0, none⟩)) bs w' ∧ Below B w w') := by
  rcases h with h | h
  · refine (copyCheck_fresh b w h.cell0 h.shape h.frozen0).mono ?_
    rintro e w' ⟨rfl, rfl⟩
    exact ⟨rfl, h.used _, (Below.refl B w).setCell (p := ⟨b, 0, none⟩) h.1 _⟩
  · refine (copyCheck_used b w h.cell0).mono ?_
    rintro e w' ⟨rfl, rfl⟩
    exact ⟨rfl, h, Below.refl B _⟩
set_option maxHeartbeats 2000000 in
set_option maxRecDepth 100000 in
theorem WriteByte (B b : Nat) (bs : List Value) (c : Int) (w : World) (h : Lib.IsBuilder 116 5 B b bs w) (hlen : bs.length + 1 ≤ 140737488355328) (hBw : B ≤ w.heap.size) :
    Calls Tryz.prog 88 #[.pointer (some ⟨b, 0, none⟩), .int .u8 c] w fun e w' => e = .returned .nilIface ∧ (Lib.BuilderAt 116 5 B b (.pointer (some ⟨b, 0, none⟩)) (bs ++ [.int .u8 c]) w' ∧ Below B w w') := by
  obtain ⟨i0, hi, hz0, hz1, hz2⟩ := info_parts infoByte
  go_enter Tryz.func88, Tryz.ntmps88
  go_wp2_with (go_at_call 108; refine (copyCheck B b bs _ h).mono ?_)
  rintro e w1 ⟨rfl, h1, hb1⟩
  obtain ⟨hB, v, hbk, hown, hne⟩ := h1
  have c0 : w1.cell? ⟨b, 0, none⟩ = some (.pointer (some ⟨b, 0, none⟩)) := by rw [Lib.cell_of_heap hbk]; rfl
  have c1 : w1.cell? ⟨b, 1, none⟩ = some v := by rw [Lib.cell_of_heap hbk]; rfl
  go_wp2_with (at_builtin; refine wpList_append_own _ rfl _ _ 108 rfl B 5 i0 (.int .u8 0) 1 1 Tryz.underlying108 hi hz0 hz1 hz2 rfl (by decide) _ _ _ rfl (hown.alloc _) ⟨w1.heap.size, 0, none⟩ 1 1 [.int .u8 c] rfl rfl ?c1 ?c2 ?c3 ?c4 ?c5 ?_)
  case c1 =>
    intro j u hj
    match j, hj with
    | 0, hj => simp at hj; subst hj; simp [Addr.add]
  case c2 => intro u hu; simp at hu; subst hu; rfl
  case c3 => unfold maxLen; omega
  case c4 => omega
  case c5 => have := hb1.size; simp; omega
  intro v' w2 hown' hgrow _
  have hlt : b < w1.heap.size := by
    rcases Nat.lt_or_ge b w1.heap.size with h' | h'
    · exact h'
    · simp [Array.getElem?_eq_none h'] at hbk
  have hb2 : w2.heap[b]? = some (.cells #[.pointer (some ⟨b, 0, none⟩), v] 116 (0, 0)) := by
    rw [hgrow.block b (by simp; omega) (fun e => hne e.symm), Lib.alloc_old w1 _ b hlt]
    exact hbk
  have d0 : w2.cell? ⟨b, 0, none⟩ = some (.pointer (some ⟨b, 0, none⟩)) := by rw [Lib.cell_of_heap hb2]; rfl
  have d1 : w2.cell? ⟨b, 1, none⟩ = some v := by rw [Lib.cell_of_heap hb2]; rfl
  have f1 : w2.frozen? ⟨b, 1, none⟩ = false := Lib.frozen_of_heap hb2 1
  obtain ⟨g, cap, rfl⟩ : ∃ g cap, v' = .slice (some ⟨g, 0, none⟩) (bs.length + 1) cap := by
    rcases hown'.2 with ⟨_, h0⟩ | ⟨g, cap, cur, hv, _⟩
    · omega
    · exact ⟨g, cap, hv⟩
  go_wp2
  go_ret
  refine ⟨rfl, ?_, ?_⟩
  · exact Lib.BuilderAt.put (T := 116) (e := 5) hB hb2 (bs' := bs ++ [.int .u8 c]) (by simpa using hown') neB
  · exact ((hb1.alloc (by have := hb1.size; omega) _).grown hgrow (by have := hb1.size; simp; omega) (fun k hk => (hown.lt k hk).1)).setCell (p := ⟨b, 1, none⟩) hB _
set_option maxHeartbeats 2000000 in
set_option maxRecDepth 100000 in
theorem WriteString (B b : Nat) (bs : List Value) (s : ByteArray) (w : World) (h : Lib.IsBuilder 116 5 B b bs w) (hlen : bs.length + s.size ≤ 140737488355328) (hBw : B ≤ w.heap.size) :
    Calls Tryz.prog 85 #[.pointer (some ⟨b, 0, none⟩), .string s] w fun e w' => e = .returned (.tuple #[.int .i64 s.size, .nilIface]) ∧ (Lib.BuilderAt 116 5 B b (.pointer (some ⟨b, 0, none⟩)) (bs ++ Lib.strCells s) w' ∧ Below B w w') := by
  obtain ⟨i0, hi, hz0, hz1, hz2⟩ := info_parts infoByte
  go_enter Tryz.func85, Tryz.ntmps85
  go_wp2_with (go_at_call 108; refine (copyCheck B b bs _ h).mono ?_)
  rintro e w1 ⟨rfl, h1, hb1⟩
  obtain ⟨hB, v, hbk, hown, hne⟩ := h1
  have c0 : w1.cell? ⟨b, 0, none⟩ = some (.pointer (some ⟨b, 0, none⟩)) := by rw [Lib.cell_of_heap hbk]; rfl
  have c1 : w1.cell? ⟨b, 1, none⟩ = some v := by rw [Lib.cell_of_heap hbk]; rfl
  go_wp2_with (at_builtin; refine Lib.wpList_append_own_string _ rfl _ _ 108 9 rfl B 5 i0 Tryz.underlying108 Tryz.underlying9 hi hz0 hz1 hz2 _ _ _ rfl hown s rfl ?c3 ?c4 ?c5 ?_)
  case c3 => unfold maxLen; omega
  case c4 => omega
  case c5 => have := hb1.size; omega
  intro v' w2 hown' hgrow _
  have hlt : b < w1.heap.size := by
    rcases Nat.lt_or_ge b w1.heap.size with h' | h'
    · exact h'
    · simp [Array.getElem?_eq_none h'] at hbk
  have hb2 : w2.heap[b]? = some (.cells #[.pointer (some ⟨b, 0, none⟩), v] 116 (0, 0)) := by
    rw [hgrow.block b hlt (fun e => hne e.symm)]
    exact hbk
  have d0 : w2.cell? ⟨b, 0, none⟩ = some (.pointer (some ⟨b, 0, none⟩)) := by rw [Lib.cell_of_heap hb2]; rfl
  have d1 : w2.cell? ⟨b, 1, none⟩ = some v := by rw [Lib.cell_of_heap hb2]; rfl
  have f1 : w2.frozen? ⟨b, 1, none⟩ = false := Lib.frozen_of_heap hb2 1
  obtain ⟨ao, n', cap, rfl⟩ : ∃ ao n' cap, v' = .slice ao n' cap := by
    rcases hown'.2 with ⟨hv, _⟩ | ⟨g, cap, cur, hv, _⟩
    · exact ⟨_, _, _, hv⟩
    · exact ⟨_, _, _, hv⟩
  go_wp2
  go_ret2
  refine ⟨rfl, ?_, ?_⟩
  · exact Lib.BuilderAt.put (T := 116) (e := 5) hB hb2 (bs' := bs ++ Lib.strCells s) (by simpa [Lib.strCells_length] using hown') neB
  · exact (hb1.grown hgrow (by have := hb1.size; omega) (fun k hk => (hown.lt k hk).1)).setCell (p := ⟨b, 1, none⟩) hB _
end Go.Proofs.YtgcflmhlegagbaaGreatDoor.B
end
section
set_option linter.unusedVariables false
set_option linter.unusedSimpArgs false
namespace Go.Proofs.YtgcflmhlegagbaaGreatDoor.E
open Go.RowKit Go.Proofs.YtgcflmhlegagbaaGreatDoorW.PrintWords Go.Proofs.YtgcflmhlegagbaaGreatDoorW.PrintLast Go.Proofs.YtgcflmhlegagbaaGreatDoorW.PrintMore
attribute [local go_sem] max2_int min2_int max_two min_two
open S (mkB be)
theorem hexs_snoc (l : List UInt8) (c : UInt8) : S.hexs (l ++ [c]) = S.hexs l ++ S.hex1 c := by simp [S.hexs]
theorem take_snoc (s : ByteArray) (k : Nat) (h : k < s.size) : s.data.toList.take (k + 1) = s.data.toList.take k ++ [s[k]] := by
  rw [List.take_succ_eq_append_getElem (by simpa using h)]; rfl
theorem byteCells_snoc1 (l : List UInt8) (x : UInt8) : Lib.byteCells l ++ [Value.int .u8 (x.toNat : Int)] = Lib.byteCells (l ++ [x]) := by
  simp [Lib.byteCells]
theorem dig_at (n : Nat) (h : n < 16) (h' : n < (⟨#[48, 49, 50, 51, 52, 53, 54, 55, 56, 57, 97, 98, 99, 100, 101, 102]⟩ : ByteArray).size) : (⟨#[48, 49, 50, 51, 52, 53, 54, 55, 56, 57, 97, 98, 99, 100, 101, 102]⟩ : ByteArray)[n] = S.digs.getD n 0 := by
  revert h'
  revert n
  decide
set_option maxHeartbeats 1000000 in
set_option maxRecDepth 100000 in
theorem hex_any (s : ByteArray) (w : World) (hs : 2 * s.size ≤ 140737488355328) :
    Calls Tryz.prog 91 #[.string s] w fun e w' => e = .returned (.string ⟨(S.hexs s.data.toList).toArray⟩) ∧ Below w.heap.size w w' := by
  go_enter Tryz.func91, Tryz.ntmps91
  go_wp2
  go_loopw [7] (fun i wr => ∃ k : Nat, k ≤ s.size ∧ i = .int .i64 k ∧ Lib.IsBuilder 116 5 w.heap.size w.heap.size (Lib.byteCells (S.hexs (s.data.toList.take k))) wr ∧ Below w.heap.size w wr) (fun i _ => s.size - (intOf i).toNat)
  case atStart => exact ⟨0, Nat.zero_le _, rfl, Lib.fresh_isBuilder 116 5 w, (Below.refl _ _).alloc (Nat.le_refl _) _⟩
  case round =>
    obtain ⟨k, hk, rfl, hB, hb⟩ := hrel
    have hL := S.hexs_length (s.data.toList.take k)
    have hT : (s.data.toList.take k).length ≤ k := List.length_take_le _ _
    by_cases hlt : k < s.size
    · have h8 : s[k].toNat < 256 := s[k].toNat_lt
      have e1 := dig_at (s[k].toNat / 16) (by omega)
      have e2 := dig_at (s[k].toNat % 16) (by omega)
      have e3 := u8_and15 (x := (s[k].toNat : Int)) (by omega) (by omega)
      have p1 : (0 : Int) ≤ ↑s[k].toNat / 16 ∧ (↑s[k].toNat / 16 : Int) < 16 := by omega
      have p2 : (0 : Int) ≤ ↑s[k].toNat % 16 ∧ (↑s[k].toNat % 16 : Int) < 16 := by omega
      have hz := hb.size
      go_wp2_with fail
      refine (B.WriteByte _ _ _ _ _ hB (by rw [Lib.byteCells_length]; omega) hz).mono ?_
      rintro e w1 ⟨rfl, h1, b1⟩
      have h1' : Lib.IsBuilder 116 5 w.heap.size w.heap.size (Lib.byteCells (S.hexs (s.data.toList.take k) ++ [S.digs.getD (s[k].toNat / 16) 0])) w1 := by
        rw [← byteCells_snoc1]; exact .inr h1
      clear h1
      have hb1 : Below w.heap.size w w1 := hb.trans b1
      have hz1 := hb1.size
      go_wp2_with fail
      refine (B.WriteByte _ _ _ _ _ h1' (by rw [Lib.byteCells_length, List.length_append]; simp; omega) hz1).mono ?_
      rintro e w2 ⟨rfl, h2, b2⟩
      have h2' : Lib.IsBuilder 116 5 w.heap.size w.heap.size (Lib.byteCells (S.hexs (s.data.toList.take (k + 1)))) w2 := by
        rw [take_snoc s k hlt, hexs_snoc]
        refine .inr ?_
        rw [byteCells_snoc1, List.append_assoc] at h2
        exact h2
      clear h2 h1'
      go_wp2
      go_roundw
      case rel => exact ⟨k + 1, by omega, by go_num, h2', hb1.trans b2⟩
      case measure => simp [intOf]; omega
    · have hz := hb.size
      go_wp2_with fail
      refine (Tryz.Builder_String_any _ _ _ _ hB hz).mono ?_
      rintro e w1 ⟨rfl, b1⟩
      go_wp2
      go_ret
      have e5 : s.data.toList.take k = s.data.toList := List.take_of_length_le (by have : s.data.toList.length = s.size := by simp
                                                                                   omega)
      rw [e5]
      exact ⟨rfl, hb.trans b1⟩
end Go.Proofs.YtgcflmhlegagbaaGreatDoor.E
end
