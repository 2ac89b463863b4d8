/- Names as lists of bytes: decimal numbers, parts joined and split, what a name asks for. No program in sight. -/
import Derived.Test.YtmgkgjacnbeboaaDoorGlob
import Derived.Test.YtmgkgjacnbeboaaDoorSpec
import Derived.Lib.ItoaNum
import Derived.Lib.Atoi
import Derived.Lib.AtoiAll
import Derived.Lib.AtoiTie
import Derived.Lib.Join
set_option linter.unusedVariables false
set_option linter.unusedSimpArgs false
namespace Go.Proofs.YtmgkgjacnbeboaaDoor.Nm
open Go.Lib

def plainR (c : UInt8) : Bool := (decide (97 ≤ c.toNat) && decide (c.toNat ≤ 122)) || (decide (48 ≤ c.toNat) && decide (c.toNat ≤ 57)) || c == 45
def nameOk (s : List UInt8) : Bool := decide (1 ≤ s.length) && decide (s.length ≤ 32) && s.all plainR
def within (n : Int) : Bool := decide (0 ≤ n) && decide (n ≤ 1000000)

/-! ### decimal numbers -/
theorem dec_digit (u : Nat) : ∀ c ∈ decDigits u, 48 ≤ c.toNat ∧ c.toNat ≤ 57 := by
  induction u using Nat.strongRecOn with
  | ind u ih =>
    intro c hc
    rw [decDigits] at hc
    split at hc
    · rename_i h
      obtain rfl : c = UInt8.ofNat (48 + u) := by simpa using hc
      rw [UInt8.toNat_ofNat']; omega
    · rename_i h
      rcases List.mem_append.1 hc with hc | hc
      · exact ih (u / 10) (by omega) c hc
      · obtain rfl : c = UInt8.ofNat (48 + u % 10) := by simpa using hc
        rw [UInt8.toNat_ofNat']; omega
theorem decFrom_app (l : List UInt8) (c : UInt8) : ∀ acc, decFrom acc (l ++ [c]) = (decFrom acc l).bind fun n => (digitVal c).map fun d => n * 10 + d := by
  induction l with
  | nil =>
    intro acc
    simp only [List.nil_append, decFrom]
    cases digitVal c <;> rfl
  | cons b t ih =>
    intro acc
    rw [List.cons_append, decFrom, decFrom]
    cases digitVal b with
    | none => rfl
    | some d => exact ih _
theorem digit_val (d : Nat) (h : d < 10) : digitVal (UInt8.ofNat (48 + d)) = some d := by
  unfold digitVal
  rw [UInt8.toNat_ofNat', show (48 + d) % 2 ^ 8 = 48 + d from by omega, if_pos (by omega)]; congr 1; omega
theorem dec_back (u : Nat) : decFrom 0 (decDigits u) = some u := by
  induction u using Nat.strongRecOn with
  | ind u ih =>
    rw [decDigits]
    split
    · rename_i h
      simp only [decFrom]
      rw [digit_val u h]; simp
    · rename_i h
      rw [decFrom_app, ih (u / 10) (by omega), Option.bind_some, digit_val _ (by omega), Option.map_some]
      congr 1; omega
theorem dec_ne (u : Nat) : decDigits u ≠ [] := by
  rw [decDigits]; split <;> simp
theorem dec_len (u : Nat) (h : u ≤ 1000000) : (decDigits u).length ≤ 7 := by
  rw [decDigits_length]
  have key : ∀ k u, u < 10 ^ (k + 1) → nDigits u ≤ k + 1 := by
    intro k
    induction k with
    | zero => intro u hu; rw [nDigits_small (by simpa using hu)]; omega
    | succ k ih =>
      intro u hu
      by_cases h10 : u < 10
      · rw [nDigits_small h10]; omega
      · rw [nDigits_big h10]
        have := ih (u / 10) (by rw [Nat.pow_succ] at hu; omega)
        omega
  exact key 6 u (by omega)
theorem dec_inj {u v : Nat} (h : decDigits u = decDigits v) : u = v := by
  have := dec_back u
  rw [h, dec_back v] at this
  exact (Option.some.inj this).symm
/-- What Atoi hands back beside its error. -/
def atoiV (l : List UInt8) : Int := match atoiAll l with | .ok v => v | .«syntax» => 0 | .range => atoiSat l
theorem atoiV_dec (u : Nat) (h : u ≤ 1000000) : atoiV (decDigits u) = (u : Int) := by
  unfold atoiV
  rw [atoiAll_short _ (by have := dec_len u h; omega)]
  have hne := dec_ne u
  have hd := dec_digit u
  have hb := dec_back u
  cases e : decDigits u with
  | nil => exact absurd e hne
  | cons b r =>
    have hb1 := hd b (by rw [e]; simp)
    have h45 : (b == 45) = false := by
      apply beq_eq_false_iff_ne.2; intro h; rw [h] at hb1; simp at hb1
    have h43 : (b == 43) = false := by
      apply beq_eq_false_iff_ne.2; intro h; rw [h] at hb1; simp at hb1
    rw [e] at hb
    simp only [atoi, h45, h43, Bool.false_eq_true, if_false, decNat, List.isEmpty_cons, hb, Option.map_some, NumEnd.ofOption]
theorem itoa_nat (u : Nat) : itoa (u : Int) = decDigits u := by unfold itoa; rw [if_neg (by omega)]; simp
theorem itoa_in (n : Int) (h : within n = true) : itoa n = decDigits n.toNat ∧ n.toNat ≤ 1000000 ∧ (n.toNat : Int) = n := by
  unfold within at h
  rw [Bool.and_eq_true, decide_eq_true_iff, decide_eq_true_iff] at h
  refine ⟨?_, by omega, by omega⟩
  rw [← itoa_nat]; congr 1; omega
theorem dec_noslash (u : Nat) : (47 : UInt8) ∉ decDigits u := fun h => by have := dec_digit u _ h; simp at this
theorem name_noslash {s : List UInt8} (h : nameOk s = true) : (47 : UInt8) ∉ s := fun hm => by
  unfold nameOk at h
  rw [Bool.and_eq_true] at h
  have := List.all_eq_true.1 h.2 _ hm
  revert this; decide

/-! ### parts -/
theorem split_cons_slash (a t : List UInt8) (h : (47 : UInt8) ∉ a) : G.split (a ++ 47 :: t) = a :: G.split t := by
  induction a with
  | nil => rw [List.nil_append, G.split, if_pos rfl]
  | cons c r ih =>
    rw [List.cons_append, G.split, if_neg (fun e => h (by simp [e])), ih (fun e => h (List.mem_cons_of_mem _ e))]
theorem split_one (a : List UInt8) (h : (47 : UInt8) ∉ a) : G.split a = [a] := by
  induction a with
  | nil => rw [G.split]
  | cons c r ih => rw [G.split, if_neg (fun e => h (by simp [e])), ih (fun e => h (List.mem_cons_of_mem _ e))]
theorem join_cc (a b : List UInt8) (r : List (List UInt8)) : join (a :: b :: r) [47] = a ++ 47 :: join (b :: r) [47] := by
  rw [join_cons, join_cons]; simp [joinTail]
theorem split_join (xs : List (List UInt8)) (hne : xs ≠ []) (h : ∀ x ∈ xs, (47 : UInt8) ∉ x) : G.split (join xs [47]) = xs := by
  induction xs with
  | nil => exact absurd rfl hne
  | cons a r ih =>
    cases r with
    | nil => rw [join_one, split_one a (h a (by simp))]
    | cons b t => rw [join_cc, split_cons_slash a _ (h a (by simp)), ih (by simp) (fun x hx => h x (by simp [hx]))]
theorem split_nonempty (s : List UInt8) : G.split s ≠ [] := by
  cases s with
  | nil => rw [G.split]; simp
  | cons c t =>
    rw [G.split]
    split
    · simp
    · cases G.split t <;> simp
theorem join_split (s : List UInt8) : join (G.split s) [47] = s := by
  induction s with
  | nil => rw [G.split, join_one]
  | cons c t ih =>
    rw [G.split]
    by_cases hc : c = 47
    · rw [if_pos hc]
      cases e : G.split t with
      | nil => exact absurd e (split_nonempty t)
      | cons b r => rw [join_cc, ← e, ih, hc]; rfl
    · rw [if_neg hc]
      cases e : G.split t with
      | nil => exact absurd e (split_nonempty t)
      | cons b r =>
        rw [e] at ih
        cases r with
        | nil => rw [join_one] at ih ⊢; rw [ih]
        | cons d u => rw [join_cc] at ih ⊢; rw [List.cons_append, ih]
theorem split_noslash (s : List UInt8) : ∀ x ∈ G.split s, (47 : UInt8) ∉ x := by
  induction s with
  | nil => intro x hx; rw [G.split] at hx; simp at hx; subst hx; simp
  | cons c t ih =>
    intro x hx
    rw [G.split] at hx
    by_cases hc : c = 47
    · rw [if_pos hc] at hx
      rcases List.mem_cons.1 hx with rfl | hx
      · simp
      · exact ih x hx
    · rw [if_neg hc] at hx
      cases e : G.split t with
      | nil => exact absurd e (split_nonempty t)
      | cons b r =>
        rw [e] at hx ih
        rcases List.mem_cons.1 hx with rfl | hx
        · intro hm
          rcases List.mem_cons.1 hm with h | h
          · exact hc h.symm
          · exact ih b (by simp) h
        · exact ih x (by simp [hx])
end Go.Proofs.YtmgkgjacnbeboaaDoor.Nm
