/- Numbers as rows of digits to the base 65536, and roots. No program in sight. -/
import Derived.Test.YtjlmhndfpfgfkaaDoorSha
set_option linter.unusedVariables false
set_option linter.unusedSimpArgs false
namespace Go.Proofs.YtjlmhndfpfgfkaaDoor.Rt
def val : List Nat → Nat
  | [] => 0
  | d :: l => d + 65536 * val l
def D (l : List Nat) : Prop := ∀ x ∈ l, x < 65536
theorem val_append (a b : List Nat) : val (a ++ b) = val a + 65536 ^ a.length * val b := by
  induction a with
  | nil => simp [val]
  | cons d a ih => rw [List.cons_append, val, val, ih, List.length_cons, Nat.pow_succ, Nat.mul_add, Nat.add_assoc, ← Nat.mul_assoc, Nat.mul_comm 65536 (65536 ^ a.length)]
theorem val_set (l : List Nat) (j x : Nat) (h : j < l.length) : val (l.set j x) + l.getD j 0 * 65536 ^ j = val l + x * 65536 ^ j := by
  induction l generalizing j with
  | nil => simp at h
  | cons d l ih =>
    cases j with
    | zero => simp [val, List.getD_eq_getElem?_getD]; omega
    | succ j =>
      have := ih j (by simpa using h)
      rw [List.set_cons_succ, val, val, show (d :: l).getD (j + 1) 0 = l.getD j 0 from by simp [List.getD_eq_getElem?_getD], Nat.pow_succ]
      have e1 : l.getD j 0 * (65536 ^ j * 65536) = 65536 * (l.getD j 0 * 65536 ^ j) := by rw [← Nat.mul_assoc, Nat.mul_comm]
      have e2 : x * (65536 ^ j * 65536) = 65536 * (x * 65536 ^ j) := by rw [← Nat.mul_assoc, Nat.mul_comm]
      rw [e1, e2]
      omega
theorem val_take (l : List Nat) (k : Nat) (h : k < l.length) : val (l.take (k + 1)) = val (l.take k) + l.getD k 0 * 65536 ^ k := by
  rw [List.take_succ_eq_append_getElem h, val_append, List.length_take, Nat.min_eq_left (by omega)]
  simp [val, List.getD_eq_getElem?_getD, h, Nat.mul_comm]
theorem val_zeros (n : Nat) : val (List.replicate n 0) = 0 := by
  induction n with
  | zero => rfl
  | succ n ih => rw [List.replicate_succ, val, ih]
theorem val_lt (l : List Nat) (h : D l) : val l < 65536 ^ l.length := by
  induction l with
  | nil => simp [val]
  | cons d l ih =>
    have := ih (fun x hx => h x (List.mem_cons_of_mem _ hx))
    have hd := h d List.mem_cons_self
    rw [val, List.length_cons, Nat.pow_succ]
    omega
theorem D_set {l : List Nat} {j x : Nat} (h : D l) (hx : x < 65536) : D (l.set j x) := by
  intro y hy
  rcases List.mem_or_eq_of_mem_set hy with h1 | rfl
  · exact h y h1
  · exact hx
theorem D_getD {l : List Nat} (h : D l) (j : Nat) : l.getD j 0 < 65536 := by
  rw [List.getD_eq_getElem?_getD]
  cases e : l[j]? with
  | none => decide
  | some x => exact h x (List.mem_of_getElem? e)
theorem D_zeros (n : Nat) : D (List.replicate n 0) := by
  intro x hx; rw [List.eq_of_mem_replicate hx]; decide
/-- one step of the inner round. -/
theorem inner_step (V c o ai bk i k t : Nat) (ht : t = c + o + ai * bk) (V' : Nat) (hV : V' + o * 65536 ^ (i + k) = V + (t % 65536) * 65536 ^ (i + k)) (S : Nat) (hS : V + c * 65536 ^ (i + k) = S) :
    V' + (t / 65536) * 65536 ^ (i + (k + 1)) = S + ai * bk * 65536 ^ (i + k) := by
  have e : 65536 ^ (i + (k + 1)) = 65536 * 65536 ^ (i + k) := by rw [← Nat.add_assoc, Nat.pow_succ, Nat.mul_comm]
  rw [e]
  generalize 65536 ^ (i + k) = P at *
  have h1 : t / 65536 * (65536 * P) = (t / 65536 * 65536) * P := by rw [Nat.mul_assoc]
  have h2 : t % 65536 * P + t / 65536 * 65536 * P = t * P := by rw [← Nat.add_mul, Nat.mul_comm (t / 65536), Nat.add_comm, Nat.div_add_mod]
  have h3 : t * P = c * P + o * P + ai * bk * P := by rw [ht, Nat.add_mul, Nat.add_mul]
  omega
theorem getD_zero_of (l : List Nat) (h : ∀ j, l.getD j 0 = 0) : val l = 0 := by
  induction l with
  | nil => rfl
  | cons d l ih =>
    have h0 := h 0
    have := ih (fun j => by have := h (j + 1); simpa [List.getD_eq_getElem?_getD] using this)
    simp [List.getD_eq_getElem?_getD] at h0
    rw [val, this, h0]
theorem val_ext : ∀ (a b : List Nat), (∀ j, a.getD j 0 = b.getD j 0) → val a = val b := by
  intro a
  induction a with
  | nil => intro b h; exact (getD_zero_of b (fun j => by rw [← h j]; simp [List.getD_eq_getElem?_getD])).symm
  | cons d a ih =>
    intro b h
    cases b with
    | nil => exact getD_zero_of _ (fun j => by rw [h j]; simp [List.getD_eq_getElem?_getD])
    | cons e b =>
      have h0 := h 0
      simp [List.getD_eq_getElem?_getD] at h0
      rw [val, val, h0, ih b (fun j => by have := h (j + 1); simpa [List.getD_eq_getElem?_getD] using this)]
theorem val_split (l : List Nat) (i : Nat) : val l = val (l.take i) + 65536 ^ i * (l.getD i 0 + 65536 * val (l.drop (i + 1))) := by
  by_cases h : i < l.length
  · have e : l = l.take i ++ (l.getD i 0 :: l.drop (i + 1)) := by
      conv => lhs; rw [← List.take_append_drop i l, List.drop_eq_getElem_cons h]
      simp [List.getD_eq_getElem?_getD, h]
    conv => lhs; rw [e]
    rw [val_append, List.length_take, Nat.min_eq_left (by omega), val]
  · rw [List.take_of_length_le (by omega), List.getD_eq_getElem?_getD, List.getElem?_eq_none (by omega), List.drop_eq_nil_of_le (by omega)]; simp [val]
theorem take_lt (l : List Nat) (h : D l) (i : Nat) : val (l.take i) < 65536 ^ i := by
  refine Nat.lt_of_lt_of_le (val_lt _ (fun x hx => h x (List.mem_of_mem_take hx))) (Nat.pow_le_pow_right (by decide) (List.length_take_le _ _))
theorem above_lt (a b : List Nat) (ha : D a) (hb : D b) (i : Nat) (hi : ∀ j, i < j → a.getD j 0 = b.getD j 0) (h : a.getD i 0 < b.getD i 0) : val a < val b := by
  have hd : val (a.drop (i + 1)) = val (b.drop (i + 1)) := val_ext _ _ (fun j => by
    have := hi (i + 1 + j) (by omega)
    simpa [List.getD_eq_getElem?_getD] using this)
  rw [val_split a i, val_split b i, hd]
  have h1 := take_lt a ha i
  generalize val (b.drop (i + 1)) = q at *
  generalize 65536 ^ i = P at *
  have h2 : P * (a.getD i 0 + 65536 * q) + P ≤ P * (b.getD i 0 + 65536 * q) := by
    rw [← Nat.mul_succ]; exact Nat.mul_le_mul_left _ (by omega)
  omega
/-- bit by bit. -/
def rloop (p deg : Nat) : Nat → List Nat → Option (List Nat)
  | 0, r => some r
  | k + 1, r =>
    let r1 := r.set (k / 16) (r.getD (k / 16) 0 + 2 ^ (k % 16))
    if r.getD (k / 16) 0 + 2 ^ (k % 16) < 65536 then
      if p * 65536 ^ (4 * deg) < val r1 ^ deg then rloop p deg k r else rloop p deg k r1
    else none
def root (p deg : Nat) : Option Nat := (rloop p deg 69 [0, 0, 0, 0, 0]).map fun r => val (r.take 4)
def isPrime (n : Nat) (out : List Nat) : Bool := out.all fun p => n % p != 0
def ploop (many : Nat) : Nat → Nat → List Nat → Option (List Nat)
  | 0, _, _ => none
  | f + 1, n, out => if out.length < many then ploop many f (n + 1) (if isPrime n out then out ++ [n] else out) else some out
def good (many deg : Nat) (want : List Nat) : Bool :=
  match ploop many 500 2 [] with
  | some P => P.length == want.length && P.all (fun p => decide (p < 1000)) && (P.zip want).all fun x => root x.1 deg == some x.2
  | none => false
theorem good_h0 : good 8 2 Sh.h0 = true := by decide +kernel
theorem good_kw : good 80 3 Sh.kw = true := by decide +kernel
end Go.Proofs.YtjlmhndfpfgfkaaDoor.Rt
