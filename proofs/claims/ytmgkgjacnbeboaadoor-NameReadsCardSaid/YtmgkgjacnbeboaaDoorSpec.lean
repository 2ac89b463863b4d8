/- Plain lists of bytes: digits, big-endian numbers, packed parts. No program in sight. -/
import Derived.Lib.Bytealg
import Derived.Lib.IndexLaws
import Derived.Laws.BytesArg
import Derived.Laws.BitsAllLaws
import Derived.Laws.BitsLemmas
import Derived.WalkKit
set_option linter.unusedVariables false
set_option linter.unusedSimpArgs false
namespace Go.Proofs.YtmgkgjacnbeboaaDoor.S
open Go.RowKit

def mkB (l : List UInt8) : ByteArray := ⟨l.toArray⟩
theorem mkB_size (l : List UInt8) : (mkB l).size = l.length := by simp [mkB, ByteArray.size]
theorem mkB_list (l : List UInt8) : (mkB l).data.toList = l := by simp [mkB]
theorem mkB_data (s : ByteArray) : mkB s.data.toList = s := by cases s; simp [mkB]
theorem mkB_append (a b : List UInt8) : mkB a ++ mkB b = mkB (a ++ b) := by
  apply ByteArray.ext; simp [mkB, ByteArray.data_append]
theorem mkB_inj {a b : List UInt8} (h : mkB a = mkB b) : a = b := by have := congrArg (fun s : ByteArray => s.data.toList) h; simpa [mkB] using this
theorem mkB_extract (l : List UInt8) (a b : Nat) : (mkB l).extract a b = mkB ((l.drop a).take (b - a)) := by
  unfold mkB; rw [ByteArray.extract_mk]
theorem size_list (s : ByteArray) : s.data.toList.length = s.size := by simp
theorem toList_list (s : ByteArray) : s.toList = s.data.toList := by
  exact ByteArray.toList_eq s

theorem wrap64_id {x : Int} (h0 : -9223372036854775808 ≤ x) (h1 : x ≤ 9223372036854775807) : wrap64 x = x := by unfold wrap64; omega
theorem u64_id {x : Int} (h0 : 0 ≤ x) (h1 : x < 18446744073709551616) : IntKind.u64.wrap x = x := by simp [IntKind.wrap, IntKind.signed, IntKind.bits]; omega

/-! digits -/
def digs : List UInt8 := [48, 49, 50, 51, 52, 53, 54, 55, 56, 57, 97, 98, 99, 100, 101, 102]
def hex1 (c : UInt8) : List UInt8 := [digs.getD (c.toNat / 16) 0, digs.getD (c.toNat % 16) 0]
def hexs (l : List UInt8) : List UInt8 := l.flatMap hex1
theorem hexs_nil : hexs [] = [] := rfl
theorem hexs_cons (c : UInt8) (l : List UInt8) : hexs (c :: l) = hex1 c ++ hexs l := by simp [hexs]
theorem hexs_length (l : List UInt8) : (hexs l).length = 2 * l.length := by
  induction l with
  | nil => rfl
  | cons a l ih => simp [hexs, hex1] at ih ⊢; omega
theorem hexs_append (a b : List UInt8) : hexs (a ++ b) = hexs a ++ hexs b := by simp [hexs]
/-- a digit's number; none: it is none. -/
def undig (c : UInt8) : Option Nat := if 48 ≤ c.toNat ∧ c.toNat ≤ 57 then some (c.toNat - 48) else if 97 ≤ c.toNat ∧ c.toNat ≤ 102 then some (c.toNat - 87) else none
theorem undig_lt {c : UInt8} {n : Nat} (h : undig c = some n) : n < 16 := by
  unfold undig at h; split at h
  · cases h; omega
  · split at h
    · cases h; omega
    · cases h
theorem all_bytes {p : UInt8 → Prop} [DecidablePred p] (h : ∀ n : Fin 256, p (UInt8.ofNat n.val)) (c : UInt8) : p c := by
  have := h ⟨c.toNat, c.toNat_lt⟩; simpa using this
theorem undig_index (c : UInt8) : (match undig c with | some n => (n : Int) | none => -1) = Lib.indexByte digs c :=
  all_bytes (p := fun c => (match undig c with | some n => (n : Int) | none => -1) = Lib.indexByte digs c) (by decide +kernel) c
theorem undig_digs : ∀ n : Fin 16, undig (digs.getD n.val 0) = some n.val := by decide +kernel
theorem undig_at {n : Nat} (h : n < 16) : undig (digs.getD n 0) = some n := undig_digs ⟨n, h⟩
theorem digs_undig (c : UInt8) (n : Nat) (h : undig c = some n) : digs.getD n 0 = c := by
  have := all_bytes (p := fun c => ∀ n : Fin 16, undig c = some n.val → digs.getD n.val 0 = c) (by decide +kernel) c
  exact this ⟨n, undig_lt h⟩ h
def unhex : List UInt8 → Option (List UInt8)
  | [] => some []
  | [_] => none
  | a :: b :: r => match undig a, undig b with
    | some x, some y => (unhex r).map fun l => UInt8.ofNat (16 * x + y) :: l
    | _, _ => none
theorem unhex_hexs (l : List UInt8) : unhex (hexs l) = some l := by
  induction l with
  | nil => rfl
  | cons c l ih =>
    have hc : c.toNat < 256 := c.toNat_lt
    rw [hexs_cons]
    show unhex (digs.getD (c.toNat / 16) 0 :: digs.getD (c.toNat % 16) 0 :: hexs l) = _
    rw [unhex, undig_at (by omega), undig_at (by omega)]
    simp only [ih, Option.map_some]
    have : 16 * (c.toNat / 16) + c.toNat % 16 = c.toNat := by omega
    rw [this]; simp
theorem hexs_unhex : ∀ (l r : List UInt8), unhex l = some r → hexs r = l
  | [], r, h => by simp [unhex] at h; subst h; rfl
  | [_], r, h => by simp [unhex] at h
  | a :: b :: t, r, h => by
    rw [unhex] at h
    split at h
    · rename_i x y hx hy
      cases ht : unhex t with
      | none => simp [ht] at h
      | some q =>
        simp only [ht, Option.map_some, Option.some.injEq] at h
        subst h
        have := undig_lt hx; have := undig_lt hy
        have e : (UInt8.ofNat (16 * x + y)).toNat = 16 * x + y := by simp; omega
        rw [hexs_cons, hexs_unhex t q ht]
        show digs.getD ((UInt8.ofNat (16 * x + y)).toNat / 16) 0 :: digs.getD ((UInt8.ofNat (16 * x + y)).toNat % 16) 0 :: t = _
        rw [e, show (16 * x + y) / 16 = x from by omega, show (16 * x + y) % 16 = y from by omega, digs_undig a x hx, digs_undig b y hy]
    · cases h
theorem unhex_length : ∀ (l r : List UInt8), unhex l = some r → l.length = 2 * r.length := by
  intro l r h; have := hexs_unhex l r h; rw [← this, hexs_length]

/-! numbers -/
def num (l : List UInt8) : Nat := l.foldl (fun n c => 256 * n + c.toNat) 0
theorem num_snoc (l : List UInt8) (c : UInt8) : num (l ++ [c]) = 256 * num l + c.toNat := by simp [num]
theorem num_lt (l : List UInt8) : num l < 256 ^ l.length := by
  have h : ∀ n (l : List UInt8), l.length = n → num l < 256 ^ n := by
    intro n
    induction n with
    | zero => intro l h; cases l with
      | nil => simp [num]
      | cons a l => simp at h
    | succ n ih =>
      intro l h
      rcases List.eq_nil_or_concat l with rfl | ⟨l', c, rfl⟩
      · simp at h
      · rw [List.concat_eq_append] at h ⊢
        simp at h
        have := ih l' h
        rw [num_snoc, Nat.pow_succ]
        have := c.toNat_lt
        omega
  exact h _ l rfl
/-- a number in so many bytes, the highest first. -/
def be : Nat → Nat → List UInt8
  | 0, _ => []
  | k + 1, n => be k (n / 256) ++ [UInt8.ofNat (n % 256)]
theorem be_length (k n : Nat) : (be k n).length = k := by
  induction k generalizing n with
  | zero => rfl
  | succ k ih => simp [be, ih]
theorem num_be (k n : Nat) (h : n < 256 ^ k) : num (be k n) = n := by
  induction k generalizing n with
  | zero => simp [be, num] at h ⊢; omega
  | succ k ih =>
    rw [be, num_snoc, ih (n / 256) (by rw [Nat.pow_succ] at h; exact Nat.div_lt_of_lt_mul (by omega))]
    simp; omega
theorem be_num (l : List UInt8) : be l.length (num l) = l := by
  have h : ∀ n (l : List UInt8), l.length = n → be n (num l) = l := by
    intro n
    induction n with
    | zero => intro l h; cases l with
      | nil => rfl
      | cons a l => simp at h
    | succ n ih =>
      intro l h
      rcases List.eq_nil_or_concat l with rfl | ⟨l', c, rfl⟩
      · simp at h
      · rw [List.concat_eq_append] at h ⊢
        simp at h
        have hc := c.toNat_lt
        rw [num_snoc, be, show (256 * num l' + c.toNat) / 256 = num l' from by omega, show (256 * num l' + c.toNat) % 256 = c.toNat from by omega, ih l' h]
        simp
  exact h _ l rfl
/-- .. told from the lowest byte on. -/
theorem be_top (k n : Nat) : be (k + 1) n = UInt8.ofNat (n / 256 ^ k % 256) :: be k n := by
  induction k generalizing n with
  | zero => simp [be]
  | succ k ih =>
    rw [be, ih (n / 256)]
    conv => rhs; rw [be]
    rw [List.cons_append, Nat.div_div_eq_div_mul, Nat.pow_succ, Nat.mul_comm 256]

/-! parts -/
def pk1 (s : List UInt8) : List UInt8 := be 4 s.length ++ s
def pk (l : List (List UInt8)) : List UInt8 := l.flatMap pk1
theorem pk_cons (s : List UInt8) (l : List (List UInt8)) : pk (s :: l) = pk1 s ++ pk l := by simp [pk]
theorem pk_snoc (l : List (List UInt8)) (s : List UInt8) : pk (l ++ [s]) = pk l ++ pk1 s := by simp [pk]
theorem pk1_length (s : List UInt8) : (pk1 s).length = 4 + s.length := by simp [pk1, be_length]
/-- what a text's parts are; or a number of an error. -/
def unp : Nat → Nat → List UInt8 → List (List UInt8) → List (List UInt8) × Int
  | 0, _, _, _ => ([], 0)
  | f + 1, m, t, acc =>
    if t = [] then (acc, 0) else if m = 64 then ([], 22) else if t.length < 4 then ([], 3)
    else if (t.drop 4).length < num (t.take 4) then ([], 3)
    else unp f (m + 1) ((t.drop 4).drop (num (t.take 4))) (acc ++ [(t.drop 4).take (num (t.take 4))])
def unpack (t : List UInt8) : List (List UInt8) × Int := if 65536 < t.length then ([], 2) else unp (t.length + 1) 0 t []
def pack (l : List (List UInt8)) : List UInt8 × Int := if 64 < l.length then ([], 22) else if 65536 < (pk l).length then ([], 2) else (pk l, 0)
theorem unp_fuel : ∀ (f g m : Nat) (t : List UInt8) (acc : List (List UInt8)), t.length < f → t.length < g → unp f m t acc = unp g m t acc
  | 0, _, _, _, _, h, _ => by omega
  | _ + 1, 0, _, _, _, _, h => by omega
  | f + 1, g + 1, m, t, acc, h, h' => by
    rw [unp, unp]
    by_cases c1 : t = []
    · rw [if_pos c1, if_pos c1]
    · rw [if_neg c1, if_neg c1]
      by_cases c2 : m = 64
      · rw [if_pos c2, if_pos c2]
      · rw [if_neg c2, if_neg c2]
        by_cases c3 : t.length < 4
        · rw [if_pos c3, if_pos c3]
        · rw [if_neg c3, if_neg c3]
          by_cases c4 : (t.drop 4).length < num (t.take 4)
          · rw [if_pos c4, if_pos c4]
          · rw [if_neg c4, if_neg c4]
            exact unp_fuel f g _ _ _ (by simp; omega) (by simp; omega)
theorem unp_pk : ∀ (l acc : List (List UInt8)) (f : Nat), (∀ s ∈ l, s.length < 4294967296) → (pk l).length < f → acc.length + l.length ≤ 64 → unp f acc.length (pk l) acc = (acc ++ l, 0)
  | [], acc, f, _, hf, _ => by
    obtain ⟨f, rfl⟩ : ∃ g, f = g + 1 := ⟨f - 1, by omega⟩
    rw [unp, if_pos (show pk [] = [] from rfl), List.append_nil]
  | s :: l, acc, f, hs, hf, hm => by
    obtain ⟨f, rfl⟩ : ∃ g, f = g + 1 := ⟨f - 1, by omega⟩
    have h1 := hs s (by simp)
    rw [pk_cons] at hf ⊢
    have e4 : (pk1 s ++ pk l).take 4 = be 4 s.length := by rw [pk1, List.append_assoc, List.take_append_of_le_length (by rw [be_length]; omega), List.take_of_length_le (by rw [be_length]; omega)]
    have ed : (pk1 s ++ pk l).drop 4 = s ++ pk l := by
      rw [pk1, List.append_assoc, List.drop_append_of_le_length (by rw [be_length]; omega), List.drop_of_length_le (by rw [be_length]; omega), List.nil_append]
    have en : num (be 4 s.length) = s.length := num_be 4 s.length (by omega)
    have hl := pk1_length s
    rw [unp, if_neg (by intro h; have := congrArg List.length h; rw [List.length_append, hl] at this; simp at this), if_neg (by simp at hm; omega), if_neg (by simp [hl]; omega), e4, ed, en, if_neg (by simp)]
    have := unp_pk l (acc ++ [s]) f (fun x hx => hs x (by simp [hx])) (by simp [hl] at hf; omega) (by simp at hm ⊢; omega)
    rw [show (acc ++ [s]).length = acc.length + 1 from by simp] at this
    rw [List.drop_append_of_le_length (Nat.le_refl _), List.drop_of_length_le (Nat.le_refl _), List.nil_append, List.take_append_of_le_length (Nat.le_refl _), List.take_of_length_le (Nat.le_refl _), this, List.append_assoc]; rfl
theorem unpack_pack (l : List (List UInt8)) (h : (pack l).2 = 0) : unpack (pack l).1 = (l, 0) := by
  unfold pack at h ⊢
  by_cases c1 : 64 < l.length
  · rw [if_pos c1] at h; simp at h
  · rw [if_neg c1] at h ⊢
    by_cases c2 : 65536 < (pk l).length
    · rw [if_pos c2] at h; simp at h
    · rw [if_neg c2, unpack]
      simp only
      rw [if_neg c2]
      have hs : ∀ s ∈ l, s.length < 4294967296 := by
        intro s hs
        have : (pk1 s).length ≤ (pk l).length := by
          unfold pk
          have : pk1 s ∈ l.map pk1 := List.mem_map_of_mem hs
          rw [List.flatMap_def]
          clear c1 c2 h
          induction l with
          | nil => simp at hs
          | cons a l ih =>
            rcases List.mem_cons.1 hs with rfl | h'
            · simp
            · have := ih h' (List.mem_map_of_mem h'); simp at this ⊢; omega
        rw [pk1_length] at this; omega
      exact unp_pk l [] _ hs (by omega) (by simp; omega)
/-- what comes out of a text is packed so. -/
theorem pk_unp : ∀ (f m : Nat) (t : List UInt8) (acc r : List (List UInt8)), t.length < f → unp f m t acc = (r, 0) → m ≤ 64 → ∃ l, r = acc ++ l ∧ pk l = t ∧ m + l.length ≤ 64
  | 0, _, _, _, _, h, _, _ => by omega
  | f + 1, m, t, acc, r, hf, h, hm => by
    rw [unp] at h
    by_cases c1 : t = []
    · rw [if_pos c1] at h; cases h; exact ⟨[], by simp, by simp [c1, pk], by simpa using hm⟩
    · rw [if_neg c1] at h
      by_cases c2 : m = 64
      · rw [if_pos c2] at h; cases h
      · rw [if_neg c2] at h
        by_cases c3 : t.length < 4
        · rw [if_pos c3] at h; cases h
        · rw [if_neg c3] at h
          by_cases c4 : (t.drop 4).length < num (t.take 4)
          · rw [if_pos c4] at h; cases h
          · rw [if_neg c4] at h
            obtain ⟨l, rfl, hl, hlen⟩ := pk_unp f (m + 1) _ _ _ (by simp; omega) h (by omega)
            refine ⟨(t.drop 4).take (num (t.take 4)) :: l, by simp, ?_, by simp; omega⟩
            rw [pk_cons, hl, pk1]
            have e : ((t.drop 4).take (num (t.take 4))).length = num (t.take 4) := by rw [List.length_take]; omega
            rw [e]
            have hb := be_num (t.take 4)
            have h4 : (t.take 4).length = 4 := by simp; omega
            rw [h4] at hb
            rw [hb, List.append_assoc, List.take_append_drop, List.take_append_drop]
theorem pack_unpack (t : List UInt8) (r : List (List UInt8)) (h : unpack t = (r, 0)) : pack r = (t, 0) := by
  unfold unpack at h
  by_cases c : 65536 < t.length
  · rw [if_pos c] at h; cases h
  · rw [if_neg c] at h
    obtain ⟨l, rfl, hl, hlen⟩ := pk_unp _ 0 t [] r (by omega) h (by omega)
    rw [pack, if_neg (by omega), hl, if_neg c]
theorem pack_inj (a b : List (List UInt8)) (ha : (pack a).2 = 0) (hb : (pack b).2 = 0) (h : (pack a).1 = (pack b).1) : a = b := by
  have e1 := unpack_pack a ha
  have e2 := unpack_pack b hb
  rw [h, e2] at e1
  cases e1; rfl

theorem mem_pk_le {s : List UInt8} {l : List (List UInt8)} (h : s ∈ l) : 4 + s.length ≤ (pk l).length := by
  induction l with
  | nil => simp at h
  | cons a l ih =>
    rw [pk_cons, List.length_append, pk1_length]
    rcases List.mem_cons.1 h with rfl | h'
    · omega
    · have := ih h'; omega
theorem unp_skip (s : List UInt8) (hs : s.length < 4294967296) (t : List UInt8) (acc : List (List UInt8)) (f m : Nat) (hm : m ≠ 64) (hf : (pk1 s ++ t).length < f + 1) :
    unp (f + 1) m (pk1 s ++ t) acc = unp f (m + 1) t (acc ++ [s]) := by
  have e4 : (pk1 s ++ t).take 4 = be 4 s.length := by rw [pk1, List.append_assoc, List.take_append_of_le_length (by rw [be_length]; omega), List.take_of_length_le (by rw [be_length]; omega)]
  have ed : (pk1 s ++ t).drop 4 = s ++ t := by
    rw [pk1, List.append_assoc, List.drop_append_of_le_length (by rw [be_length]; omega), List.drop_of_length_le (by rw [be_length]; omega), List.nil_append]
  have en : num (be 4 s.length) = s.length := num_be 4 s.length (by omega)
  have hl := pk1_length s
  rw [unp, if_neg (by intro h; have := congrArg List.length h; rw [List.length_append, hl] at this; simp at this), if_neg hm, if_neg (by simp [hl]; omega), e4, ed, en, if_neg (by simp)]
  rw [List.drop_append_of_le_length (Nat.le_refl _), List.drop_of_length_le (Nat.le_refl _), List.nil_append, List.take_append_of_le_length (Nat.le_refl _), List.take_of_length_le (Nat.le_refl _)]
theorem unp_break : ∀ (P acc : List (List UInt8)) (f : Nat) (s t : List UInt8), (∀ x ∈ P, x.length < 4294967296) → s.length < 4294967296 → 0 < t.length → t.length < 4 + s.length → t = (pk1 s).take t.length → (pk P ++ t).length < f → acc.length + P.length < 64 →
    unp f acc.length (pk P ++ t) acc = ([], 3)
  | [], acc, f, s, t, _, hs, h0, h1, ht, hf, hm => by
    obtain ⟨f, rfl⟩ : ∃ g, f = g + 1 := ⟨f - 1, by omega⟩
    rw [show pk [] ++ t = t from rfl, unp, if_neg (by intro h; rw [h] at h0; simp at h0), if_neg (by simp at hm; omega)]
    by_cases c : t.length < 4
    · rw [if_pos c]
    · have e4 : t.take 4 = be 4 s.length := by
        rw [ht, List.take_take, Nat.min_eq_left (by omega), pk1, List.take_append_of_le_length (by rw [be_length]; omega), List.take_of_length_le (by rw [be_length]; omega)]
      have en : num (be 4 s.length) = s.length := num_be 4 s.length (by omega)
      rw [if_neg c, e4, en, if_pos (by simp; omega)]
  | p :: P, acc, f, s, t, hp, hs, h0, h1, ht, hf, hm => by
    obtain ⟨f, rfl⟩ : ∃ g, f = g + 1 := ⟨f - 1, by omega⟩
    have hl := pk1_length p
    rw [pk_cons, List.append_assoc] at hf ⊢
    rw [unp_skip p (hp p (by simp)) (pk P ++ t) acc f acc.length (by simp at hm; omega) hf]
    have := unp_break P (acc ++ [p]) f s t (fun x hx => hp x (by simp [hx])) hs h0 h1 ht (by rw [List.length_append, hl] at hf; omega) (by simp at hm ⊢; omega)
    rw [show (acc ++ [p]).length = acc.length + 1 from by simp] at this
    exact this
theorem unpack_break (P : List (List UInt8)) (s t : List UInt8) (hs : s.length < 4294967296) (h0 : 0 < t.length) (h1 : t.length < 4 + s.length) (ht : t = (pk1 s).take t.length) (hL : (pk P ++ t).length ≤ 65536) (hm : P.length < 64) : unpack (pk P ++ t) = ([], 3) := by
  rw [unpack, if_neg (by omega)]
  refine unp_break P [] _ s t (fun x hx => ?_) hs h0 h1 ht (by omega) (by simpa using hm)
  have := mem_pk_le hx
  rw [List.length_append] at hL; omega
theorem unpack_pk (P : List (List UInt8)) (hL : (pk P).length ≤ 65536) (hm : P.length ≤ 64) : unpack (pk P) = (P, 0) := by
  rw [unpack, if_neg (by omega)]
  refine unp_pk P [] _ (fun x hx => ?_) (by omega) (by simpa using hm)
  have := mem_pk_le hx; omega
end Go.Proofs.YtmgkgjacnbeboaaDoor.S
