/- The printed reference's pure functions are the plain ones: byt, Split, Right. -/
import Derived.Test.YteignlfpjmfleaaDoorX7
import Derived.Test.YteignlfpjmfleaaDoorX5
import Derived.Test.YteignlfpjmfleaaDoorX3
import Derived.Test.YteignlfpjmfleaaDoorGlob
import Derived.Test.YteignlfpjmfleaaDoorSpec
set_option linter.unusedVariables false
set_option linter.unusedSimpArgs false
namespace Go.Proofs.YteignlfpjmfleaaDoor.Q
open Go.RowKit Go.Proofs.YteignlfpjmfleaaDoorW.PrintWords Go.Proofs.YteignlfpjmfleaaDoorW.PrintLast Go.Proofs.YteignlfpjmfleaaDoorW.PrintMore Go.Proofs.YteignlfpjmfleaaDoor.X
open Go.Proofs.YteignlfpjmfleaaDoor

theorem u8_all (p : UInt8 → Bool) (h : (List.range 256).all (fun n => p (UInt8.ofNat n)) = true) (c : UInt8) : p c = true := by
  have := List.all_eq_true.1 h c.toNat (List.mem_range.2 c.toNat_lt)
  simpa using this
theorem byt_eq (k : Nat) (c : UInt8) (pat : Bool) : imprimaturref13_byt.f (k + 1) (c.toNat : Int) pat = some (G.byt pat c) := by
  have h := u8_all (fun c => (imprimaturref13_byt.f 1 (c.toNat : Int) true == some (G.byt true c)) && (imprimaturref13_byt.f 1 (c.toNat : Int) false == some (G.byt false c))) (by decide +kernel) c
  simp only [Bool.and_eq_true, beq_iff_eq] at h
  have e : imprimaturref13_byt.f (k + 1) (c.toNat : Int) pat = imprimaturref13_byt.f 1 (c.toNat : Int) pat := by
    unfold imprimaturref13_byt.f imprimaturref13_byt.j0; rfl
  rw [e]; cases pat
  · exact h.2
  · exact h.1
theorem bt_get (s : ByteArray) (i : Nat) (h : i < s.size) : bt s (i : Int) = (s[i].toNat : Int) := by
  unfold bt; simp [h]
theorem w64 (i : Nat) (h : i < 9223372036854775807) : wrap64 ((i : Int) + 1) = ((i + 1 : Nat) : Int) := by unfold wrap64; omega
theorem drop_cons (s : ByteArray) (i : Nat) (h : i < s.size) : s.data.toList.drop i = s[i] :: s.data.toList.drop (i + 1) := by
  rw [List.drop_eq_getElem_cons (by simpa using h)]; rfl

theorem split_ne (l : List UInt8) : G.split l ≠ [] := by
  cases l with
  | nil => simp [G.split]
  | cons c t => rw [G.split]; split <;> (try split) <;> simp
def spl (now : ByteArray) : List UInt8 → List ByteArray
  | [] => [now]
  | c :: t => if c = 47 then now :: spl ⟨#[]⟩ t else spl (now ++ ⟨#[c]⟩) t
theorem spl_data (l : List UInt8) : ∀ now : ByteArray, (spl now l).map (fun p => p.data.toList) = (match G.split l with | [] => [now.data.toList] | h :: r => (now.data.toList ++ h) :: r) := by
  induction l with
  | nil => intro now; simp [spl, G.split]
  | cons c t ih =>
    intro now
    rw [spl, G.split]
    by_cases h : c = 47
    · rw [if_pos h, if_pos h, List.map_cons, ih]
      cases e : G.split t with
      | nil => exact absurd e (split_ne t)
      | cons a b => simp
    · rw [if_neg h, if_neg h, ih]
      cases G.split t <;> simp [ByteArray.data_append]
def splitS (s : ByteArray) : List ByteArray := spl ⟨#[]⟩ s.data.toList
theorem splitS_data (s : ByteArray) : (splitS s).map (fun p => p.data.toList) = G.split s.data.toList := by
  unfold splitS; rw [spl_data]
  have := split_ne s.data.toList
  cases h : G.split s.data.toList with
  | nil => exact absurd h this
  | cons a b => simp
theorem spl_len (l : List UInt8) : ∀ now, (spl now l).length ≤ l.length + 1 := by
  induction l with
  | nil => intro now; simp [spl]
  | cons c t ih => intro now; rw [spl]; split
                   · have := ih ⟨#[]⟩; simp; omega
                   · have := ih (now ++ ⟨#[c]⟩); simp; omega
theorem split_l0 (s : ByteArray) (hs : s.size < 4294967296) : ∀ (k i : Nat) (out : List ByteArray) (now : ByteArray), i ≤ s.size → s.size - i < k → out.length ≤ i → now.size ≤ i →
    imprimaturref13_Split.l0 k s out now (i : Int) = some (out ++ spl now (s.data.toList.drop i)) := by
  intro k
  induction k with
  | zero => intro i _ _ _ h; omega
  | succ k ih =>
    intro i out now hi hk ho hn
    rw [imprimaturref13_Split.l0]
    by_cases h : i < s.size
    · rw [if_pos (by omega), if_pos (by omega), bt_get s i h, w64 i (by omega), drop_cons s i h, spl]
      by_cases hc : s[i] = 47
      · rw [if_pos (by rw [hc]; rfl), if_pos (by omega), if_pos hc, ih (i + 1) _ _ (by omega) (by omega) (by simp; omega) (by simp [ByteArray.size])]
        simp
      · have hx : s.extract i (i + 1) = ⟨#[s[i]]⟩ := by
          apply ByteArray.ext; rw [ByteArray.data_extract]
          apply Array.ext
          · simp; have : s.data.size = s.size := rfl
            omega
          · intro j h1 h2
            have : j = 0 := by simpa using h2
            subst this; simp; rfl
        rw [if_neg (by intro e; exact hc (UInt8.toNat_inj.1 (by have : (47 : UInt8).toNat = 47 := rfl
                                                                omega))), if_pos (by omega), if_pos (by omega)]
        rw [show ((i : Nat) : Int).toNat = i from by simp, show ((i + 1 : Nat) : Int).toNat = i + 1 from Int.toNat_natCast _, hx]
        rw [if_pos (by have : (⟨#[s[i]]⟩ : ByteArray).size = 1 := rfl
                       omega), if_neg hc, ih (i + 1) _ _ (by omega) (by omega) (by omega) (by rw [ByteArray.size_append]; have : (⟨#[s[i]]⟩ : ByteArray).size = 1 := rfl
                                                                                              omega)]
    · rw [if_neg (by omega), if_pos (by omega), List.drop_eq_nil_of_le (by simp; omega)]; rfl
theorem split_f (s : ByteArray) (hs : s.size < 4294967296) (k : Nat) (hk : s.size < k) : imprimaturref13_Split.f k s = some (splitS s) := by
  unfold imprimaturref13_Split.f splitS
  exact split_l0 s hs k 0 [] ⟨#[]⟩ (by omega) (by omega) (by simp) (by simp [ByteArray.size])
theorem rd_get (l : List ByteArray) (i : Nat) (h : i < l.length) : rdOf ByteArray.empty l (i : Int) = l[i] := by
  unfold rdOf; simp [List.getD_eq_getElem?_getD, h]
theorem right_l1 (l : List ByteArray) (hl : l.length < 4294967298) : ∀ (k i : Nat), i ≤ l.length → l.length - i < k →
    imprimaturref13_Right.l1 k l (l.length : Int) (i : Int) = some (!(l.drop i).any (fun p => G.bad p.data.toList)) := by
  intro k
  induction k with
  | zero => intro i _ h; omega
  | succ k ih =>
    intro i hi hk
    rw [imprimaturref13_Right.l1]
    by_cases h : i < l.length
    · rw [if_pos (by omega), if_pos (by omega), if_pos (by omega), rd_get l i h, w64 i (by omega), List.drop_eq_getElem_cons h, List.any_cons, S.toList_list]
      unfold G.bad
      by_cases h1 : l[i].data.toList = []
      · rw [if_pos h1, h1]; rfl
      · rw [if_neg h1]
        by_cases h2 : l[i].data.toList = [46]
        · rw [if_pos h2, h2]; rfl
        · rw [if_neg h2]
          by_cases h3 : l[i].data.toList = [46, 46]
          · rw [if_pos h3, h3]; rfl
          · rw [if_neg h3, ih (i + 1) (by omega) (by omega)]
            rw [show (l[i].data.toList == []) = false from beq_eq_false_iff_ne.2 h1, show (l[i].data.toList == [46]) = false from beq_eq_false_iff_ne.2 h2, show (l[i].data.toList == [46, 46]) = false from beq_eq_false_iff_ne.2 h3]
            rfl
    · rw [if_neg (by omega), List.drop_eq_nil_of_le (by omega)]; rfl
theorem right_l0 (s : ByteArray) (pat : Bool) (hs : s.size < 4294967296) : ∀ (k i : Nat), i ≤ s.size → 2 * s.size + 4 ≤ k + i →
    imprimaturref13_Right.l0 k s pat (i : Int) = some (decide (s.size ≤ 200) && (s.data.toList.drop i).all (G.byt pat) && !(G.split s.data.toList).any G.bad) := by
  intro k
  induction k with
  | zero => intro i _ h; omega
  | succ k ih =>
    intro i hi hk
    rw [imprimaturref13_Right.l0]
    by_cases h : i < s.size
    · rw [if_pos (by omega), if_pos (by omega), bt_get s i h, drop_cons s i h, List.all_cons]
      obtain ⟨k', rfl⟩ : ∃ k', k = k' + 1 := ⟨k - 1, by omega⟩
      rw [byt_eq, Option.bind_some, w64 i (by omega)]
      cases hb : G.byt pat s[i] with
      | true => rw [if_pos rfl, ih (i + 1) (by omega) (by omega)]; simp
      | false => rw [if_neg (by simp)]; simp
    · rw [if_neg (by omega), List.drop_eq_nil_of_le (by simp; omega)]
      by_cases h2 : s.size ≤ 200
      · have hl := spl_len s.data.toList ⟨#[]⟩
        have hll : s.data.toList.length = s.size := by simp
        rw [if_neg (by omega), split_f s hs k (by omega), Option.bind_some]
        have := right_l1 (splitS s) (by unfold splitS; omega) k 0 (by omega) (by unfold splitS; omega)
        rw [show ((0 : Nat) : Int) = 0 from rfl] at this
        rw [this, ← splitS_data, List.any_map, List.drop_zero]
        simp [h2, Function.comp_def]
      · rw [if_pos (by omega)]; simp [h2]
theorem right_f (s : ByteArray) (pat : Bool) (hs : s.size < 4294967296) (k : Nat) (hk : 2 * s.size + 4 ≤ k) : imprimaturref13_Right.f k s pat = some (G.right pat s.data.toList) := by
  unfold imprimaturref13_Right.f
  have := right_l0 s pat hs k 0 (by omega) (by omega)
  rw [show ((0 : Nat) : Int) = 0 from rfl] at this
  rw [this, List.drop_zero]; unfold G.right; simp
/-! the table -/
def row (p s : List UInt8) (n i : Nat) : List Bool := (List.range (n + 1)).map (fun k => G.E p s i k)
def half (p s : List UInt8) (n i k : Nat) : List Bool := (List.range (n + 1)).map (fun j => if j < k then G.E p s (i + 1) j else false)
theorem row_len (p s n i) : (row p s n i).length = n + 1 := by simp [row]
theorem half_len (p s n i k) : (half p s n i k).length = n + 1 := by simp [half]
theorem row_get (p s : List UInt8) (n i k : Nat) (h : k ≤ n) : rdOf false (row p s n i) (k : Int) = G.E p s i k := by
  unfold rdOf row; simp [List.getD_eq_getElem?_getD, show k < n + 1 by omega]
theorem half_get (p s : List UInt8) (n i k j : Nat) (h : j ≤ n) (hj : j < k) : rdOf false (half p s n i k) (j : Int) = G.E p s (i + 1) j := by
  unfold rdOf half; simp [List.getD_eq_getElem?_getD, show j < n + 1 by omega, hj]
theorem half_set (p s : List UInt8) (n i k : Nat) (h : k ≤ n) (b : Bool) (hb : b = G.E p s (i + 1) k) : (half p s n i k).set k b = half p s n i (k + 1) := by
  apply List.ext_getElem
  · simp [half]
  · intro j h1 h2
    rw [List.getElem_set]
    simp only [half, List.getElem_map, List.getElem_range]
    by_cases e : k = j
    · subst e; simp [hb]
    · rw [if_neg e]
      by_cases e2 : j < k
      · rw [if_pos e2, if_pos (by omega)]
      · rw [if_neg e2, if_neg (by omega)]
theorem half_keep (p s : List UInt8) (n i k : Nat) (hb : G.E p s (i + 1) k = false) : half p s n i k = half p s n i (k + 1) := by
  unfold half
  apply List.map_congr_left
  intro j hj
  by_cases e : j < k
  · rw [if_pos e, if_pos (by omega)]
  · rw [if_neg e]
    by_cases e2 : j = k
    · subst e2; rw [if_pos (by omega), hb]
    · rw [if_neg (by omega)]
theorem half_zero (p s : List UInt8) (n i : Nat) : half p s n i 0 = List.replicate (n + 1) false := by
  unfold half; simp [List.map_const']
theorem half_full (p s : List UInt8) (n i : Nat) : half p s n i (n + 1) = row p s n (i + 1) := by
  unfold half row
  apply List.map_congr_left
  intro j hj
  rw [if_pos (by simpa using hj)]
theorem row_zero (p s : List UInt8) : (List.replicate (s.length + 1) false).set 0 true = row p s s.length 0 := by
  apply List.ext_getElem
  · simp [row]
  · intro j h1 h2
    have hj : j ≤ s.length := by simp [row] at h2; omega
    rw [List.getElem_set]
    simp only [row, List.getElem_map, List.getElem_range, List.getElem_replicate]
    rw [G.E_zero p s j hj]
    by_cases e : 0 = j
    · subst e; simp
    · rw [if_neg e]; simp; omega
theorem w64m (i : Nat) (h : 0 < i) (h2 : i < 9223372036854775807) : wrap64 ((i : Int) - 1) = ((i - 1 : Nat) : Int) := by unfold wrap64; omega
theorem bt_byte (s : ByteArray) (i : Nat) (h : i < s.size) (c : UInt8) : (bt s (i : Int) = (c.toNat : Int)) ↔ s[i] = c := by
  rw [bt_get s i h]
  constructor
  · intro e; exact UInt8.toNat_inj.1 (by omega)
  · intro e; rw [e]
theorem bt_42 (s : ByteArray) (i : Nat) (h : i < s.size) : (bt s (i : Int) = 42) ↔ s[i] = 42 := bt_byte s i h 42
theorem bt_63 (s : ByteArray) (i : Nat) (h : i < s.size) : (bt s (i : Int) = 63) ↔ s[i] = 63 := bt_byte s i h 63
theorem getL (s : ByteArray) (k : Nat) (h : k < s.data.toList.length) : s.data.toList[k] = s[k]'(by simpa using h) := rfl
theorem getB (s : ByteArray) (k : Nat) (h : k < s.size) : s.data.toList[k]! = s[k] := by
  rw [getElem!_pos s.data.toList k (by simpa using h)]; rfl
theorem part_l (p s : ByteArray) (hp : p.size < 4294967296) (hs : s.size < 4294967296) : ∀ k : Nat,
    (∀ i : Nat, i ≤ p.size → (p.size - i) * (s.size + 3) < k → imprimaturref13_part.l0 k p s (row p.data.toList s.data.toList s.size i) (i : Int) = some (G.pm p.data.toList s.data.toList)) ∧
    (∀ i j : Nat, i < p.size → j ≤ s.size + 1 → (p.size - i - 1) * (s.size + 3) + (s.size + 1 - j) + 1 < k → imprimaturref13_part.l1 k p s (row p.data.toList s.data.toList s.size i) (i : Int) (half p.data.toList s.data.toList s.size i j) (j : Int) = some (G.pm p.data.toList s.data.toList)) := by
  have hpl : p.data.toList.length = p.size := by simp
  have hsl : s.data.toList.length = s.size := by simp
  intro k
  induction k with
  | zero => exact ⟨fun i _ h => by omega, fun i j _ _ h => by omega⟩
  | succ k ih =>
    refine ⟨fun i hi hk => ?_, fun i j hi hj hk => ?_⟩
    · rw [imprimaturref13_part.l0]
      by_cases h : i < p.size
      · have e : (p.size - i) * (s.size + 3) = (p.size - i - 1) * (s.size + 3) + (s.size + 3) := by
          rw [← Nat.succ_mul]; congr 1; omega
        rw [if_pos (by omega), w64 s.size (by omega), if_pos (by omega), if_pos (by omega)]
        have := ih.2 i 0 h (by omega) (by omega)
        rw [half_zero] at this
        rw [show ((s.size + 1 : Nat) : Int).toNat = s.size + 1 from Int.toNat_natCast _]
        exact this
      · have e : i = p.size := by omega
        rw [if_neg (by omega), if_pos (by omega), if_pos (by rw [row_len]; omega), row_get _ _ _ _ _ (Nat.le_refl _)]
        rw [← G.E_all, hpl, hsl, e]
    · rw [imprimaturref13_part.l1]
      by_cases h : j ≤ s.size
      · rw [if_pos (by omega), if_pos (by omega), if_pos (by omega)]
        have hstep := ih.2 i (j + 1) hi (by omega) (by omega)
        by_cases hc : p[i] = 42
        · have hE := G.E_star p.data.toList s.data.toList i j (by omega) (by omega) (by rw [getL]; exact hc)
          rw [if_pos ((bt_42 p i hi).2 hc), if_pos (by omega), if_pos (by rw [row_len]; omega), row_get _ _ _ _ _ h]
          by_cases h1 : G.E p.data.toList s.data.toList i j = true
          · rw [if_pos h1, if_pos (by rw [half_len]; omega), w64 j (by omega), show ((j : Nat) : Int).toNat = j from Int.toNat_natCast _]
            rw [half_set _ _ _ _ _ h true (by rw [hE, h1]; rfl)]
            exact hstep
          · rw [if_neg h1]
            have h1' : G.E p.data.toList s.data.toList i j = false := by simpa using h1
            by_cases h0 : 0 < j
            · rw [if_pos (by omega), w64m j h0 (by omega), if_pos (by omega), if_pos (by rw [half_len]; omega), if_pos (by rw [half_len]; omega), w64 j (by omega), show ((j : Nat) : Int).toNat = j from Int.toNat_natCast _]
              rw [half_get _ _ _ _ _ _ (by omega) (by omega), half_set _ _ _ _ _ h _ (by rw [hE, h1']; simp [h0])]
              exact hstep
            · rw [if_neg (by omega), if_pos (by rw [half_len]; omega), w64 j (by omega), show ((j : Nat) : Int).toNat = j from Int.toNat_natCast _]
              rw [half_set _ _ _ _ _ h _ (by rw [hE, h1']; simp [h0])]
              exact hstep
        · have hE := G.E_one p.data.toList s.data.toList i j (by omega) (by omega) (by rw [getL]; exact hc)
          rw [if_neg (fun e => hc ((bt_42 p i hi).1 e))]
          by_cases h0 : 0 < j
          · have hg := getB s (j - 1) (by omega)
            rw [if_pos (by omega), w64m j h0 (by omega)]
            rw [hg, getL] at hE
            by_cases h63 : p[i] = 63
            · rw [if_pos ((bt_63 p i hi).2 h63), if_pos (by omega), if_pos (by rw [row_len]; omega), if_pos (by omega), if_pos (by rw [half_len]; omega), w64 j (by omega), show ((j : Nat) : Int).toNat = j from Int.toNat_natCast _]
              rw [row_get _ _ _ _ _ (by omega), half_set _ _ _ _ _ h _ (by rw [hE, h63]; simp [h0])]
              exact hstep
            · rw [if_neg (fun e => h63 ((bt_63 p i hi).1 e)), if_pos (by omega), if_pos (by omega)]
              by_cases heq : p[i] = s[j - 1]'(by omega)
              · rw [if_pos (by rw [bt_get s (j - 1) (by omega)]; exact (bt_byte p i hi _).2 heq), if_pos (by rw [row_len]; omega), if_pos (by omega), if_pos (by rw [half_len]; omega), w64 j (by omega), show ((j : Nat) : Int).toNat = j from Int.toNat_natCast _]
                rw [row_get _ _ _ _ _ (by omega), half_set _ _ _ _ _ h _ (by rw [hE, heq]; simp [h0])]
                exact hstep
              · rw [if_neg (by rw [bt_get s (j - 1) (by omega)]; exact fun e => heq ((bt_byte p i hi _).1 e)), w64 j (by omega)]
                rw [half_keep _ _ _ _ _ (by rw [hE]; simp [h63, heq])]
                exact hstep
          · rw [if_neg (by omega), w64 j (by omega), half_keep _ _ _ _ _ (by rw [hE]; simp [h0])]
            exact hstep
      · have e : j = s.size + 1 := by omega
        subst e
        rw [if_neg (by omega), half_full, w64 i (by omega)]
        exact ih.1 (i + 1) (by omega) (by rw [show p.size - (i + 1) = p.size - i - 1 from by omega]; omega)
theorem part_f (p s : ByteArray) (hp : p.size < 4294967296) (hs : s.size < 4294967296) (k : Nat) (hk : p.size * (s.size + 3) < k) : imprimaturref13_part.f k p s = some (G.pm p.data.toList s.data.toList) := by
  have hsl : s.data.toList.length = s.size := by simp
  unfold imprimaturref13_part.f
  rw [w64 s.size (by omega), if_pos (by omega), if_pos (by omega), Option.bind_some, if_pos (by rw [List.length_replicate]; omega)]
  rw [show ((s.size + 1 : Nat) : Int).toNat = s.size + 1 from Int.toNat_natCast _, ← hsl, show (0 : Int).toNat = 0 from rfl, row_zero, hsl]
  exact (part_l p s hp hs k).1 0 (by omega) (by omega)
theorem match_l0 (A B : List ByteArray) (hl : A.length = B.length) (hA : A.length < 4294967298) (M : Nat) (hp : ∀ a ∈ A, a.size ≤ M) (hs : ∀ a ∈ B, a.size ≤ M) (hM : M < 4294967296) : ∀ (k i : Nat), i ≤ A.length → M * (M + 3) + 2 + A.length ≤ k + i →
    imprimaturref13_Match.l0 k A B (A.length : Int) (i : Int) = some (((A.drop i).zip (B.drop i)).all (fun x => G.pm x.1.data.toList x.2.data.toList)) := by
  intro k
  induction k with
  | zero => intro i _ h; omega
  | succ k ih =>
    intro i hi hk
    rw [imprimaturref13_Match.l0]
    by_cases h : i < A.length
    · have hb : i < B.length := by omega
      have e1 := hp A[i] (List.getElem_mem h)
      have e2 := hs B[i] (List.getElem_mem hb)
      have e3 : A[i].size * (B[i].size + 3) ≤ M * (M + 3) := Nat.mul_le_mul e1 (by omega)
      rw [if_pos (by omega), if_pos (by omega), if_pos (by omega), if_pos (by omega), rd_get A i h, rd_get B i hb, part_f _ _ (by omega) (by omega) k (by omega), Option.bind_some, w64 i (by omega),
        List.drop_eq_getElem_cons h, List.drop_eq_getElem_cons hb, List.zip_cons_cons, List.all_cons]
      cases hm : G.pm A[i].data.toList B[i].data.toList with
      | true => rw [if_pos rfl, ih (i + 1) (by omega) (by omega)]; rfl
      | false => rw [if_neg (by simp)]; rfl
    · rw [if_neg (by omega), List.drop_eq_nil_of_le (by omega)]; rfl
theorem spl_size (l : List UInt8) : ∀ now, ∀ a ∈ spl now l, a.size ≤ now.size + l.length := by
  induction l with
  | nil => intro now a h; simp [spl] at h; subst h; simp
  | cons c t ih =>
    intro now a h
    rw [spl] at h
    split at h
    · rcases List.mem_cons.1 h with rfl | h
      · omega
      · have := ih _ a h; have e : (⟨#[]⟩ : ByteArray).size = 0 := rfl
        simp; omega
    · have := ih _ a h; rw [ByteArray.size_append] at this; have e : (⟨#[c]⟩ : ByteArray).size = 1 := rfl
      simp; omega
theorem mt_parts (A B : List ByteArray) : ((A.map (fun p => p.data.toList)).zip (B.map (fun p => p.data.toList))).all (fun x => G.pm x.1 x.2) = (A.zip B).all (fun x => G.pm x.1.data.toList x.2.data.toList) := by
  rw [List.zip_map, List.all_map]; rfl
theorem match_f (p s : ByteArray) (M : Nat) (hp : p.size ≤ M) (hs : s.size ≤ M) (hM : M < 4294967296) (k : Nat) (hk : M * (M + 3) + 2 * M + 4 ≤ k) : imprimaturref13_Match.f k p s = some (G.mt p.data.toList s.data.toList) := by
  have hpl : p.data.toList.length = p.size := by simp
  have hsl : s.data.toList.length = s.size := by simp
  have l1 := spl_len p.data.toList ⟨#[]⟩
  have l2 := spl_len s.data.toList ⟨#[]⟩
  unfold imprimaturref13_Match.f G.mt
  rw [split_f p (by omega) k (by omega), Option.bind_some, split_f s (by omega) k (by omega), Option.bind_some, ← splitS_data, ← splitS_data, List.length_map, List.length_map, mt_parts]
  unfold splitS
  by_cases h : (spl ⟨#[]⟩ p.data.toList).length = (spl ⟨#[]⟩ s.data.toList).length
  · rw [if_pos (by omega)]
    have e0 : (⟨#[]⟩ : ByteArray).size = 0 := rfl
    have := match_l0 _ _ h (by omega) M (fun a ha => by have := spl_size _ _ a ha; omega) (fun a ha => by have := spl_size _ _ a ha; omega) hM k 0 (by omega) (by omega)
    rw [show ((0 : Nat) : Int) = 0 from rfl] at this
    rw [this, List.drop_zero, List.drop_zero]; simp [h]
  · rw [if_neg (by omega)]; simp [h]
theorem short_f (a : ByteArray) (h : a.size < 4294967296) : imprimaturlaw13_short.f a = some (a.extract 0 (min a.size 205)) := by
  have e : mn (a.size : Int) 205 = ((min a.size 205 : Nat) : Int) := by unfold mn; split <;> omega
  unfold imprimaturlaw13_short.f
  rw [e, if_pos (by omega), if_pos (by omega), Int.toNat_natCast]
end Go.Proofs.YteignlfpjmfleaaDoor.Q
