/- The printed reference's pure functions are the plain ones: bytes, names, digits, texts in order, roles, files. -/
import Derived.Test.YtgcflmhlegagbaaGreatDoorQe
import Derived.Test.YtgcflmhlegagbaaGreatDoorQ1
import Derived.Test.YtgcflmhlegagbaaGreatDoorQ4
import Derived.Test.YtgcflmhlegagbaaGreatDoorQ6
import Derived.Test.YtgcflmhlegagbaaGreatDoorQf
import Derived.Test.YtgcflmhlegagbaaGreatDoorQ7
import Derived.Deep.RegionHeld3
section
set_option linter.unusedVariables false
set_option linter.unusedSimpArgs false
namespace Go.Proofs.YtgcflmhlegagbaaGreatDoor.R
open Go.RowKit Go.Proofs.YtgcflmhlegagbaaGreatDoorW.PrintWords Go.Proofs.YtgcflmhlegagbaaGreatDoorW.PrintLast Go.Proofs.YtgcflmhlegagbaaGreatDoorW.PrintMore Go.Proofs.YtgcflmhlegagbaaGreatDoor.X
open Go.Proofs.YtgcflmhlegagbaaGreatDoor
open S
theorem u8_all (p : UInt8 → Bool) (h : (List.range 256).all (fun n => p (UInt8.ofNat n)) = true) (c : UInt8) : p c = true := by
  have := List.all_eq_true.1 h c.toNat (List.mem_range.2 c.toNat_lt)
  simpa using this
theorem byt_eq (k : Nat) (c : UInt8) (pat : Bool) : imprimaturref13_byt.f (k + 1) (c.toNat : Int) pat = some (G.byt pat c) := by
  have h := u8_all (fun c => (imprimaturref13_byt.f 1 (c.toNat : Int) true == some (G.byt true c)) && (imprimaturref13_byt.f 1 (c.toNat : Int) false == some (G.byt false c))) (by decide +kernel) c
  simp only [Bool.and_eq_true, beq_iff_eq] at h
  have e : imprimaturref13_byt.f (k + 1) (c.toNat : Int) pat = imprimaturref13_byt.f 1 (c.toNat : Int) pat := by
    unfold imprimaturref13_byt.f imprimaturref13_byt.j0; rfl
  rw [e]; cases pat
  · exact h.2
  · exact h.1
theorem bt_get (s : ByteArray) (i : Nat) (h : i < s.size) : bt s (i : Int) = (s[i].toNat : Int) := by
  unfold bt; simp [h]
theorem w64 (i : Nat) (h : i < 9223372036854775807) : wrap64 ((i : Int) + 1) = ((i + 1 : Nat) : Int) := by unfold wrap64; omega
theorem drop_cons (s : ByteArray) (i : Nat) (h : i < s.size) : s.data.toList.drop i = s[i] :: s.data.toList.drop (i + 1) := by
  rw [List.drop_eq_getElem_cons (by simpa using h)]; rfl
theorem split_ne (l : List UInt8) : G.split l ≠ [] := by
  cases l with
  | nil => simp [G.split]
  | cons c t => rw [G.split]; split <;> (try split) <;> simp
def spl (now : ByteArray) : List UInt8 → List ByteArray
  | [] => [now]
  | c :: t => if c = 47 then now :: spl ⟨#[]⟩ t else spl (now ++ ⟨#[c]⟩) t
theorem spl_data (l : List UInt8) : ∀ now : ByteArray, (spl now l).map (fun p => p.data.toList) = (match G.split l with | [] => [now.data.toList] | h :: r => (now.data.toList ++ h) :: r) := by
  induction l with
  | nil => intro now; simp [spl, G.split]
  | cons c t ih =>
    intro now
    rw [spl, G.split]
    by_cases h : c = 47
    · rw [if_pos h, if_pos h, List.map_cons, ih]
      cases e : G.split t with
      | nil => exact absurd e (split_ne t)
      | cons a b => simp
    · rw [if_neg h, if_neg h, ih]
      cases G.split t <;> simp [ByteArray.data_append]
def splitS (s : ByteArray) : List ByteArray := spl ⟨#[]⟩ s.data.toList
theorem splitS_data (s : ByteArray) : (splitS s).map (fun p => p.data.toList) = G.split s.data.toList := by
  unfold splitS; rw [spl_data]
  have := split_ne s.data.toList
  cases h : G.split s.data.toList with
  | nil => exact absurd h this
  | cons a b => simp
theorem spl_len (l : List UInt8) : ∀ now, (spl now l).length ≤ l.length + 1 := by
  induction l with
  | nil => intro now; simp [spl]
  | cons c t ih => intro now; rw [spl]; split
                   · have := ih ⟨#[]⟩; simp; omega
                   · have := ih (now ++ ⟨#[c]⟩); simp; omega
theorem split_l0 (s : ByteArray) (hs : s.size < 4294967296) : ∀ (k i : Nat) (out : List ByteArray) (now : ByteArray), i ≤ s.size → s.size - i < k → out.length ≤ i → now.size ≤ i →
    imprimaturref13_Split.l0 k s out now (i : Int) = some (out ++ spl now (s.data.toList.drop i)) := by
  intro k
  induction k with
  | zero => intro i _ _ _ h; omega
  | succ k ih =>
    intro i out now hi hk ho hn
    rw [imprimaturref13_Split.l0]
    by_cases h : i < s.size
    · rw [if_pos (by omega), if_pos (by omega), bt_get s i h, w64 i (by omega), drop_cons s i h, spl]
      by_cases hc : s[i] = 47
      · rw [if_pos (by rw [hc]; rfl), if_pos (by omega), if_pos hc, ih (i + 1) _ _ (by omega) (by omega) (by simp; omega) (by simp [ByteArray.size])]
        simp
      · have hx : s.extract i (i + 1) = ⟨#[s[i]]⟩ := by
          apply ByteArray.ext; rw [ByteArray.data_extract]
          apply Array.ext
          · simp; have : s.data.size = s.size := rfl
            omega
          · intro j h1 h2
            have : j = 0 := by simpa using h2
            subst this; simp; rfl
        rw [if_neg (by intro e; exact hc (UInt8.toNat_inj.1 (by have : (47 : UInt8).toNat = 47 := rfl
                                                                omega))), if_pos (by omega), if_pos (by omega)]
        rw [show ((i : Nat) : Int).toNat = i from by simp, show ((i + 1 : Nat) : Int).toNat = i + 1 from Int.toNat_natCast _, hx]
        rw [if_pos (by have : (⟨#[s[i]]⟩ : ByteArray).size = 1 := rfl
                       omega), if_neg hc, ih (i + 1) _ _ (by omega) (by omega) (by omega) (by rw [ByteArray.size_append]; have : (⟨#[s[i]]⟩ : ByteArray).size = 1 := rfl
                                                                                              omega)]
    · rw [if_neg (by omega), if_pos (by omega), List.drop_eq_nil_of_le (by simp; omega)]; rfl
theorem split_f (s : ByteArray) (hs : s.size < 4294967296) (k : Nat) (hk : s.size < k) : imprimaturref13_Split.f k s = some (splitS s) := by
  unfold imprimaturref13_Split.f splitS
  exact split_l0 s hs k 0 [] ⟨#[]⟩ (by omega) (by omega) (by simp) (by simp [ByteArray.size])
theorem rd_get (l : List ByteArray) (i : Nat) (h : i < l.length) : rdOf ByteArray.empty l (i : Int) = l[i] := by
  unfold rdOf; simp [List.getD_eq_getElem?_getD, h]
theorem right_l1 (l : List ByteArray) (hl : l.length < 4294967298) : ∀ (k i : Nat), i ≤ l.length → l.length - i < k →
    imprimaturref13_Right.l1 k l (l.length : Int) (i : Int) = some (!(l.drop i).any (fun p => G.bad p.data.toList)) := by
  intro k
  induction k with
  | zero => intro i _ h; omega
  | succ k ih =>
    intro i hi hk
    rw [imprimaturref13_Right.l1]
    by_cases h : i < l.length
    · rw [if_pos (by omega), if_pos (by omega), if_pos (by omega), rd_get l i h, w64 i (by omega), List.drop_eq_getElem_cons h, List.any_cons, S.toList_list]
      unfold G.bad
      by_cases h1 : l[i].data.toList = []
      · rw [if_pos h1, h1]; rfl
      · rw [if_neg h1]
        by_cases h2 : l[i].data.toList = [46]
        · rw [if_pos h2, h2]; rfl
        · rw [if_neg h2]
          by_cases h3 : l[i].data.toList = [46, 46]
          · rw [if_pos h3, h3]; rfl
          · rw [if_neg h3, ih (i + 1) (by omega) (by omega)]
            rw [show (l[i].data.toList == []) = false from beq_eq_false_iff_ne.2 h1, show (l[i].data.toList == [46]) = false from beq_eq_false_iff_ne.2 h2, show (l[i].data.toList == [46, 46]) = false from beq_eq_false_iff_ne.2 h3]
            rfl
    · rw [if_neg (by omega), List.drop_eq_nil_of_le (by omega)]; rfl
theorem right_l0 (s : ByteArray) (pat : Bool) (hs : s.size ≤ 140737488351232) : ∀ (k i : Nat), i ≤ s.size → 2 * s.size + 4 ≤ k + i →
    imprimaturref13_Right.l0 k s pat (i : Int) = some (decide (s.size ≤ 200) && (s.data.toList.drop i).all (G.byt pat) && !(G.split s.data.toList).any G.bad) := by
  intro k
  induction k with
  | zero => intro i _ h; omega
  | succ k ih =>
    intro i hi hk
    rw [imprimaturref13_Right.l0]
    by_cases h : i < s.size
    · rw [if_pos (by omega), if_pos (by omega), bt_get s i h, drop_cons s i h, List.all_cons]
      obtain ⟨k', rfl⟩ : ∃ k', k = k' + 1 := ⟨k - 1, by omega⟩
      rw [byt_eq, Option.bind_some, w64 i (by omega)]
      cases hb : G.byt pat s[i] with
      | true => rw [if_pos rfl, ih (i + 1) (by omega) (by omega)]; simp
      | false => rw [if_neg (by simp)]; simp
    · rw [if_neg (by omega), List.drop_eq_nil_of_le (by simp; omega)]
      by_cases h2 : s.size ≤ 200
      · have hl := spl_len s.data.toList ⟨#[]⟩
        have hll : s.data.toList.length = s.size := by simp
        rw [if_neg (by omega), split_f s (by omega) k (by omega), Option.bind_some]
        have := right_l1 (splitS s) (by unfold splitS; omega) k 0 (by omega) (by unfold splitS; omega)
        rw [show ((0 : Nat) : Int) = 0 from rfl] at this
        rw [this, ← splitS_data, List.any_map, List.drop_zero]
        simp [h2, Function.comp_def]
      · rw [if_pos (by omega)]; simp [h2]
theorem right_f (s : ByteArray) (pat : Bool) (hs : s.size ≤ 140737488351232) (k : Nat) (hk : 2 * s.size + 4 ≤ k) : imprimaturref13_Right.f k s pat = some (G.right pat s.data.toList) := by
  unfold imprimaturref13_Right.f
  have := right_l0 s pat hs k 0 (by omega) (by omega)
  rw [show ((0 : Nat) : Int) = 0 from rfl] at this
  rw [this, List.drop_zero]; unfold G.right; simp
/-! the table -/
abbrev numsOf (l : List UInt8) : List Int := l.map fun c => (c.toNat : Int)
theorem strOfNums_bytes (l : List UInt8) : strOfNums (l.map fun c => (c.toNat : Int)) = mkB l := by simp [strOfNums, mkB, Function.comp_def]
theorem mkB_get (l : List UInt8) (i : Nat) (h : i < (mkB l).size) (h' : i < l.length) : (mkB l)[i] = l[i] := rfl
theorem bt_nat (l : List UInt8) (i : Nat) (h : i < l.length) : bt (mkB l) (i : Int) = (l[i].toNat : Int) := by
  unfold bt
  rw [dif_pos (by rw [Int.toNat_natCast, mkB_size]; simpa using h)]
  have := mkB_get l i (by rw [mkB_size]; exact h) h
  exact congrArg (fun c : UInt8 => (c.toNat : Int)) this
theorem bt_app (pre : List UInt8) (c : UInt8) (post : List UInt8) : bt (mkB (pre ++ c :: post)) (pre.length : Int) = (c.toNat : Int) := by
  rw [bt_nat _ _ (by simp), List.getElem_append_right (by omega)]
  simp
def dig? (c : UInt8) : Int := match undig c with | some n => (n : Int) | none => -1
theorem toNat_ofNat16 {x y : Nat} (hx : x < 16) (hy : y < 16) : (UInt8.ofNat (16 * x + y)).toNat = 16 * x + y := by simp; omega
theorem unhex_cons (a b : UInt8) (r : List UInt8) : unhex (a :: b :: r) = match undig a, undig b with | some x, some y => (unhex r).map (fun l => UInt8.ofNat (16 * x + y) :: l) | _, _ => none := by rw [unhex]; rfl
theorem rdigit (k : Nat) (c : UInt8) : imprimaturref01_digit.f (k + 1) (c.toNat : Int) = some (dig? c) := by
  have hc := c.toNat_lt
  have g : (∃ n : Nat, undig c = some n ∧ 48 ≤ c.toNat ∧ c.toNat ≤ 57 ∧ n = c.toNat - 48) ∨ (∃ n : Nat, undig c = some n ∧ 97 ≤ c.toNat ∧ c.toNat ≤ 102 ∧ n = c.toNat - 87) ∨ (undig c = none ∧ ¬ (48 ≤ c.toNat ∧ c.toNat ≤ 57) ∧ ¬ (97 ≤ c.toNat ∧ c.toNat ≤ 102)) := by
    unfold undig
    by_cases h1 : 48 ≤ c.toNat ∧ c.toNat ≤ 57
    · rw [if_pos h1]; exact .inl ⟨_, rfl, h1.1, h1.2, rfl⟩
    · rw [if_neg h1]
      by_cases h2 : 97 ≤ c.toNat ∧ c.toNat ≤ 102
      · rw [if_pos h2]; exact .inr (.inl ⟨_, rfl, h2.1, h2.2, rfl⟩)
      · rw [if_neg h2]; exact .inr (.inr ⟨rfl, h1, h2⟩)
  simp only [imprimaturref01_digit.f, imprimaturref01_digit.j0, dig?]
  rcases g with ⟨n, hu, h1, h2, rfl⟩ | ⟨n, hu, h1, h2, rfl⟩ | ⟨hu, h1, h2⟩
  · rw [hu, if_pos (by omega), if_pos (by rw [decide_eq_true_iff]; omega)]
    simp only; congr 1; omega
  · rw [hu, if_pos (by omega), if_neg (by rw [decide_eq_true_iff]; omega), if_pos (by omega), if_pos (by omega)]
    simp only; congr 1; omega
  · rw [hu]
    by_cases h3 : 48 ≤ c.toNat
    · rw [if_pos (by omega), if_neg (by rw [decide_eq_true_iff]; omega)]
      by_cases h4 : 97 ≤ c.toNat
      · rw [if_pos (by omega), if_neg (by omega)]
      · rw [if_neg (by omega)]
    · rw [if_neg (by omega), if_neg (by simp), if_neg (by omega)]
def rRes (acc : List UInt8) : Option (List UInt8) → ByteArray × Bool
  | some r => (mkB (acc ++ r), true)
  | none => (mkB [], false)
theorem add16 : ∀ x y : Fin 16, wrap64 (wrap64 (16 * (x.val : Int)) + (y.val : Int)) % 256 = ((16 * x.val + y.val : Nat) : Int) := by decide +kernel
theorem runhex_l (l : List UInt8) (hl : l.length ≤ 140737488351232) : ∀ (post pre acc : List UInt8) (k : Nat), pre ++ post = l → pre.length % 2 = 0 → acc.length ≤ pre.length → 2 * post.length + 3 < k → imprimaturref01_Unhex.l0 k (mkB l) (numsOf acc) (pre.length : Int) = some (rRes acc (unhex post))
  | [], pre, acc, k, h, h2, ha, hk => by
    obtain ⟨k, rfl⟩ : ∃ m, k = m + 1 := ⟨k - 1, by omega⟩
    have hs : (mkB l).size = pre.length := by rw [mkB_size, ← h]; simp
    simp only [imprimaturref01_Unhex.l0, hs]
    rw [wrap64_id (by omega) (by rw [← h] at hl; simp at hl; omega), if_neg (by omega), if_neg (by omega), strOfNums_bytes]
    simp [unhex, rRes]
  | [a], pre, acc, k, h, h2, ha, hk => by
    obtain ⟨k, rfl⟩ : ∃ m, k = m + 1 := ⟨k - 1, by omega⟩
    have hs : (mkB l).size = pre.length + 1 := by rw [mkB_size, ← h]; simp
    simp only [imprimaturref01_Unhex.l0, hs]
    rw [wrap64_id (by omega) (by rw [← h] at hl; simp at hl; omega), if_neg (by omega), if_pos (by omega)]
    simp [unhex, rRes, mkB]
  | a :: b :: r, pre, acc, k, h, h2, ha, hk => by
    obtain ⟨k, rfl⟩ : ∃ m, k = m + 3 := ⟨k - 3, by omega⟩
    have hs : (mkB l).size = pre.length + (r.length + 2) := by rw [mkB_size, ← h]; simp
    have hl' : pre.length + (r.length + 2) ≤ 140737488351232 := by rw [← hs, mkB_size]; exact hl
    have e0 : bt (mkB l) (pre.length : Int) = (a.toNat : Int) := by rw [← h]; exact bt_app pre a (b :: r)
    have ew : wrap64 ((pre.length : Int) + 1) = ((pre ++ [a]).length : Int) := by rw [wrap64_id (by omega) (by omega)]; simp
    have ew2 : wrap64 ((pre.length : Int) + 2) = ((pre ++ [a, b]).length : Int) := by rw [wrap64_id (by omega) (by omega)]; simp
    have e1 : bt (mkB l) ((pre ++ [a]).length : Int) = (b.toNat : Int) := by
      have : l = (pre ++ [a]) ++ b :: r := by rw [← h]; simp
      rw [this]; exact bt_app (pre ++ [a]) b r
    have hp1 : ((pre ++ [a]).length : Int) = pre.length + 1 := by simp
    rw [imprimaturref01_Unhex.l0]
    simp only [imprimaturref01_Unhex.j1, ew, ew2, e0, e1, rdigit, Option.bind_some]
    rw [if_pos (by rw [hs, hp1]; omega), if_pos (by omega), if_pos (by rw [hs]; omega), unhex_cons]
    cases hda : undig a with
    | none => rw [show dig? a = -1 from by rw [dig?, hda], if_pos (by omega)]; simp [rRes, mkB]
    | some x =>
      have hx := undig_lt hda
      rw [show dig? a = (x : Int) from by rw [dig?, hda], if_neg (by omega), if_pos (by omega)]
      cases hdb : undig b with
      | none => rw [show dig? b = -1 from by rw [dig?, hdb], if_pos (by simp)]; simp [rRes, mkB]
      | some y =>
        have hy := undig_lt hdb
        have e3 : numsOf acc ++ [wrap64 (wrap64 (16 * (x : Int)) + (y : Int)) % 256] = numsOf (acc ++ [UInt8.ofNat (16 * x + y)]) := by
          rw [add16 ⟨x, hx⟩ ⟨y, hy⟩]
          simp only [numsOf, List.map_append, List.map_cons, List.map_nil, toNat_ofNat16 hx hy]
        rw [show dig? b = (y : Int) from by rw [dig?, hdb], if_neg (by simp), if_pos (by omega), if_pos (by rw [hs]; omega), if_pos (by rw [hp1]; omega), if_pos (by rw [hs, hp1]; omega), if_pos (by simp; omega), e3, runhex_l l hl r (pre ++ [a, b]) (acc ++ [UInt8.ofNat (16 * x + y)]) (k + 1) (by simpa using h) (by simp; omega) (by simp; omega) (by simp at hk; omega)]
        cases unhex r <;> simp [rRes]
theorem runhex_f (s : ByteArray) (hs : s.size ≤ 140737488351232) (k : Nat) (hk : 2 * s.size + 3 < k) : imprimaturref01_Unhex.f k s = some (rRes [] (unhex s.data.toList)) := by
  have := runhex_l s.data.toList (by rw [size_list]; exact hs) s.data.toList [] [] k rfl rfl (Nat.le_refl _) (by rw [size_list]; exact hk)
  rw [mkB_data] at this
  exact this
theorem name_l (l : List UInt8) (hl : l.length ≤ 140737488351232) : ∀ (post pre : List UInt8) (k : Nat), pre ++ post = l → pre.all Nm.plainR = true → post.length < k →
    imprimaturref15_Name.l0 k (mkB l) (pre.length : Int) = some (Nm.nameOk l) := by
  have hsz : (mkB l).size = l.length := mkB_size l
  intro post
  induction post with
  | nil =>
    intro pre k hp ha hk
    rw [List.append_nil] at hp
    subst hp
    obtain ⟨k', rfl⟩ : ∃ k', k = k' + 1 := ⟨k - 1, by simp at hk; omega⟩
    rw [imprimaturref15_Name.l0, if_neg (by rw [hsz]; omega), hsz]
    unfold Nm.nameOk
    rw [ha]
    by_cases h1 : 0 < pre.length
    · rw [if_pos (by omega)]
      refine congrArg some ?_
      rw [Bool.eq_iff_iff]
      simp
      try omega
    · rw [if_neg (by omega)]
      refine congrArg some ?_
      rw [Bool.eq_iff_iff]
      simp
      try omega
  | cons c post ih =>
    intro pre k hp ha hk
    obtain ⟨k', rfl⟩ : ∃ k', k = k' + 1 := ⟨k - 1, by simp at hk; omega⟩
    have hlen : pre.length < l.length := by rw [← hp]; simp
    have hbt : bt (mkB l) (pre.length : Int) = (c.toNat : Int) := by rw [← hp]; exact bt_app pre c post
    have hw2 : wrap64 ((pre.length : Int) + 1) = (((pre ++ [c]).length : Nat) : Int) := by unfold wrap64; simp; omega
    have hpl := Nm.plain_int c
    have hgo : Nm.plainR c = true → imprimaturref15_Name.l0 k' (mkB l) (wrap64 ((pre.length : Int) + 1)) = some (Nm.nameOk l) := fun h => by
      rw [hw2]
      exact ih (pre ++ [c]) k' (by rw [← hp]; simp) (by rw [List.all_append, ha]; simp [h]) (by simp at hk; omega)
    have hno : Nm.plainR c = false → some false = some (Nm.nameOk l) := fun h => by
      congr 1
      unfold Nm.nameOk
      rw [← hp, List.all_append, List.all_cons, h]; simp
    have e : Nm.plainR c = true ↔ ((97 ≤ (c.toNat : Int) ∧ (c.toNat : Int) ≤ 122) ∨ (48 ≤ (c.toNat : Int) ∧ (c.toNat : Int) ≤ 57) ∨ (c.toNat : Int) = 45) := by
      unfold Nm.dropPlain at hpl
      constructor
      · intro h
        rw [if_pos h] at hpl
        apply Classical.byContradiction
        intro hn
        rw [if_neg hn] at hpl; omega
      · intro h
        rw [if_pos h] at hpl
        cases hc : Nm.plainR c with
        | true => rfl
        | false => exfalso; rw [hc] at hpl; first | (simp at hpl; done) | (simp at hpl; omega)
    have yes : ((97 ≤ (c.toNat : Int) ∧ (c.toNat : Int) ≤ 122) ∨ (48 ≤ (c.toNat : Int) ∧ (c.toNat : Int) ≤ 57) ∨ (c.toNat : Int) = 45) → imprimaturref15_Name.l0 k' (mkB l) (wrap64 ((pre.length : Int) + 1)) = some (Nm.nameOk l) := fun h => hgo (e.2 h)
    have no : ¬ ((97 ≤ (c.toNat : Int) ∧ (c.toNat : Int) ≤ 122) ∨ (48 ≤ (c.toNat : Int) ∧ (c.toNat : Int) ≤ 57) ∨ (c.toNat : Int) = 45) → some false = some (Nm.nameOk l) := fun h => hno (Bool.eq_false_iff.2 (fun h' => h (e.1 h')))
    clear hgo hno e hpl ih
    rw [imprimaturref15_Name.l0, if_pos (by rw [hsz]; omega), if_pos (by omega), hbt]
    repeat' split
    all_goals first
      | exact yes (by omega)
      | exact no (by omega)
theorem name_f (s : ByteArray) (hs : s.size ≤ 140737488351232) (k : Nat) (hk : s.size < k) : imprimaturref15_Name.f k s = some (Nm.nameOk s.data.toList) := by
  have := name_l s.data.toList (by rw [size_list]; exact hs) s.data.toList [] k rfl rfl (by rw [size_list]; exact hk)
  rw [mkB_data] at this
  exact this
/-! texts in order -/
theorem less_l : ∀ (a b pre : List UInt8) (k : Nat), (pre ++ a).length ≤ 140737488351232 → 2 * a.length + 2 ≤ k → imprimaturref11_Less.l0 k (mkB (pre ++ a)) (mkB (pre ++ b)) (pre.length : Int) = some (Op.bytesLess a b)
  | [], b, pre, k, hl, hk => by
    obtain ⟨k, rfl⟩ : ∃ m, k = m + 2 := ⟨k - 2, by simp at hk; omega⟩
    have h0 : (mkB (pre ++ [])).size = pre.length := by rw [mkB_size]; simp
    have h1 : (mkB (pre ++ b)).size = pre.length + b.length := by rw [mkB_size]; simp
    rw [imprimaturref11_Less.l0, if_neg (by omega), imprimaturref11_Less.j1, if_neg (by simp), h0, h1]
    cases b with
    | nil => simp [Op.bytesLess]
    | cons c t => simp only [List.length_cons, Op.bytesLess]; congr 1; rw [decide_eq_true_iff]; omega
  | c :: a, [], pre, k, hl, hk => by
    obtain ⟨k, rfl⟩ : ∃ m, k = m + 2 := ⟨k - 2, by simp at hk; omega⟩
    have h0 : (mkB (pre ++ c :: a)).size = pre.length + (a.length + 1) := by rw [mkB_size]; simp
    have h1 : (mkB (pre ++ [])).size = pre.length := by rw [mkB_size]; simp
    rw [imprimaturref11_Less.l0, if_pos (by omega), imprimaturref11_Less.j1, if_neg (by rw [decide_eq_true_iff]; omega), h0, h1]
    simp only [Op.bytesLess]; congr 1; rw [decide_eq_false_iff_not]; omega
  | c :: a, x :: b, pre, k, hl, hk => by
    obtain ⟨k, rfl⟩ : ∃ m, k = m + 2 := ⟨k - 2, by simp at hk; omega⟩
    have h0 : (mkB (pre ++ c :: a)).size = pre.length + (a.length + 1) := by rw [mkB_size]; simp
    have h1 : (mkB (pre ++ x :: b)).size = pre.length + (b.length + 1) := by rw [mkB_size]; simp
    have hl' : pre.length + (a.length + 1) ≤ 140737488351232 := by rw [← mkB_size, h0] at hl; exact hl
    rw [imprimaturref11_Less.l0, if_pos (by omega), imprimaturref11_Less.j1, if_pos (by rw [decide_eq_true_iff]; omega), if_pos (by omega), if_pos (by omega), if_pos (by omega), bt_app, bt_app]
    by_cases e : c = x
    · subst e
      have ih := less_l a b (pre ++ [c]) k (by simp; omega) (by simp at hk; omega)
      rw [if_pos rfl, wrap64_id (by omega) (by omega), show (pre.length : Int) + 1 = ((pre ++ [c]).length : Int) from by simp, show pre ++ c :: a = (pre ++ [c]) ++ a from by simp, show pre ++ c :: b = (pre ++ [c]) ++ b from by simp, ih]
      simp [Op.bytesLess, UInt8.lt_irrefl]
    · have hne : ¬ ((c.toNat : Int) = (x.toNat : Int)) := fun h => e (UInt8.toNat_inj.1 (by omega))
      have hbe : (c == x) = false := beq_eq_false_iff_ne.2 e
      rw [if_neg hne]
      simp only [Op.bytesLess, hbe, Bool.false_and, Bool.or_false]
      congr 1
      rw [decide_eq_decide, UInt8.lt_iff_toNat_lt]; omega
theorem less_f (a b : ByteArray) (ha : a.size ≤ 140737488351232) (k : Nat) (hk : 2 * a.size + 2 ≤ k) : imprimaturref11_Less.f k a b = some (Op.bytesLess a.toList b.toList) := by
  have := less_l a.data.toList b.data.toList [] k (by rw [List.nil_append, size_list]; exact ha) (by rw [size_list]; exact hk)
  rw [List.nil_append, List.nil_append, mkB_data, mkB_data] at this
  unfold imprimaturref11_Less.f
  rw [toList_list, toList_list]
  exact this
/-! digits -/
theorem hex_undig (c : UInt8) : E.hexB c = (undig c).isSome := by
  have h := undig_index c
  unfold E.hexB
  rw [show ([48, 49, 50, 51, 52, 53, 54, 55, 56, 57, 97, 98, 99, 100, 101, 102] : List UInt8) = digs from rfl, ← h]
  cases undig c <;> simp
theorem unhex_some : ∀ l : List UInt8, (unhex l).isSome = (decide (l.length % 2 = 0) && l.all E.hexB)
  | [] => rfl
  | [a] => by simp [unhex]
  | a :: b :: r => by
    have ih := unhex_some r
    rw [unhex_cons, List.all_cons, List.all_cons, hex_undig, hex_undig]
    have e : decide ((a :: b :: r).length % 2 = 0) = decide (r.length % 2 = 0) := by rw [decide_eq_decide]; simp only [List.length_cons]; omega
    rw [e]
    cases undig a <;> cases undig b <;> simp [Option.isSome_map] <;> exact ih
theorem isId_f (s : ByteArray) (hs : s.size ≤ 140737488351232) (k : Nat) (hk : 2 * s.size + 3 < k) : imprimaturref14_IsId.f k s = some (E.idOk s.data.toList) := by
  unfold imprimaturref14_IsId.f
  rw [runhex_f s hs k hk, Option.bind_some]
  have h := unhex_some s.data.toList
  have hz : s.data.toList.length = s.size := size_list s
  rw [hz] at h
  unfold E.idOk
  rw [hz]
  cases e : unhex s.data.toList with
  | some r =>
    rw [e] at h
    have h' := h.symm
    simp only [Option.isSome_some, Bool.and_eq_true] at h'
    simp only [rRes, if_true, h'.2, Bool.and_true]
    congr 1
    rw [Bool.eq_iff_iff, beq_iff_eq, decide_eq_true_iff]; omega
  | none =>
    rw [e] at h
    rw [if_neg (by simp [rRes])]
    congr 1
    by_cases h6 : s.size = 64
    · have h' := h.symm
      rw [h6] at h'
      simp only [Option.isSome_none, Nat.reduceMod, decide_true, Bool.true_and] at h'
      rw [h', Bool.and_false]
    · simp [h6]
/-! roles, files -/
theorem rdb (l : List ByteArray) (i : Nat) : rdOf ByteArray.empty l (i : Int) = l.getD i ByteArray.empty := by unfold rdOf; simp
theorem w64p (i : Nat) (h : 0 < i) (h2 : i < 9223372036854775807) : wrap64 ((i : Int) - 1) = ((i - 1 : Nat) : Int) := by unfold wrap64; omega
theorem role_l (ids : List ByteArray) (need : Int) (h16 : ids.length ≤ 16) (M : Nat) (hM : ∀ i, (ids.getD i ByteArray.empty).size ≤ M) (hM2 : M ≤ 140737488351232) : ∀ (k i : Nat), i ≤ ids.length → ids.length + (2 * M + 4) < k + i →
    imprimaturref14_Right.l0 k ids (ids.length : Int) (i : Int) ids need = some (((List.range ids.length).drop i).all (E.roleAt ids)) := by
  intro k
  induction k with
  | zero => intro i _ h; omega
  | succ k ih =>
    intro i hi hk
    rw [imprimaturref14_Right.l0]
    by_cases h : i < ids.length
    · have h1 := hM i
      have h2 := hM (i - 1)
      rw [if_pos (by omega), if_pos (by omega), if_pos (by omega), rdb, isId_f _ (by omega) k (by omega), Option.bind_some, E.range_drop _ _ h, List.all_cons]
      rw [show E.roleAt ids i = (E.idOk (ids.getD i ByteArray.empty).data.toList && (decide (i = 0) || Op.bytesLess (ids.getD (i - 1) ByteArray.empty).toList (ids.getD i ByteArray.empty).toList)) from rfl]
      cases e : E.idOk (ids.getD i ByteArray.empty).data.toList with
      | false => rw [if_neg (by simp)]; simp
      | true =>
        rw [if_pos rfl]
        by_cases h0 : i = 0
        · subst h0
          rw [if_neg (by omega), wrap64_id (by omega) (by omega), show ((0 : Nat) : Int) + 1 = ((1 : Nat) : Int) from rfl, ih 1 (by omega) (by omega)]
          simp
        · rw [if_pos (by omega), w64p i (by omega) (by omega), if_pos (by omega), if_pos (by omega), rdb, less_f _ _ (by omega) k (by omega), Option.bind_some, w64 i (by omega), show decide (i = 0) = false from by simp [h0], Bool.false_or, Bool.true_and]
          cases el : Op.bytesLess (ids.getD (i - 1) ByteArray.empty).toList (ids.getD i ByteArray.empty).toList with
          | false => rw [if_neg (by simp)]; simp
          | true => rw [if_pos rfl, ih (i + 1) (by omega) (by omega)]; simp
    · rw [if_neg (by omega), List.drop_eq_nil_of_le (by simp; omega)]; rfl
theorem role_f (ids : List ByteArray) (need : Int) (M : Nat) (hM : ∀ i, (ids.getD i ByteArray.empty).size ≤ M) (hM2 : M ≤ 140737488351232) (k : Nat) (hk : 2 * M + 30 ≤ k) : imprimaturref14_Right.f k ids need = some (E.roleOk ids need) := by
  obtain ⟨k, rfl⟩ : ∃ m, k = m + 1 := ⟨k - 1, by omega⟩
  unfold imprimaturref14_Right.f E.roleOk
  simp only [imprimaturref14_Right.j0, if_true]
  by_cases h0 : ids.length = 0
  · rw [if_pos (by omega), h0]
    congr 1
    by_cases h1 : 1 ≤ need
    · have : ¬ need ≤ ((0 : Nat) : Int) := by omega
      rw [decide_eq_false this]; simp
    · simp [h1]
  · rw [if_neg (by omega)]
    by_cases h16 : ids.length ≤ 16
    · rw [if_neg (by omega)]
      by_cases h1 : 1 ≤ need
      · rw [if_neg (by omega)]
        by_cases h2 : need ≤ (ids.length : Int)
        · have := role_l ids need h16 M hM hM2 k 0 (by omega) (by omega)
          rw [if_neg (by rw [decide_eq_true_iff]; omega), show (0 : Int) = ((0 : Nat) : Int) from rfl, this, List.drop_zero]
          simp [h16, h1, h2]
        · rw [if_pos (by rw [decide_eq_true_iff]; omega)]
          simp [h2]
      · rw [if_pos (by omega)]
        simp [h1]
    · rw [if_pos (by omega)]
      simp [h16]
theorem file_f (nm : ByteArray) (ver sz : Int) (sm : ByteArray) : imprimaturref15_file.f nm ver sz sm false = some (decide (0 ≤ sz) && decide (sz ≤ 65536) && ((sm.size : Int) == 32) && decide (0 ≤ ver) && decide (ver ≤ 1000000) && (decide (0 < ver) == false)) := by
  unfold imprimaturref15_file.f
  by_cases h1 : sz < 0
  · rw [if_pos h1]; have : ¬ 0 ≤ sz := by omega
    simp [this]
  · rw [if_neg h1]
    by_cases h2 : sz > 65536
    · rw [if_pos h2]; have : ¬ sz ≤ 65536 := by omega
      simp [this]
    · rw [if_neg h2]
      by_cases h3 : (sm.size : Int) = 32
      · rw [if_pos h3]
        by_cases h4 : ver < 0
        · rw [if_pos h4]; have : ¬ 0 ≤ ver := by omega
          simp [this]
        · rw [if_neg h4]
          by_cases h5 : ver > 1000000
          · rw [if_pos h5]; have : ¬ ver ≤ 1000000 := by omega
            simp [this]
          · rw [if_neg h5]
            have a1 : 0 ≤ sz := by omega
            have a2 : sz ≤ 65536 := by omega
            have a4 : 0 ≤ ver := by omega
            have a5 : ver ≤ 1000000 := by omega
            by_cases h6 : ver = 0
            · subst h6; simp [a1, a2, h3]
            · have a6 : 0 < ver := by omega
              have a7 : (ver != 0) = true := by simp [h6]
              rw [a7]; simp [a6]
      · rw [if_neg h3]
        have : ((sm.size : Int) == 32) = false := beq_eq_false_iff_ne.2 h3
        simp [this]
def ordAt (l : List S25) (i : Nat) : Bool := decide (i = 0) || Op.bytesLess (l.getD (i - 1) z25).f0.toList (l.getD i z25).f0.toList
def ordOk (l : List S25) : Bool := (List.range l.length).all (ordAt l) && decide (l.length ≤ 32)
theorem rd25 (l : List S25) (m : Nat) : rd_T25 l (m : Int) = l.getD m z25 := by unfold rd_T25; rw [Int.toNat_natCast]
theorem ord_l (l : List S25) (hl : l.length ≤ 1000) (M : Nat) (hM : ∀ i, (l.getD i z25).f0.size ≤ M) (hM2 : M ≤ 140737488351232) : ∀ (k i : Nat), 1 ≤ i → i ≤ l.length + 1 → l.length + (2 * M + 4) < k + i →
    imprimaturref15_ordered.l0 k l (i : Int) = some (((List.range l.length).drop i).all (ordAt l) && decide (l.length ≤ 32)) := by
  intro k
  induction k with
  | zero =>
    intro i hi hi2 hk
    omega
  | succ k ih =>
    intro i hi hi2 hk
    rw [imprimaturref15_ordered.l0]
    by_cases h : i < l.length
    · have h2 := hM (i - 1)
      rw [if_pos (by omega), w64p i (by omega) (by omega), if_pos (by omega), if_pos (by omega), if_pos (by omega), rd25, rd25, less_f _ _ (by omega) k (by omega), Option.bind_some, E.range_drop _ _ h, List.all_cons, w64 i (by omega)]
      rw [show ordAt l i = (decide (i = 0) || Op.bytesLess (l.getD (i - 1) z25).f0.toList (l.getD i z25).f0.toList) from rfl]
      rw [show decide (i = 0) = false from by simp; omega, Bool.false_or]
      cases el : Op.bytesLess (l.getD (i - 1) z25).f0.toList (l.getD i z25).f0.toList with
      | false => rw [if_neg (by simp)]; simp
      | true => rw [if_pos rfl, ih (i + 1) (by omega) (by omega) (by omega)]; simp
    · rw [if_neg (by omega), List.drop_eq_nil_of_le (by simp; omega)]
      simp
      try omega
theorem ord_f (l : List S25) (hl : l.length ≤ 1000) (M : Nat) (hM : ∀ i, (l.getD i z25).f0.size ≤ M) (hM2 : M ≤ 140737488351232) (k : Nat) (hk : 2 * M + 1010 ≤ k) : imprimaturref15_ordered.f k l = some (ordOk l) := by
  unfold imprimaturref15_ordered.f ordOk
  have := ord_l l hl M hM hM2 k 1 (Nat.le_refl 1) (by omega) (by omega)
  rw [show (1 : Int) = ((1 : Nat) : Int) from rfl, this]
  by_cases h : 0 < l.length
  · have e := E.range_drop l.length 0 h
    rw [List.drop_zero] at e
    rw [e, List.all_cons]
    simp [ordAt]
  · have h0 : l.length = 0 := by omega
    simp [h0]
theorem word_f : imprimaturref15_word.f 1 = some (⟨#[114, 111, 111, 116]⟩ : ByteArray) ∧ imprimaturref15_word.f 2 = some (⟨#[116, 105, 109, 101, 115, 116, 97, 109, 112]⟩ : ByteArray) ∧ imprimaturref15_word.f 3 = some (⟨#[115, 110, 97, 112, 115, 104, 111, 116]⟩ : ByteArray) ∧ imprimaturref15_word.f 4 = some (⟨#[116, 97, 114, 103, 101, 116, 115]⟩ : ByteArray) := by
  refine ⟨?_, ?_, ?_, ?_⟩ <;> decide +kernel
end Go.Proofs.YtgcflmhlegagbaaGreatDoor.R
end
section
set_option linter.unusedVariables false
set_option linter.unusedSimpArgs false
namespace Go.Proofs.YtgcflmhlegagbaaGreatDoor.R
open Go.RowKit Go.Proofs.YtgcflmhlegagbaaGreatDoorW.PrintWords Go.Proofs.YtgcflmhlegagbaaGreatDoorW.PrintLast Go.Proofs.YtgcflmhlegagbaaGreatDoorW.PrintMore
open Go.Proofs.YtgcflmhlegagbaaGreatDoor
open S X Y
theorem bt_digs : ∀ n : Fin 16, bt (⟨#[48, 49, 50, 51, 52, 53, 54, 55, 56, 57, 97, 98, 99, 100, 101, 102]⟩ : ByteArray) (n.val : Int) = ((digs.getD n.val 0).toNat : Int) := by decide +kernel
theorem rhex_l (l : List UInt8) (hl : l.length < 70368744177664) : ∀ (post pre : List UInt8) (k : Nat), pre ++ post = l → post.length < k → imprimaturref01_Hex.l0 k (mkB l) (numsOf (hexs pre)) (pre.length : Int) = some (mkB (hexs l))
  | [], pre, k, h, hk => by
    obtain ⟨k, rfl⟩ : ∃ m, k = m + 1 := ⟨k - 1, by omega⟩
    rw [List.append_nil] at h
    subst h
    simp only [imprimaturref01_Hex.l0]
    rw [if_neg (by rw [mkB_size]; omega), strOfNums_bytes]
  | c :: post, pre, k, h, hk => by
    obtain ⟨k, rfl⟩ : ∃ m, k = m + 1 := ⟨k - 1, by omega⟩
    have hs : (mkB l).size = pre.length + (post.length + 1) := by rw [mkB_size, ← h]; simp
    have hl' : pre.length + (post.length + 1) < 70368744177664 := by rw [← hs, mkB_size]; exact hl
    have e0 : bt (mkB l) (pre.length : Int) = (c.toNat : Int) := by rw [← h]; exact bt_app pre c post
    have hc := c.toNat_lt
    have q1 : (c.toNat : Int).tdiv 16 % 256 = ((c.toNat / 16 : Nat) : Int) := by rw [Int.tdiv_eq_ediv_of_nonneg (by omega)]; omega
    have q2 : (c.toNat : Int).tmod 16 = ((c.toNat % 16 : Nat) : Int) := by rw [Int.tmod_eq_emod_of_nonneg (by omega)]; omega
    have b1 := bt_digs ⟨c.toNat / 16, by omega⟩
    have b2 := bt_digs ⟨c.toNat % 16, by omega⟩
    simp only at b1 b2
    simp only [imprimaturref01_Hex.l0, e0, q1, q2, b1, b2, Option.bind_some]
    have hx := hexs_length pre
    have e3 : numsOf (hexs pre) ++ [((digs.getD (c.toNat / 16) 0).toNat : Int), ((digs.getD (c.toNat % 16) 0).toNat : Int)] = numsOf (hexs (pre ++ [c])) := by
      rw [hexs_append]; simp [numsOf, hexs, hex1]
    rw [if_pos (by rw [hs]; omega), if_pos (by omega), if_pos (by omega), if_pos (by omega), if_pos (by omega), if_pos (by omega), if_pos (by simp [hx]; omega), e3, wrap64_id (by omega) (by omega)]
    have := rhex_l l hl post (pre ++ [c]) k (by simpa using h) (by simp at hk; omega)
    simpa using this
theorem rhex_f (s : ByteArray) (hs : s.size < 70368744177664) (k : Nat) (hk : s.size < k) : imprimaturref01_Hex.f k s = some (mkB (hexs s.data.toList)) := by
  have := rhex_l s.data.toList (by rw [size_list]; exact hs) s.data.toList [] k rfl (by rw [size_list]; exact hk)
  rw [mkB_data] at this
  exact this
attribute [local irreducible] Sh.sum S.hexs
set_option maxHeartbeats 4000000 in
set_option maxRecDepth 100000 in
theorem id_any (s : ByteArray) (w : World) (hs : s.size ≤ 1000) : Calls Tryz.prog 78 #[.string s] w fun e w' => e = .returned (.string (mkB (E.keyId s.data.toList))) ∧ Below w.heap.size w w' := by
  have hS := K.rsum_any s w (by omega)
  have hl : (mkB (Sh.sum s.data.toList)).size ≤ 1000 := by rw [mkB_size, E.sum_len]; decide
  have hX := fun W => imprimaturref01_Hex.calls ((mkB (Sh.sum s.data.toList)).size + 1) (mkB (Sh.sum s.data.toList)) _ W (rhex_f _ (by omega) _ (by omega))
  rw [mkB_list] at hX
  have ek : E.keyId s.data.toList = S.hexs (Sh.sum s.data.toList) := rfl
  rw [ek]
  rw [show K.dat s = s.data.toList from rfl] at hS
  generalize mkB (S.hexs (Sh.sum s.data.toList)) = y at *
  generalize mkB (Sh.sum s.data.toList) = x at *
  have HS := Lib.hid hS
  have HX := Lib.hid hX
  clear hS hX hl ek
  go_enter Tryz.func78, Tryz.ntmps78
  go_wp2_with (first
    | (go_at_call 106
       with_reducible refine HS.out.mono ?_
       rintro e w1 ⟨rfl, hb1⟩
       have HB1 := Lib.hid hb1
       clear hb1)
    | (go_at_call 105
       with_reducible refine (HX.out _).mono ?_
       rintro e w2 ⟨rfl, hb2⟩
       have HB2 := Lib.hid (below_step HB1.out hb2)
       clear hb2))
  go_ret
  exact ⟨rfl, HB2.out⟩
theorem name_c (s : ByteArray) (w : World) (hs : s.size ≤ 140737488351232) : Calls Tryz.prog 23 #[.string s] w fun e w' => e = .returned (.bool (Nm.nameOk s.data.toList)) ∧ Below w.heap.size w w' :=
  (imprimaturref15_Name.calls (s.size + 1) s _ w (name_f s hs _ (by omega))).mono fun e w' h => ⟨h.1, h.2.below⟩
theorem less_c (a b : ByteArray) (w : World) (ha : a.size ≤ 140737488351232) : Calls Tryz.prog 76 #[.string a, .string b] w fun e w' => e = .returned (.bool (Op.bytesLess a.toList b.toList)) ∧ Below w.heap.size w w' :=
  (imprimaturref11_Less.calls (2 * a.size + 2) a b _ w (less_f a b ha _ (Nat.le_refl _))).mono fun e w' h => ⟨h.1, h.2.below⟩
theorem ord_c (A : Option Addr) (c : Nat) (l : List S25) (w : World) (hA : Kd.C k25 w A l.length l) (hc : l.length ≤ c) (hl : l.length ≤ 1000) (hM : ∀ i, (l.getD i z25).f0.size ≤ 140737488351232) : Calls Tryz.prog 48 #[.slice A l.length c] w fun e w' => e = .returned (.bool (ordOk l)) ∧ Below w.heap.size w w' :=
  (imprimaturref15_ordered.calls 300000000000000 A c l _ w hA hc (ord_f l hl 140737488351232 hM (Nat.le_refl _) _ (by decide))).mono fun e w' h => ⟨h.1, h.2.below⟩
theorem role_c (A : Option Addr) (c : Nat) (ids : List ByteArray) (need : Int) (w : World) (hA : Kd.C Kd.string w A ids.length ids) (hc : ids.length ≤ c) (hM : ∀ i, (ids.getD i ByteArray.empty).size ≤ 140737488351232) : Calls Tryz.prog 49 #[.agg #[.slice A ids.length c, .int .i64 need]] w fun e w' => e = .returned (.bool (E.roleOk ids need)) ∧ Below w.heap.size w w' :=
  imprimaturref14_Right.calls 300000000000000 A c ids need _ w hA hc (role_f ids need 140737488351232 hM (Nat.le_refl _) _ (by decide))
def fileR (nm : ByteArray) (ver sz : Int) (sm : ByteArray) : Bool := decide (0 ≤ sz) && decide (sz ≤ 65536) && ((sm.size : Int) == 32) && decide (0 ≤ ver) && decide (ver ≤ 1000000) && (decide (0 < ver) == false)
theorem file_c (nm : ByteArray) (ver sz : Int) (sm : ByteArray) (w : World) : Calls Tryz.prog 51 #[.agg #[.string nm, .int .i64 ver, .int .i64 sz, .string sm], .bool false] w fun e w' => e = .returned (.bool (fileR nm ver sz sm)) ∧ Below w.heap.size w w' :=
  imprimaturref15_file.calls nm ver sz sm false _ w (file_f nm ver sz sm)
theorem glob_c (s : ByteArray) (pat : Bool) (w : World) (hs : s.size ≤ 140737488351232) : Calls Tryz.prog 52 #[.string s, .bool pat] w fun e w' => e = .returned (.bool (G.right pat s.data.toList)) ∧ Below w.heap.size w w' :=
  imprimaturref13_Right.calls (2 * s.size + 4) s pat _ w (right_f s pat hs _ (Nat.le_refl _))
theorem word_c (k : Int) (y : ByteArray) (w : World) (h : imprimaturref15_word.f k = some y) : Calls Tryz.prog 81 #[.int .i64 k] w fun e w' => e = .returned (.string y) ∧ Below w.heap.size w w' :=
  imprimaturref15_word.calls k y w h
end Go.Proofs.YtgcflmhlegagbaaGreatDoor.R
end
section
set_option linter.unusedVariables false
set_option linter.unusedSimpArgs false
namespace Go.Proofs.YtgcflmhlegagbaaGreatDoor.R
open Go.RowKit Go.Lib Go.Shelf Go.Proofs.YtgcflmhlegagbaaGreatDoorW.PrintWords Go.Proofs.YtgcflmhlegagbaaGreatDoorW.PrintLast Go.Proofs.YtgcflmhlegagbaaGreatDoorW.PrintMore
open S (mkB mkB_size mkB_list)
open E (keyId keyAt keysOk rd70_nat call_guard yi_guard)
open X (S70 k70 z70 rd_T70 at_T70)
def keysR (l : List S70) : Bool := (List.range l.length).all (keyAt l) && decide (l.length ≤ 16)
theorem keysR_ok (l : List S70) : keysR l = keysOk l := by unfold keysR keysOk; exact Bool.and_comm _ _
theorem keysR_false (l : List S70) (k : Nat) (hk : k < l.length) (h : keyAt l k = false) : keysR l = false := by
  unfold keysR
  rw [Bool.and_eq_false_iff]
  refine .inl ?_
  rw [Bool.eq_false_iff]
  intro h2
  rw [List.all_eq_true] at h2
  have := h2 k (List.mem_range.2 hk)
  rw [h] at this; cases this
theorem keysR_true (l : List S70) (h : ∀ k, k < l.length → keyAt l k = true) : keysR l = decide (l.length ≤ 16) := by
  unfold keysR
  rw [List.all_eq_true.2 (fun k hk => h k (List.mem_range.1 hk)), Bool.true_and]
theorem wrap64_sub {n : Nat} (k : Nat) (h : k < n) (hn : n ≤ 1000) (h0 : (0 : Int) < (k : Int)) : IntKind.i64.wrap ((k : Int) - 1) = (k : Int) - 1 := by simp [IntKind.wrap, IntKind.signed, IntKind.bits]; omega
attribute [local irreducible] keyId keyAt keysR
set_option maxHeartbeats 8000000 in
set_option maxRecDepth 100000 in
theorem keys_c (A : Option Addr) (c : Nat) (l : List S70) (w : World) (hA : Kd.C k70 w A l.length l) (hlc : l.length ≤ c) (hl : l.length ≤ 1000) (hM : ∀ i, (l.getD i z70).f0.size ≤ 140737488351232) :
    Calls Tryz.prog 50 #[.slice A l.length c] w fun e w' => e = .returned (.bool (keysR l)) ∧ Below w.heap.size w w' := by
  have HM := Aside0.mk hM
  go_enter Tryz.func50, Tryz.ntmps50
  go_wp2
  have HA := Aside0.mk hA
  clear hA hM
  go_loopg [7] l.length (fun gg s7 wr => ∃ kk : Nat, kk ≤ l.length ∧ l.length - kk ≤ gg ∧ s7 = .int .i64 kk ∧ Aside (Below w.heap.size w wr) ∧ Aside (∀ j, j < kk → keyAt l j = true))
  case atStart => exact ⟨0, Nat.zero_le _, by omega, rfl, Below.refl _ w, fun j hj => absurd hj (Nat.not_lt_zero _)⟩
  case round =>
    obtain ⟨kk, hkk, hg, rfl, BW, A1⟩ := hrel
    by_cases hlt : kk < l.length
    · have hltz : (kk : Int) < (l.length : Int) := by omega
      have hk0z : (0 : Int) ≤ (kk : Int) := by omega
      obtain ⟨ad, rfl, c0, c1⟩ := at_T70 HA.out (kk : Int) (by omega) (by omega)
      rw [rd70_nat] at c0 c1
      rw [Int.toNat_natCast] at c0 c1
      obtain ⟨x, hx⟩ : ∃ x, l.getD kk z70 = x := ⟨_, rfl⟩
      rw [hx] at c0 c1
      replace c0 := (BW.out.cell (World.block_lt_of_cell? w _ c0)).trans c0
      replace c1 := (BW.out.cell (World.block_lt_of_cell? w _ c1)).trans c1
      obtain ⟨y, hy⟩ : ∃ y, mkB (keyId x.f1.data.toList) = y := ⟨_, rfl⟩
      have hId : ∀ W, (!((x.f1.size : Int) == 32)) = false → Calls Tryz.prog 78 #[.string x.f1] W fun e w' => e = .returned (.string y) ∧ Below W.heap.size W w' := fun W h => by
        rw [← hy]
        exact id_any x.f1 W (by
          have : (x.f1.size : Int) = 32 := by simpa using h
          omega)
      by_cases hk0 : kk = 0
      · have hkd : ¬ (0 : Int) < (kk : Int) := by omega
        have eK : keyAt l kk = (decide (x.f1.size = 32) && (x.f0.toList == y.toList)) := by
          unfold keyAt; rw [hx, hy, decide_eq_true hk0]; simp
        have hYes : ∀ {b1 : Bool}, b1 = (!((x.f1.size : Int) == 32)) → false = (b1 || !(x.f0.toList == y.toList)) → keyAt l kk = true := by
          intro b1 h1 h2
          subst h1
          have h2 := h2.symm
          rw [Bool.or_eq_false_iff] at h2
          have h3 : (x.f1.size : Int) = 32 := by simpa using h2.1
          have h4 : (x.f0.toList == y.toList) = true := by simpa using h2.2
          rw [eK, h4, decide_eq_true (show x.f1.size = 32 by omega)]; rfl
        have hNo : ∀ {b1 : Bool}, b1 = (!((x.f1.size : Int) == 32)) → true = (b1 || !(x.f0.toList == y.toList)) → keyAt l kk = false := by
          intro b1 h1 h2
          subst h1
          rw [eK]
          by_cases h3 : x.f1.size = 32
          · have h33 : ((x.f1.size : Int) == 32) = true := by rw [beq_iff_eq]; omega
            rw [h33] at h2
            cases h4 : (x.f0.toList == y.toList) with
            | false => simp
            | true => rw [h4] at h2; exact absurd h2 (by decide)
          · simp [h3]
        clear eK hx hy
        have HK0 := Aside0.mk hk0
        have hkn : ¬ 0 < kk := by omega
        clear hk0
        go_upto_region 4 with (fail)
        have hbA : Below w.heap.size w (wr.alloc (.cells #[.string x.f0, .string x.f1] 70)) := below_alloc BW.out _
        obtain ⟨W0, hW0⟩ : ∃ W, W = wr.alloc (.cells #[.string x.f0, .string x.f1] 70) := ⟨_, rfl⟩
        rw [← hW0] at hbA ⊢
        have F0 : W0.cell? ⟨wr.heap.size, 0, none⟩ = some (.string x.f0) := by rw [hW0]; simp
        have F1 : W0.cell? ⟨wr.heap.size, 1, none⟩ = some (.string x.f1) := by rw [hW0]; simp
        clear hW0 c0 c1
        have HBA := Lib.hid hbA
        clear hbA
        refine wp_region_noPanic ?_
        refine wp_region_held_drew (S := fun W_ => Below W0.heap.size W0 W_) (by kernel_rfl) (Below.refl _ _).drew (fun hHeld => ?_)
        refine wpAnyH_take (i := 0) (v := ?_) rfl (by kernel_rfl) (by kernel_rfl) (by kernel_rfl) (fun _ _ _ h => h) (Or.inl ⟨by rfl, ?_⟩) (by with_reducible assumption) ?_
        rotate_left
        · (intro w hSw; clear hSw; go_simp); all_goals with_reducible rfl
        (try simp only [List.getElem_toArray, List.getElem_cons_succ, List.getElem_cons_zero, Act.put, List.setIfInBounds_toArray, List.set_cons_zero, List.set_cons_succ])
        refine wpAnyH_take (i := 1) (v := ?_) rfl (by kernel_rfl) (by kernel_rfl) (by kernel_rfl) (fun _ _ _ h => h) (Or.inl ⟨by rfl, ?_⟩) (by with_reducible assumption) ?_
        rotate_left
        · (intro w hSw; have c_0 := (hSw.cell (World.block_lt_of_cell? _ _ F1)).trans F1; clear hSw; go_simp); all_goals with_reducible rfl
        (try simp only [List.getElem_toArray, List.getElem_cons_succ, List.getElem_cons_zero, Act.put, List.setIfInBounds_toArray, List.set_cons_zero, List.set_cons_succ])
        refine wpAnyH_take (i := 2) (v := ?_) rfl (by kernel_rfl) (by kernel_rfl) (by kernel_rfl) (fun _ _ _ h => h) (Or.inl ⟨by rfl, ?_⟩) (by with_reducible assumption) ?_
        rotate_left
        · (intro w hSw; clear hSw; go_simp); all_goals with_reducible rfl
        (try simp only [List.getElem_toArray, List.getElem_cons_succ, List.getElem_cons_zero, Act.put, List.setIfInBounds_toArray, List.set_cons_zero, List.set_cons_succ])
        refine wpAnyH_take (i := 3) (v := .bool (!((x.f1.size : Int) == 32))) rfl (by kernel_rfl) (by kernel_rfl) (by kernel_rfl) (fun _ _ _ h => h) (Or.inl ⟨by rfl, ?_⟩) (by with_reducible assumption) ?_
        · (intro w hSw; clear hSw; go_simp; all_goals (try rfl))
        (try simp only [List.getElem_toArray, List.getElem_cons_succ, List.getElem_cons_zero, Act.put, List.setIfInBounds_toArray, List.set_cons_zero, List.set_cons_succ])
        obtain ⟨b1, hb1⟩ : ∃ z_, z_ = (!((x.f1.size : Int) == 32)) := ⟨_, rfl⟩
        rw [← hb1]
        have Hb1 := Lib.hid hb1
        clear hb1
        refine wpAnyH_take (i := 4) (v := ?_) rfl (by kernel_rfl) (by kernel_rfl) (by kernel_rfl) (fun _ _ _ h => h) (Or.inl ⟨by rfl, ?_⟩) (by with_reducible assumption) ?_
        rotate_left
        · (intro w hSw; clear hSw; go_simp); all_goals with_reducible rfl
        (try simp only [List.getElem_toArray, List.getElem_cons_succ, List.getElem_cons_zero, Act.put, List.setIfInBounds_toArray, List.set_cons_zero, List.set_cons_succ])
        refine wpAnyH_take (i := 5) (v := bif !b1 then ?_ else undef) rfl (by kernel_rfl) (by kernel_rfl) (by kernel_rfl) (fun _ _ _ h => h) (yi_guard (!b1) (by cases b1 <;> rfl) ?_) (by with_reducible assumption) ?_
        rotate_left
        · (intro hg w hSw; clear hSw; (try simp only [hg, cond_true]); go_simp); all_goals with_reducible rfl
        (try simp only [List.getElem_toArray, List.getElem_cons_succ, List.getElem_cons_zero, Act.put, List.setIfInBounds_toArray, List.set_cons_zero, List.set_cons_succ])
        refine wpAnyH_take (i := 6) (v := bif !b1 then ?_ else undef) rfl (by kernel_rfl) (by kernel_rfl) (by kernel_rfl) (fun _ _ _ h => h) (yi_guard (!b1) (by cases b1 <;> rfl) ?_) (by with_reducible assumption) ?_
        rotate_left
        · (intro hg w hSw; have c_0 := (hSw.cell (World.block_lt_of_cell? _ _ F0)).trans F0; clear hSw; (try simp only [hg, cond_true]); go_simp); all_goals with_reducible rfl
        (try simp only [List.getElem_toArray, List.getElem_cons_succ, List.getElem_cons_zero, Act.put, List.setIfInBounds_toArray, List.set_cons_zero, List.set_cons_succ])
        refine wpAnyH_take (i := 7) (v := bif !b1 then ?_ else undef) rfl (by kernel_rfl) (by kernel_rfl) (by kernel_rfl) (fun _ _ _ h => h) (yi_guard (!b1) (by cases b1 <;> rfl) ?_) (by with_reducible assumption) ?_
        rotate_left
        · (intro hg w hSw; clear hSw; (try simp only [hg, cond_true]); go_simp); all_goals with_reducible rfl
        (try simp only [List.getElem_toArray, List.getElem_cons_succ, List.getElem_cons_zero, Act.put, List.setIfInBounds_toArray, List.set_cons_zero, List.set_cons_succ])
        refine wpAnyH_take (i := 8) (v := bif !b1 then ?_ else undef) rfl (by kernel_rfl) (by kernel_rfl) (by kernel_rfl) (fun _ _ _ h => h) (yi_guard (!b1) (by cases b1 <;> rfl) ?_) (by with_reducible assumption) ?_
        rotate_left
        · (intro hg w hSw; have c_0 := (hSw.cell (World.block_lt_of_cell? _ _ F1)).trans F1; clear hSw; (try simp only [hg, cond_true]); go_simp); all_goals with_reducible rfl
        (try simp only [List.getElem_toArray, List.getElem_cons_succ, List.getElem_cons_zero, Act.put, List.setIfInBounds_toArray, List.set_cons_zero, List.set_cons_succ])
        refine call_guard (i := 9) (f := 78) (args := #[.string x.f1]) (v := .string y) (F := fun w' => Below W0.heap.size W0 w') (!b1) rfl (by kernel_rfl) (by cases b1 <;> rfl) (fun hg => by (try simp only [hg, cond_true]); go_simp) (fun hg => (hId _ (Hb1.out.symm.trans (by simpa using hg))).mono fun e w' h => ⟨h.1, below_step hHeld h.2⟩) (fun _ => hHeld) (fun _ h => h) (fun w1 h1 _ => ?_)
        (try simp only [List.getElem_toArray, List.getElem_cons_succ, List.getElem_cons_zero, Act.put, List.setIfInBounds_toArray, List.set_cons_zero, List.set_cons_succ])
        refine wpAnyH_take (i := 10) (v := bif !b1 then ?_ else undef) rfl (by kernel_rfl) (by kernel_rfl) (by kernel_rfl) (fun _ _ _ h => h) (yi_guard (!b1) (by cases b1 <;> rfl) ?_) (by with_reducible assumption) ?_
        rotate_left
        · (intro hg w hSw; clear hSw; (try simp only [hg, cond_true]); go_simp); all_goals with_reducible rfl
        (try simp only [List.getElem_toArray, List.getElem_cons_succ, List.getElem_cons_zero, Act.put, List.setIfInBounds_toArray, List.set_cons_zero, List.set_cons_succ])
        refine wpAnyH_take (i := 11) (v := .bool (b1 || !(x.f0.toList == y.toList))) rfl (by kernel_rfl) (by kernel_rfl) (by kernel_rfl) (fun _ _ _ h => h) (Or.inl ⟨by rfl, ?_⟩) (by with_reducible assumption) ?_
        · (intro w hSw; clear hSw; cases b1 <;> (go_simp); all_goals (try with_reducible rfl))
        (try simp only [List.getElem_toArray, List.getElem_cons_succ, List.getElem_cons_zero, Act.put, List.setIfInBounds_toArray, List.set_cons_zero, List.set_cons_succ])
        obtain ⟨b2, hb2⟩ : ∃ z_, z_ = (b1 || !(x.f0.toList == y.toList)) := ⟨_, rfl⟩
        rw [← hb2]
        have Hb2 := Lib.hid hb2
        clear hb2
        refine wpAnyH_take (i := 12) (v := ?_) rfl (by kernel_rfl) (by kernel_rfl) (by kernel_rfl) (fun _ _ _ h => h) (Or.inl ⟨by rfl, ?_⟩) (by with_reducible assumption) ?_
        rotate_left
        · (intro w hSw; clear hSw; go_simp); all_goals with_reducible rfl
        (try simp only [List.getElem_toArray, List.getElem_cons_succ, List.getElem_cons_zero, Act.put, List.setIfInBounds_toArray, List.set_cons_zero, List.set_cons_succ])
        refine wpAnyH_take (i := 13) (v := bif !b2 then ?_ else undef) rfl (by kernel_rfl) (by kernel_rfl) (by kernel_rfl) (fun _ _ _ h => h) (yi_guard (!b2) (by cases b2 <;> rfl) ?_) (by with_reducible assumption) ?_
        rotate_left
        · (intro hg w hSw; clear hSw; (try simp only [hg, cond_true]); go_simp); all_goals with_reducible rfl
        (try simp only [List.getElem_toArray, List.getElem_cons_succ, List.getElem_cons_zero, Act.put, List.setIfInBounds_toArray, List.set_cons_zero, List.set_cons_succ])
        refine wpAnyH_take (i := 14) (v := bif !b2 then ?_ else undef) rfl (by kernel_rfl) (by kernel_rfl) (by kernel_rfl) (fun _ _ _ h => h) (yi_guard (!b2) (by cases b2 <;> rfl) ?_) (by with_reducible assumption) ?_
        rotate_left
        · (intro hg w hSw; clear hSw; (try simp only [hg, cond_true]); go_simp); all_goals with_reducible rfl
        (try simp only [List.getElem_toArray, List.getElem_cons_succ, List.getElem_cons_zero, Act.put, List.setIfInBounds_toArray, List.set_cons_zero, List.set_cons_succ])
        refine wpAnyH_take (i := 15) (v := bif !b2 then ?_ else undef) rfl (by kernel_rfl) (by kernel_rfl) (by kernel_rfl) (fun _ _ _ h => h) (yi_guard (!b2) (by cases b2 <;> rfl) ?_) (by with_reducible assumption) ?_
        rotate_left
        · (intro hg w hSw; clear hSw; (try simp only [hg, cond_true]); go_simp); all_goals with_reducible rfl
        (try simp only [List.getElem_toArray, List.getElem_cons_succ, List.getElem_cons_zero, Act.put, List.setIfInBounds_toArray, List.set_cons_zero, List.set_cons_succ])
        refine wpAnyH_take (i := 16) (v := undef) rfl (by kernel_rfl) (by kernel_rfl) (by kernel_rfl) (fun _ _ _ h => h) (Or.inr ⟨by cases b2 <;> rfl, rfl⟩) (by with_reducible assumption) ?_
        (try simp only [List.getElem_toArray, List.getElem_cons_succ, List.getElem_cons_zero, Act.put, List.setIfInBounds_toArray, List.set_cons_zero, List.set_cons_succ])
        refine wpAnyH_take (i := 17) (v := undef) rfl (by kernel_rfl) (by kernel_rfl) (by kernel_rfl) (fun _ _ _ h => h) (Or.inr ⟨by cases b2 <;> rfl, rfl⟩) (by with_reducible assumption) ?_
        (try simp only [List.getElem_toArray, List.getElem_cons_succ, List.getElem_cons_zero, Act.put, List.setIfInBounds_toArray, List.set_cons_zero, List.set_cons_succ])
        refine wpAnyH_take (i := 18) (v := undef) rfl (by kernel_rfl) (by kernel_rfl) (by kernel_rfl) (fun _ _ _ h => h) (Or.inr ⟨by cases b2 <;> rfl, rfl⟩) (by with_reducible assumption) ?_
        (try simp only [List.getElem_toArray, List.getElem_cons_succ, List.getElem_cons_zero, Act.put, List.setIfInBounds_toArray, List.set_cons_zero, List.set_cons_succ])
        refine wpAnyH_take (i := 19) (v := undef) rfl (by kernel_rfl) (by kernel_rfl) (by kernel_rfl) (fun _ _ _ h => h) (Or.inr ⟨by cases b2 <;> rfl, rfl⟩) (by with_reducible assumption) ?_
        (try simp only [List.getElem_toArray, List.getElem_cons_succ, List.getElem_cons_zero, Act.put, List.setIfInBounds_toArray, List.set_cons_zero, List.set_cons_succ])
        refine wpAnyH_take (i := 20) (v := undef) rfl (by kernel_rfl) (by kernel_rfl) (by kernel_rfl) (fun _ _ _ h => h) (Or.inr ⟨by cases b2 <;> rfl, rfl⟩) (by with_reducible assumption) ?_
        (try simp only [List.getElem_toArray, List.getElem_cons_succ, List.getElem_cons_zero, Act.put, List.setIfInBounds_toArray, List.set_cons_zero, List.set_cons_succ])
        refine wpAnyH_take (i := 21) (v := undef) rfl (by kernel_rfl) (by kernel_rfl) (by kernel_rfl) (fun _ _ _ h => h) (Or.inr ⟨by cases b2 <;> rfl, rfl⟩) (by with_reducible assumption) ?_
        (try simp only [List.getElem_toArray, List.getElem_cons_succ, List.getElem_cons_zero, Act.put, List.setIfInBounds_toArray, List.set_cons_zero, List.set_cons_succ])
        refine wpAnyH_take (i := 22) (v := undef) rfl (by kernel_rfl) (by kernel_rfl) (by kernel_rfl) (fun _ _ _ h => h) (Or.inr ⟨by cases b2 <;> rfl, rfl⟩) (by with_reducible assumption) ?_
        (try simp only [List.getElem_toArray, List.getElem_cons_succ, List.getElem_cons_zero, Act.put, List.setIfInBounds_toArray, List.set_cons_zero, List.set_cons_succ])
        refine wpAnyH_take (i := 23) (v := undef) rfl (by kernel_rfl) (by kernel_rfl) (by kernel_rfl) (fun _ _ _ h => h) (Or.inr ⟨by cases b2 <;> rfl, rfl⟩) (by with_reducible assumption) ?_
        (try simp only [List.getElem_toArray, List.getElem_cons_succ, List.getElem_cons_zero, Act.put, List.setIfInBounds_toArray, List.set_cons_zero, List.set_cons_succ])
        refine wpAnyH_take (i := 24) (v := undef) rfl (by kernel_rfl) (by kernel_rfl) (by kernel_rfl) (fun _ _ _ h => h) (Or.inr ⟨by cases b2 <;> rfl, rfl⟩) (by with_reducible assumption) ?_
        (try simp only [List.getElem_toArray, List.getElem_cons_succ, List.getElem_cons_zero, Act.put, List.setIfInBounds_toArray, List.set_cons_zero, List.set_cons_succ])
        refine wpAnyH_take (i := 25) (v := undef) rfl (by kernel_rfl) (by kernel_rfl) (by kernel_rfl) (fun _ _ _ h => h) (Or.inr ⟨by cases b2 <;> rfl, rfl⟩) (by with_reducible assumption) ?_
        (try simp only [List.getElem_toArray, List.getElem_cons_succ, List.getElem_cons_zero, Act.put, List.setIfInBounds_toArray, List.set_cons_zero, List.set_cons_succ])
        refine wpAnyH_take (i := 26) (v := bif !b2 then ?_ else undef) rfl (by kernel_rfl) (by kernel_rfl) (by kernel_rfl) (fun _ _ _ h => h) (yi_guard (!b2) (by cases b2 <;> rfl) ?_) (by with_reducible assumption) ?_
        rotate_left
        · (intro hg w hSw; clear hSw; (try simp only [hg, cond_true]); go_simp); all_goals with_reducible rfl
        (try simp only [List.getElem_toArray, List.getElem_cons_succ, List.getElem_cons_zero, Act.put, List.setIfInBounds_toArray, List.set_cons_zero, List.set_cons_succ])
        refine wpAnyH_take (i := 27) (v := .bool b2) rfl (by kernel_rfl) (by kernel_rfl) (by kernel_rfl) (fun _ _ _ h => h) (Or.inl ⟨by rfl, ?_⟩) (by with_reducible assumption) ?_
        · (intro w hSw; clear hSw; cases b2 <;> (go_simp); all_goals (try with_reducible rfl))
        (try simp only [List.getElem_toArray, List.getElem_cons_succ, List.getElem_cons_zero, Act.put, List.setIfInBounds_toArray, List.set_cons_zero, List.set_cons_succ])
        refine wpAnyH_done (by kernel_rfl) ?_ _
        refine NoPanic.normal ?_
        have HBF := Lib.hid (below_step HBA.out h1)
        clear hHeld h1
        cases b2
        · have hT : keyAt l kk = true := hYes Hb1.out Hb2.out
          go_wp2
          go_roundg (l.length - (kk + 1))
          case measure => omega
          case rel =>
            refine ⟨kk + 1, by omega, by omega, by go_num, HBF.out, (show Aside _ from fun j hj => ?_)⟩
            by_cases e : j = kk
            · subst e; exact hT
            · exact A1.out j (by omega)
        · have hF : keyAt l kk = false := hNo Hb1.out Hb2.out
          go_wp2
          go_ret
          exact ⟨by rw [keysR_false l kk hlt hF]; rfl, HBF.out⟩
      · have hkp : (0 : Int) < (kk : Int) := by omega
        have hkn : 0 < kk := by omega
        have hw1 : IntKind.i64.wrap ((kk : Int) - 1) = (kk : Int) - 1 := wrap64_sub kk hlt hl hkp
        have nP : ((kk : Int) - 1).toNat = kk - 1 := by omega
        obtain ⟨ad', e', q0, _⟩ := at_T70 HA.out ((kk : Int) - 1) (by omega) (by omega)
        injection e' with e'
        subst e'
        rw [show rd_T70 l ((kk : Int) - 1) = l.getD (kk - 1) z70 from by unfold rd_T70; rw [nP], nP] at q0
        obtain ⟨p, hp⟩ : ∃ p, l.getD (kk - 1) z70 = p := ⟨_, rfl⟩
        have hps : p.f0.size ≤ 140737488351232 := by rw [← hp]; exact HM.out _
        rw [hp] at q0
        have hl1 : (kk : Int) - 1 < (l.length : Int) := by omega
        have hl0 : (0 : Int) ≤ (kk : Int) - 1 := by omega
        have hk1 : (1 : Int) ≤ (kk : Int) := by omega
        have hLess := fun W => less_c p.f0 x.f0 W hps
        obtain ⟨c3, hc3⟩ : ∃ b, Op.bytesLess p.f0.toList x.f0.toList = b := ⟨_, rfl⟩
        rw [hc3] at hLess
        have eK : keyAt l kk = (decide (x.f1.size = 32) && (x.f0.toList == y.toList) && c3) := by
          unfold keyAt; rw [hx, hy, hp, hc3, decide_eq_false hk0]; simp
        have hYes : ∀ {b1 b2 : Bool}, b1 = (!((x.f1.size : Int) == 32)) → b2 = (b1 || !(x.f0.toList == y.toList)) → false = (b2 || !c3) → keyAt l kk = true := by
          intro b1 b2 h1 h2 h5
          subst h1
          subst h2
          have h2 := h5.symm
          rw [Bool.or_eq_false_iff, Bool.or_eq_false_iff] at h2
          have h3 : (x.f1.size : Int) = 32 := by simpa using h2.1.1
          have h4 : (x.f0.toList == y.toList) = true := by simpa using h2.1.2
          have h6 : c3 = true := by simpa using h2.2
          rw [eK, h4, h6, decide_eq_true (show x.f1.size = 32 by omega)]; rfl
        have hNo : ∀ {b1 b2 : Bool}, b1 = (!((x.f1.size : Int) == 32)) → b2 = (b1 || !(x.f0.toList == y.toList)) → true = (b2 || !c3) → keyAt l kk = false := by
          intro b1 b2 h1 h2 h5
          subst h1
          subst h2
          rw [eK]
          by_cases h3 : x.f1.size = 32
          · have h33 : ((x.f1.size : Int) == 32) = true := by rw [beq_iff_eq]; omega
            rw [h33] at h5
            rw [decide_eq_true h3]
            revert h5
            generalize (x.f0.toList == y.toList) = b4
            cases b4 <;> cases c3 <;> decide
          · simp [h3]
        clear eK hx hy hp hc3
        go_upto_region 4 with (fail)
        have hbA : Below w.heap.size w (wr.alloc (.cells #[.string x.f0, .string x.f1] 70)) := below_alloc BW.out _
        obtain ⟨W0, hW0⟩ : ∃ W, W = wr.alloc (.cells #[.string x.f0, .string x.f1] 70) := ⟨_, rfl⟩
        rw [← hW0] at hbA ⊢
        have F0 : W0.cell? ⟨wr.heap.size, 0, none⟩ = some (.string x.f0) := by rw [hW0]; simp
        have F1 : W0.cell? ⟨wr.heap.size, 1, none⟩ = some (.string x.f1) := by rw [hW0]; simp
        have FP := (hbA.cell (World.block_lt_of_cell? _ _ q0)).trans q0
        clear hW0 c0 c1 q0
        have HBA := Lib.hid hbA
        clear hbA
        refine wp_region_noPanic ?_
        refine wp_region_held_drew (S := fun W_ => Below W0.heap.size W0 W_) (by kernel_rfl) (Below.refl _ _).drew (fun hHeld => ?_)
        refine wpAnyH_take (i := 0) (v := ?_) rfl (by kernel_rfl) (by kernel_rfl) (by kernel_rfl) (fun _ _ _ h => h) (Or.inl ⟨by rfl, ?_⟩) (by with_reducible assumption) ?_
        rotate_left
        · (intro w hSw; clear hSw; go_simp); all_goals with_reducible rfl
        (try simp only [List.getElem_toArray, List.getElem_cons_succ, List.getElem_cons_zero, Act.put, List.setIfInBounds_toArray, List.set_cons_zero, List.set_cons_succ])
        refine wpAnyH_take (i := 1) (v := ?_) rfl (by kernel_rfl) (by kernel_rfl) (by kernel_rfl) (fun _ _ _ h => h) (Or.inl ⟨by rfl, ?_⟩) (by with_reducible assumption) ?_
        rotate_left
        · (intro w hSw; have c_0 := (hSw.cell (World.block_lt_of_cell? _ _ F1)).trans F1; clear hSw; go_simp); all_goals with_reducible rfl
        (try simp only [List.getElem_toArray, List.getElem_cons_succ, List.getElem_cons_zero, Act.put, List.setIfInBounds_toArray, List.set_cons_zero, List.set_cons_succ])
        refine wpAnyH_take (i := 2) (v := ?_) rfl (by kernel_rfl) (by kernel_rfl) (by kernel_rfl) (fun _ _ _ h => h) (Or.inl ⟨by rfl, ?_⟩) (by with_reducible assumption) ?_
        rotate_left
        · (intro w hSw; clear hSw; go_simp); all_goals with_reducible rfl
        (try simp only [List.getElem_toArray, List.getElem_cons_succ, List.getElem_cons_zero, Act.put, List.setIfInBounds_toArray, List.set_cons_zero, List.set_cons_succ])
        refine wpAnyH_take (i := 3) (v := .bool (!((x.f1.size : Int) == 32))) rfl (by kernel_rfl) (by kernel_rfl) (by kernel_rfl) (fun _ _ _ h => h) (Or.inl ⟨by rfl, ?_⟩) (by with_reducible assumption) ?_
        · (intro w hSw; clear hSw; go_simp; all_goals (try rfl))
        (try simp only [List.getElem_toArray, List.getElem_cons_succ, List.getElem_cons_zero, Act.put, List.setIfInBounds_toArray, List.set_cons_zero, List.set_cons_succ])
        obtain ⟨b1, hb1⟩ : ∃ z_, z_ = (!((x.f1.size : Int) == 32)) := ⟨_, rfl⟩
        rw [← hb1]
        have Hb1 := Lib.hid hb1
        clear hb1
        refine wpAnyH_take (i := 4) (v := ?_) rfl (by kernel_rfl) (by kernel_rfl) (by kernel_rfl) (fun _ _ _ h => h) (Or.inl ⟨by rfl, ?_⟩) (by with_reducible assumption) ?_
        rotate_left
        · (intro w hSw; clear hSw; go_simp); all_goals with_reducible rfl
        (try simp only [List.getElem_toArray, List.getElem_cons_succ, List.getElem_cons_zero, Act.put, List.setIfInBounds_toArray, List.set_cons_zero, List.set_cons_succ])
        refine wpAnyH_take (i := 5) (v := bif !b1 then ?_ else undef) rfl (by kernel_rfl) (by kernel_rfl) (by kernel_rfl) (fun _ _ _ h => h) (yi_guard (!b1) (by cases b1 <;> rfl) ?_) (by with_reducible assumption) ?_
        rotate_left
        · (intro hg w hSw; clear hSw; (try simp only [hg, cond_true]); go_simp); all_goals with_reducible rfl
        (try simp only [List.getElem_toArray, List.getElem_cons_succ, List.getElem_cons_zero, Act.put, List.setIfInBounds_toArray, List.set_cons_zero, List.set_cons_succ])
        refine wpAnyH_take (i := 6) (v := bif !b1 then ?_ else undef) rfl (by kernel_rfl) (by kernel_rfl) (by kernel_rfl) (fun _ _ _ h => h) (yi_guard (!b1) (by cases b1 <;> rfl) ?_) (by with_reducible assumption) ?_
        rotate_left
        · (intro hg w hSw; have c_0 := (hSw.cell (World.block_lt_of_cell? _ _ F0)).trans F0; clear hSw; (try simp only [hg, cond_true]); go_simp); all_goals with_reducible rfl
        (try simp only [List.getElem_toArray, List.getElem_cons_succ, List.getElem_cons_zero, Act.put, List.setIfInBounds_toArray, List.set_cons_zero, List.set_cons_succ])
        refine wpAnyH_take (i := 7) (v := bif !b1 then ?_ else undef) rfl (by kernel_rfl) (by kernel_rfl) (by kernel_rfl) (fun _ _ _ h => h) (yi_guard (!b1) (by cases b1 <;> rfl) ?_) (by with_reducible assumption) ?_
        rotate_left
        · (intro hg w hSw; clear hSw; (try simp only [hg, cond_true]); go_simp); all_goals with_reducible rfl
        (try simp only [List.getElem_toArray, List.getElem_cons_succ, List.getElem_cons_zero, Act.put, List.setIfInBounds_toArray, List.set_cons_zero, List.set_cons_succ])
        refine wpAnyH_take (i := 8) (v := bif !b1 then ?_ else undef) rfl (by kernel_rfl) (by kernel_rfl) (by kernel_rfl) (fun _ _ _ h => h) (yi_guard (!b1) (by cases b1 <;> rfl) ?_) (by with_reducible assumption) ?_
        rotate_left
        · (intro hg w hSw; have c_0 := (hSw.cell (World.block_lt_of_cell? _ _ F1)).trans F1; clear hSw; (try simp only [hg, cond_true]); go_simp); all_goals with_reducible rfl
        (try simp only [List.getElem_toArray, List.getElem_cons_succ, List.getElem_cons_zero, Act.put, List.setIfInBounds_toArray, List.set_cons_zero, List.set_cons_succ])
        refine call_guard (i := 9) (f := 78) (args := #[.string x.f1]) (v := .string y) (F := fun w' => Below W0.heap.size W0 w') (!b1) rfl (by kernel_rfl) (by cases b1 <;> rfl) (fun hg => by (try simp only [hg, cond_true]); go_simp) (fun hg => (hId _ (Hb1.out.symm.trans (by simpa using hg))).mono fun e w' h => ⟨h.1, below_step hHeld h.2⟩) (fun _ => hHeld) (fun _ h => h) (fun w1 h1 _ => ?_)
        (try simp only [List.getElem_toArray, List.getElem_cons_succ, List.getElem_cons_zero, Act.put, List.setIfInBounds_toArray, List.set_cons_zero, List.set_cons_succ])
        refine wpAnyH_take (i := 10) (v := bif !b1 then ?_ else undef) rfl (by kernel_rfl) (by kernel_rfl) (by kernel_rfl) (fun _ _ _ h => h) (yi_guard (!b1) (by cases b1 <;> rfl) ?_) (by with_reducible assumption) ?_
        rotate_left
        · (intro hg w hSw; clear hSw; (try simp only [hg, cond_true]); go_simp); all_goals with_reducible rfl
        (try simp only [List.getElem_toArray, List.getElem_cons_succ, List.getElem_cons_zero, Act.put, List.setIfInBounds_toArray, List.set_cons_zero, List.set_cons_succ])
        refine wpAnyH_take (i := 11) (v := .bool (b1 || !(x.f0.toList == y.toList))) rfl (by kernel_rfl) (by kernel_rfl) (by kernel_rfl) (fun _ _ _ h => h) (Or.inl ⟨by rfl, ?_⟩) (by with_reducible assumption) ?_
        · (intro w hSw; clear hSw; cases b1 <;> (go_simp); all_goals (try with_reducible rfl))
        (try simp only [List.getElem_toArray, List.getElem_cons_succ, List.getElem_cons_zero, Act.put, List.setIfInBounds_toArray, List.set_cons_zero, List.set_cons_succ])
        obtain ⟨b2, hb2⟩ : ∃ z_, z_ = (b1 || !(x.f0.toList == y.toList)) := ⟨_, rfl⟩
        rw [← hb2]
        have Hb2 := Lib.hid hb2
        clear hb2
        refine wpAnyH_take (i := 12) (v := ?_) rfl (by kernel_rfl) (by kernel_rfl) (by kernel_rfl) (fun _ _ _ h => h) (Or.inl ⟨by rfl, ?_⟩) (by with_reducible assumption) ?_
        rotate_left
        · (intro w hSw; clear hSw; go_simp); all_goals with_reducible rfl
        (try simp only [List.getElem_toArray, List.getElem_cons_succ, List.getElem_cons_zero, Act.put, List.setIfInBounds_toArray, List.set_cons_zero, List.set_cons_succ])
        refine wpAnyH_take (i := 13) (v := bif !b2 then ?_ else undef) rfl (by kernel_rfl) (by kernel_rfl) (by kernel_rfl) (fun _ _ _ h => h) (yi_guard (!b2) (by cases b2 <;> rfl) ?_) (by with_reducible assumption) ?_
        rotate_left
        · (intro hg w hSw; clear hSw; (try simp only [hg, cond_true]); go_simp); all_goals with_reducible rfl
        (try simp only [List.getElem_toArray, List.getElem_cons_succ, List.getElem_cons_zero, Act.put, List.setIfInBounds_toArray, List.set_cons_zero, List.set_cons_succ])
        refine wpAnyH_take (i := 14) (v := bif !b2 then ?_ else undef) rfl (by kernel_rfl) (by kernel_rfl) (by kernel_rfl) (fun _ _ _ h => h) (yi_guard (!b2) (by cases b2 <;> rfl) ?_) (by with_reducible assumption) ?_
        rotate_left
        · (intro hg w hSw; clear hSw; (try simp only [hg, cond_true]); go_simp); all_goals with_reducible rfl
        (try simp only [List.getElem_toArray, List.getElem_cons_succ, List.getElem_cons_zero, Act.put, List.setIfInBounds_toArray, List.set_cons_zero, List.set_cons_succ])
        refine wpAnyH_take (i := 15) (v := bif !b2 then ?_ else undef) rfl (by kernel_rfl) (by kernel_rfl) (by kernel_rfl) (fun _ _ _ h => h) (yi_guard (!b2) (by cases b2 <;> rfl) ?_) (by with_reducible assumption) ?_
        rotate_left
        · (intro hg w hSw; clear hSw; (try simp only [hg, cond_true]); go_simp); all_goals with_reducible rfl
        (try simp only [List.getElem_toArray, List.getElem_cons_succ, List.getElem_cons_zero, Act.put, List.setIfInBounds_toArray, List.set_cons_zero, List.set_cons_succ])
        refine wpAnyH_take (i := 16) (v := bif !b2 then ?_ else undef) rfl (by kernel_rfl) (by kernel_rfl) (by kernel_rfl) (fun _ _ _ h => h) (yi_guard (!b2) (by cases b2 <;> rfl) ?_) (by with_reducible assumption) ?_
        rotate_left
        · (intro hg w hSw; clear hSw; (try simp only [hg, cond_true]); go_simp); all_goals with_reducible rfl
        (try simp only [List.getElem_toArray, List.getElem_cons_succ, List.getElem_cons_zero, Act.put, List.setIfInBounds_toArray, List.set_cons_zero, List.set_cons_succ])
        refine wpAnyH_take (i := 17) (v := bif !b2 then ?_ else undef) rfl (by kernel_rfl) (by kernel_rfl) (by kernel_rfl) (fun _ _ _ h => h) (yi_guard (!b2) (by cases b2 <;> rfl) ?_) (by with_reducible assumption) ?_
        rotate_left
        · (intro hg w hSw; clear hSw; (try simp only [hg, cond_true]); go_simp); all_goals with_reducible rfl
        (try simp only [List.getElem_toArray, List.getElem_cons_succ, List.getElem_cons_zero, Act.put, List.setIfInBounds_toArray, List.set_cons_zero, List.set_cons_succ])
        refine wpAnyH_take (i := 18) (v := bif !b2 then ?_ else undef) rfl (by kernel_rfl) (by kernel_rfl) (by kernel_rfl) (fun _ _ _ h => h) (yi_guard (!b2) (by cases b2 <;> rfl) ?_) (by with_reducible assumption) ?_
        rotate_left
        · (intro hg w hSw; clear hSw; (try simp only [hg, cond_true]); go_simp); all_goals with_reducible rfl
        (try simp only [List.getElem_toArray, List.getElem_cons_succ, List.getElem_cons_zero, Act.put, List.setIfInBounds_toArray, List.set_cons_zero, List.set_cons_succ])
        refine wpAnyH_take (i := 19) (v := bif !b2 then ?_ else undef) rfl (by kernel_rfl) (by kernel_rfl) (by kernel_rfl) (fun _ _ _ h => h) (yi_guard (!b2) (by cases b2 <;> rfl) ?_) (by with_reducible assumption) ?_
        rotate_left
        · (intro hg w hSw; clear hSw; (try simp only [hg, cond_true]); go_simp); all_goals with_reducible rfl
        (try simp only [List.getElem_toArray, List.getElem_cons_succ, List.getElem_cons_zero, Act.put, List.setIfInBounds_toArray, List.set_cons_zero, List.set_cons_succ])
        refine wpAnyH_take (i := 20) (v := bif !b2 then ?_ else undef) rfl (by kernel_rfl) (by kernel_rfl) (by kernel_rfl) (fun _ _ _ h => h) (yi_guard (!b2) (by cases b2 <;> rfl) ?_) (by with_reducible assumption) ?_
        rotate_left
        · (intro hg w hSw; clear hSw; (try simp only [hg, cond_true]); go_simp); all_goals with_reducible rfl
        (try simp only [List.getElem_toArray, List.getElem_cons_succ, List.getElem_cons_zero, Act.put, List.setIfInBounds_toArray, List.set_cons_zero, List.set_cons_succ])
        refine wpAnyH_take (i := 21) (v := bif !b2 then ?_ else undef) rfl (by kernel_rfl) (by kernel_rfl) (by kernel_rfl) (fun _ _ _ h => h) (yi_guard (!b2) (by cases b2 <;> rfl) ?_) (by with_reducible assumption) ?_
        rotate_left
        · (intro hg w hSw; have c_0 := (hSw.cell (World.block_lt_of_cell? _ _ FP)).trans FP; clear hSw; (try simp only [hg, cond_true]); go_simp); all_goals with_reducible rfl
        (try simp only [List.getElem_toArray, List.getElem_cons_succ, List.getElem_cons_zero, Act.put, List.setIfInBounds_toArray, List.set_cons_zero, List.set_cons_succ])
        refine wpAnyH_take (i := 22) (v := bif !b2 then ?_ else undef) rfl (by kernel_rfl) (by kernel_rfl) (by kernel_rfl) (fun _ _ _ h => h) (yi_guard (!b2) (by cases b2 <;> rfl) ?_) (by with_reducible assumption) ?_
        rotate_left
        · (intro hg w hSw; clear hSw; (try simp only [hg, cond_true]); go_simp); all_goals with_reducible rfl
        (try simp only [List.getElem_toArray, List.getElem_cons_succ, List.getElem_cons_zero, Act.put, List.setIfInBounds_toArray, List.set_cons_zero, List.set_cons_succ])
        refine wpAnyH_take (i := 23) (v := bif !b2 then ?_ else undef) rfl (by kernel_rfl) (by kernel_rfl) (by kernel_rfl) (fun _ _ _ h => h) (yi_guard (!b2) (by cases b2 <;> rfl) ?_) (by with_reducible assumption) ?_
        rotate_left
        · (intro hg w hSw; have c_0 := (hSw.cell (World.block_lt_of_cell? _ _ F0)).trans F0; clear hSw; (try simp only [hg, cond_true]); go_simp); all_goals with_reducible rfl
        (try simp only [List.getElem_toArray, List.getElem_cons_succ, List.getElem_cons_zero, Act.put, List.setIfInBounds_toArray, List.set_cons_zero, List.set_cons_succ])
        refine call_guard (i := 24) (f := 76) (args := #[.string p.f0, .string x.f0]) (v := .bool c3) (F := fun w' => Below W0.heap.size W0 w') (!b2) rfl (by kernel_rfl) (by cases b2 <;> rfl) (fun hg => by (try simp only [hg, cond_true]); go_simp) (fun hg => (hLess _).mono fun e w' h => ⟨h.1, below_step h1 h.2⟩) (fun _ => h1) (fun _ h => h) (fun w2 h2 _ => ?_)
        (try simp only [List.getElem_toArray, List.getElem_cons_succ, List.getElem_cons_zero, Act.put, List.setIfInBounds_toArray, List.set_cons_zero, List.set_cons_succ])
        refine wpAnyH_take (i := 25) (v := bif !b2 then ?_ else undef) rfl (by kernel_rfl) (by kernel_rfl) (by kernel_rfl) (fun _ _ _ h => h) (yi_guard (!b2) (by cases b2 <;> rfl) ?_) (by with_reducible assumption) ?_
        rotate_left
        · (intro hg w hSw; clear hSw; (try simp only [hg, cond_true]); go_simp); all_goals with_reducible rfl
        (try simp only [List.getElem_toArray, List.getElem_cons_succ, List.getElem_cons_zero, Act.put, List.setIfInBounds_toArray, List.set_cons_zero, List.set_cons_succ])
        refine wpAnyH_take (i := 26) (v := bif !b2 then ?_ else undef) rfl (by kernel_rfl) (by kernel_rfl) (by kernel_rfl) (fun _ _ _ h => h) (yi_guard (!b2) (by cases b2 <;> rfl) ?_) (by with_reducible assumption) ?_
        rotate_left
        · (intro hg w hSw; clear hSw; (try simp only [hg, cond_true]); go_simp); all_goals with_reducible rfl
        (try simp only [List.getElem_toArray, List.getElem_cons_succ, List.getElem_cons_zero, Act.put, List.setIfInBounds_toArray, List.set_cons_zero, List.set_cons_succ])
        refine wpAnyH_take (i := 27) (v := .bool (b2 || !c3)) rfl (by kernel_rfl) (by kernel_rfl) (by kernel_rfl) (fun _ _ _ h => h) (Or.inl ⟨by rfl, ?_⟩) (by with_reducible assumption) ?_
        · (intro w hSw; clear hSw; cases b2 <;> (go_simp); all_goals (try with_reducible rfl))
        (try simp only [List.getElem_toArray, List.getElem_cons_succ, List.getElem_cons_zero, Act.put, List.setIfInBounds_toArray, List.set_cons_zero, List.set_cons_succ])
        obtain ⟨b3, hb3⟩ : ∃ z_, z_ = (b2 || !c3) := ⟨_, rfl⟩
        rw [← hb3]
        have Hb3 := Lib.hid hb3
        clear hb3
        refine wpAnyH_done (by kernel_rfl) ?_ _
        refine NoPanic.normal ?_
        have HBF := Lib.hid (below_step HBA.out h2)
        clear hHeld h1 h2
        cases b3
        · have hT : keyAt l kk = true := hYes Hb1.out Hb2.out Hb3.out
          go_wp2
          go_roundg (l.length - (kk + 1))
          case measure => omega
          case rel =>
            refine ⟨kk + 1, by omega, by omega, by go_num, HBF.out, (show Aside _ from fun j hj => ?_)⟩
            by_cases e : j = kk
            · subst e; exact hT
            · exact A1.out j (by omega)
        · have hF : keyAt l kk = false := hNo Hb1.out Hb2.out Hb3.out
          go_wp2
          go_ret
          exact ⟨by rw [keysR_false l kk hlt hF]; rfl, HBF.out⟩
    · have hltz : ¬ (kk : Int) < (l.length : Int) := by omega
      have hT := keysR_true l (fun k hk => A1.out k (by omega))
      by_cases h16 : l.length ≤ 16
      · have h16z : (l.length : Int) ≤ 16 := by omega
        rw [decide_eq_true h16] at hT
        go_wp2
        go_ret
        exact ⟨by first | rfl | (rw [hT]; rfl), BW.out⟩
      · have h16z : ¬ (l.length : Int) ≤ 16 := by omega
        rw [decide_eq_false h16] at hT
        go_wp2
        go_ret
        exact ⟨by first | rfl | (rw [hT]; rfl), BW.out⟩
end Go.Proofs.YtgcflmhlegagbaaGreatDoor.R
end
section
set_option linter.unusedVariables false
set_option linter.unusedSimpArgs false
namespace Go.Proofs.YtgcflmhlegagbaaGreatDoor.R
open Go.RowKit Go.Lib Go.Shelf Go.Proofs.YtgcflmhlegagbaaGreatDoorW.PrintWords Go.Proofs.YtgcflmhlegagbaaGreatDoorW.PrintLast Go.Proofs.YtgcflmhlegagbaaGreatDoorW.PrintMore
open S (mkB mkB_size mkB_list)
open E (dgP dgB roleOk wordsL)
open X (S53 k53 z53 rd_T53 at_T53 imprimaturref15_word.f)
theorem word_at (k : Nat) (h1 : 1 ≤ k) (h5 : k < 5) : ∃ y, imprimaturref15_word.f (k : Int) = some y ∧ wordsL[k - 1]? = some y := by
  have : k = 1 ∨ k = 2 ∨ k = 3 ∨ k = 4 := by omega
  rcases this with rfl | rfl | rfl | rfl
  · exact ⟨_, word_f.1, rfl⟩
  · exact ⟨_, word_f.2.1, rfl⟩
  · exact ⟨_, word_f.2.2.1, rfl⟩
  · exact ⟨_, word_f.2.2.2, rfl⟩
theorem rd53 (l : List S53) (m : Nat) : rd_T53 l (m : Int) = l.getD m z53 := by unfold rd_T53; rw [Int.toNat_natCast]
theorem any_take {α : Type} (l : List α) (d : α) (p : α → Bool) (i j : Nat) (hi : i ≤ l.length) (hj : j < i) (h : p (l.getD j d) = true) : (l.take i).any p = true := by
  rw [List.any_eq_true]
  refine ⟨l.getD j d, ?_, h⟩
  rw [List.getD_eq_getElem?_getD, List.getElem?_eq_getElem (by omega)]
  exact List.mem_take_iff_getElem.2 ⟨j, by omega, rfl⟩
theorem any_take_no {α : Type} (l : List α) (d : α) (p : α → Bool) (i : Nat) (hi : i ≤ l.length) (h : ∀ j, j < i → p (l.getD j d) = false) : (l.take i).any p = false := by
  rw [List.any_eq_false]
  intro x hx
  obtain ⟨j, hj, rfl⟩ := List.mem_take_iff_getElem.1 hx
  have := h j (by omega)
  rw [List.getD_eq_getElem?_getD, List.getElem?_eq_getElem (by omega)] at this
  exact Bool.eq_false_iff.1 this
attribute [local irreducible] G.right Nm.nameOk roleOk wordsL dgP
set_option maxHeartbeats 8000000 in
set_option maxRecDepth 100000 in
theorem deleg_c (A : Option Addr) (c : Nat) (l : List S53) (i : Nat) (w : World) (hA : Kd.C k53 w A l.length l) (hlc : l.length ≤ c) (hl : l.length ≤ 1000) (hi : i < l.length) (hN : (l.getD i z53).f0.size ≤ 140737488351232)
    (hI : ∀ j, ((l.getD i z53).f1.f0.getD j ByteArray.empty).size ≤ 140737488351232) (hP : ∀ p ∈ (l.getD i z53).f2, p.size ≤ 140737488351232) :
    Calls Tryz.prog 53 #[.slice A l.length c, .int .i64 (i : Int)] w fun e w' => e = .returned (.bool (dgP l i (l.getD i z53))) ∧ Below w.heap.size w w' := by
  have hiz : (i : Int) < (l.length : Int) := by omega
  have hi0 : (0 : Int) ≤ (i : Int) := by omega
  obtain ⟨ad, A1, k1, A3, k3, rfl, c0, c1, c2, c3, c4, l1, g1, l3, g3⟩ := at_T53 hA (i : Int) (by omega) (by omega)
  rw [rd53] at c0 c1 c2 c3 c4 l1 g1 l3 g3
  rw [Int.toNat_natCast] at c0 c1 c2 c3 c4
  obtain ⟨x, hx⟩ : ∃ x, l.getD i z53 = x := ⟨_, rfl⟩
  rw [hx] at c0 c1 c2 c3 c4 l1 g1 l3 g3 hN hI hP ⊢
  have hbA : Below w.heap.size w (w.alloc (.cells #[.string x.f0, .slice A1 x.f1.f0.length k1, .int .i64 x.f1.f1, .slice A3 x.f2.length k3, .bool x.f3] 53)) := below_alloc (Below.refl _ _) _
  have HN := Aside0.mk (name_c x.f0 (w.alloc (.cells #[.string x.f0, .slice A1 x.f1.f0.length k1, .int .i64 x.f1.f1, .slice A3 x.f2.length k3, .bool x.f3] 53)) hN)
  have HR := Aside0.mk (fun (W : World) (hb : Below w.heap.size w W) => role_c A1 k1 x.f1.f0 x.f1.f1 W (Kd.C_below g1 hb) l1 hI)
  have HA := Aside0.mk hA
  have HG3 := Aside0.mk g3
  have HPS := Aside0.mk hP
  have HQ0 := Aside0.mk (show (w.alloc (.cells #[.string x.f0, .slice A1 x.f1.f0.length k1, .int .i64 x.f1.f1, .slice A3 x.f2.length k3, .bool x.f3] 53)).cell? ⟨w.heap.size, 0, none⟩ = some (.string x.f0) by simp)
  have HQ1 := Aside0.mk (show (w.alloc (.cells #[.string x.f0, .slice A1 x.f1.f0.length k1, .int .i64 x.f1.f1, .slice A3 x.f2.length k3, .bool x.f3] 53)).cell? ⟨w.heap.size, 1, none⟩ = some (.slice A1 x.f1.f0.length k1) by simp)
  have HQ2 := Aside0.mk (show (w.alloc (.cells #[.string x.f0, .slice A1 x.f1.f0.length k1, .int .i64 x.f1.f1, .slice A3 x.f2.length k3, .bool x.f3] 53)).cell? ⟨w.heap.size, 2, none⟩ = some (.int .i64 x.f1.f1) by simp)
  have HQ3 := Aside0.mk (show (w.alloc (.cells #[.string x.f0, .slice A1 x.f1.f0.length k1, .int .i64 x.f1.f1, .slice A3 x.f2.length k3, .bool x.f3] 53)).cell? ⟨w.heap.size, 3, none⟩ = some (.slice A3 x.f2.length k3) by simp)
  have HQ4 := Aside0.mk (show (w.alloc (.cells #[.string x.f0, .slice A1 x.f1.f0.length k1, .int .i64 x.f1.f1, .slice A3 x.f2.length k3, .bool x.f3] 53)).cell? ⟨w.heap.size, 4, none⟩ = some (.bool x.f3) by simp)
  have HBA := Aside0.mk hbA
  have eD : dgP l i x = ((((((Nm.nameOk x.f0.data.toList && !(wordsL.any (fun y => x.f0.toList == y.toList))) && !((l.take i).any (fun z => z.f0.toList == x.f0.toList))) && roleOk x.f1.f0 x.f1.f1) && decide (1 ≤ (x.f2.length : Int))) && decide ((x.f2.length : Int) ≤ 8)) && !(x.f2.any (fun p => !G.right true p.data.toList))) := by unfold dgP dgB; rfl
  have hT1 : ∀ j, j < i → ((l.getD j z53).f0.toList == x.f0.toList) = true → (l.take i).any (fun z => z.f0.toList == x.f0.toList) = true := fun j hj h => any_take l z53 (fun z => z.f0.toList == x.f0.toList) i j (by omega) hj h
  have hT2 : (∀ j, j < i → ((l.getD j z53).f0.toList == x.f0.toList) = false) → (l.take i).any (fun z => z.f0.toList == x.f0.toList) = false := fun h => any_take_no l z53 (fun z => z.f0.toList == x.f0.toList) i (by omega) h
  generalize (l.take i).any (fun z => z.f0.toList == x.f0.toList) = bs at *
  generalize Nm.nameOk x.f0.data.toList = bn at *
  generalize roleOk x.f1.f0 x.f1.f1 = br at *
  clear hbA hA g1 l1 hN hI hP hx
  have HT1 := Aside0.mk hT1
  have HT2 := Aside0.mk hT2
  clear hT1 hT2
  go_enter Tryz.func53, Tryz.ntmps53
  cases bn
  · have hF : dgP l i x = false := by rw [eD]; rfl
    clear eD HR
    go_wp2_with (first
      | (go_at_call 23; (with_reducible refine HN.out.mono ?_); rintro e w1 ⟨rfl, hb1⟩; have B1 := Aside0.mk (below_step HBA.out hb1); have m0 := (hb1.cell (World.block_lt_of_cell? _ _ HQ0.out)).trans HQ0.out; have m1 := (hb1.cell (World.block_lt_of_cell? _ _ HQ1.out)).trans HQ1.out; have m2 := (hb1.cell (World.block_lt_of_cell? _ _ HQ2.out)).trans HQ2.out; have m3 := (hb1.cell (World.block_lt_of_cell? _ _ HQ3.out)).trans HQ3.out; have m4 := (hb1.cell (World.block_lt_of_cell? _ _ HQ4.out)).trans HQ4.out; clear hb1))
    go_ret
    exact ⟨by first | rfl | (rw [hF]; rfl), B1.out⟩
  cases br
  · have hF : dgP l i x = false := by rw [eD, Bool.and_false]; rfl
    clear eD
    go_wp2_with (first
      | (go_at_call 23; (with_reducible refine HN.out.mono ?_); rintro e w1 ⟨rfl, hb1⟩; have B1 := Aside0.mk (below_step HBA.out hb1); have m0 := (hb1.cell (World.block_lt_of_cell? _ _ HQ0.out)).trans HQ0.out; have m1 := (hb1.cell (World.block_lt_of_cell? _ _ HQ1.out)).trans HQ1.out; have m2 := (hb1.cell (World.block_lt_of_cell? _ _ HQ2.out)).trans HQ2.out; have m3 := (hb1.cell (World.block_lt_of_cell? _ _ HQ3.out)).trans HQ3.out; have m4 := (hb1.cell (World.block_lt_of_cell? _ _ HQ4.out)).trans HQ4.out; clear hb1)
      | (go_at_call 49; (with_reducible refine (HR.out _ B1.out).mono ?_); rintro e w2 ⟨rfl, hb2⟩; have B2 := Aside0.mk (below_step B1.out hb2); replace m0 := (hb2.cell (World.block_lt_of_cell? _ _ m0)).trans m0; replace m1 := (hb2.cell (World.block_lt_of_cell? _ _ m1)).trans m1; replace m2 := (hb2.cell (World.block_lt_of_cell? _ _ m2)).trans m2; replace m3 := (hb2.cell (World.block_lt_of_cell? _ _ m3)).trans m3; replace m4 := (hb2.cell (World.block_lt_of_cell? _ _ m4)).trans m4; clear hb2))
    go_ret
    exact ⟨by first | rfl | (rw [hF]; rfl), B2.out⟩
  by_cases h0 : x.f2.length = 0
  · have hF : dgP l i x = false := by
      rw [eD, show decide (1 ≤ (x.f2.length : Int)) = false from decide_eq_false (by omega), Bool.and_false]; rfl
    have h0z : (x.f2.length : Int) = 0 := by omega
    clear eD
    generalize x.f2.length = nn at *
    subst h0
    go_wp2_with (first
      | (go_at_call 23; (with_reducible refine HN.out.mono ?_); rintro e w1 ⟨rfl, hb1⟩; have B1 := Aside0.mk (below_step HBA.out hb1); have m0 := (hb1.cell (World.block_lt_of_cell? _ _ HQ0.out)).trans HQ0.out; have m1 := (hb1.cell (World.block_lt_of_cell? _ _ HQ1.out)).trans HQ1.out; have m2 := (hb1.cell (World.block_lt_of_cell? _ _ HQ2.out)).trans HQ2.out; have m3 := (hb1.cell (World.block_lt_of_cell? _ _ HQ3.out)).trans HQ3.out; have m4 := (hb1.cell (World.block_lt_of_cell? _ _ HQ4.out)).trans HQ4.out; clear hb1)
      | (go_at_call 49; (with_reducible refine (HR.out _ B1.out).mono ?_); rintro e w2 ⟨rfl, hb2⟩; have B2 := Aside0.mk (below_step B1.out hb2); replace m0 := (hb2.cell (World.block_lt_of_cell? _ _ m0)).trans m0; replace m1 := (hb2.cell (World.block_lt_of_cell? _ _ m1)).trans m1; replace m2 := (hb2.cell (World.block_lt_of_cell? _ _ m2)).trans m2; replace m3 := (hb2.cell (World.block_lt_of_cell? _ _ m3)).trans m3; replace m4 := (hb2.cell (World.block_lt_of_cell? _ _ m4)).trans m4; clear hb2))
    go_ret
    exact ⟨by first | rfl | (rw [hF]; rfl), B2.out⟩
  have h0b : ((x.f2.length : Int) == 0) = false := beq_eq_false_iff_ne.2 (by omega)
  by_cases h8 : 8 < x.f2.length
  · have hF : dgP l i x = false := by
      rw [eD, show decide ((x.f2.length : Int) ≤ 8) = false from decide_eq_false (by omega), Bool.and_false]; rfl
    have h8z : (8 : Int) < (x.f2.length : Int) := by omega
    clear eD
    go_wp2_with (first
      | (go_at_call 23; (with_reducible refine HN.out.mono ?_); rintro e w1 ⟨rfl, hb1⟩; have B1 := Aside0.mk (below_step HBA.out hb1); have m0 := (hb1.cell (World.block_lt_of_cell? _ _ HQ0.out)).trans HQ0.out; have m1 := (hb1.cell (World.block_lt_of_cell? _ _ HQ1.out)).trans HQ1.out; have m2 := (hb1.cell (World.block_lt_of_cell? _ _ HQ2.out)).trans HQ2.out; have m3 := (hb1.cell (World.block_lt_of_cell? _ _ HQ3.out)).trans HQ3.out; have m4 := (hb1.cell (World.block_lt_of_cell? _ _ HQ4.out)).trans HQ4.out; clear hb1)
      | (go_at_call 49; (with_reducible refine (HR.out _ B1.out).mono ?_); rintro e w2 ⟨rfl, hb2⟩; have B2 := Aside0.mk (below_step B1.out hb2); replace m0 := (hb2.cell (World.block_lt_of_cell? _ _ m0)).trans m0; replace m1 := (hb2.cell (World.block_lt_of_cell? _ _ m1)).trans m1; replace m2 := (hb2.cell (World.block_lt_of_cell? _ _ m2)).trans m2; replace m3 := (hb2.cell (World.block_lt_of_cell? _ _ m3)).trans m3; replace m4 := (hb2.cell (World.block_lt_of_cell? _ _ m4)).trans m4; clear hb2))
    go_ret
    exact ⟨by first | rfl | (rw [hF]; rfl), B2.out⟩
  have h8z : ¬ (8 : Int) < (x.f2.length : Int) := by omega
  have h8b : decide ((8 : Int) < (x.f2.length : Int)) = false := decide_eq_false h8z
  rw [show decide (1 ≤ (x.f2.length : Int)) = true from decide_eq_true (by omega), show decide ((x.f2.length : Int) ≤ 8) = true from decide_eq_true (by omega)] at eD
  simp only [Bool.true_and, Bool.and_true] at eD
  have HED := Lib.hid eD
  clear eD
  go_wp2_with (first
    | (go_at_call 23; (with_reducible refine HN.out.mono ?_); rintro e w1 ⟨rfl, hb1⟩; have B1 := Aside0.mk (below_step HBA.out hb1); have m0 := (hb1.cell (World.block_lt_of_cell? _ _ HQ0.out)).trans HQ0.out; have m1 := (hb1.cell (World.block_lt_of_cell? _ _ HQ1.out)).trans HQ1.out; have m2 := (hb1.cell (World.block_lt_of_cell? _ _ HQ2.out)).trans HQ2.out; have m3 := (hb1.cell (World.block_lt_of_cell? _ _ HQ3.out)).trans HQ3.out; have m4 := (hb1.cell (World.block_lt_of_cell? _ _ HQ4.out)).trans HQ4.out; clear hb1)
    | (go_at_call 49; (with_reducible refine (HR.out _ B1.out).mono ?_); rintro e w2 ⟨rfl, hb2⟩; have B2 := Aside0.mk (below_step B1.out hb2); replace m0 := (hb2.cell (World.block_lt_of_cell? _ _ m0)).trans m0; replace m1 := (hb2.cell (World.block_lt_of_cell? _ _ m1)).trans m1; replace m2 := (hb2.cell (World.block_lt_of_cell? _ _ m2)).trans m2; replace m3 := (hb2.cell (World.block_lt_of_cell? _ _ m3)).trans m3; replace m4 := (hb2.cell (World.block_lt_of_cell? _ _ m4)).trans m4; clear hb2))
  have M0 := Aside0.mk m0
  have M3 := Aside0.mk m3
  clear m0 m1 m2 m3 m4 c0 c1 c2 c3 c4
  go_loopg [6] 5 (fun gg s6 wr => ∃ k : Nat, 1 ≤ k ∧ k ≤ 5 ∧ 5 - k ≤ gg ∧ s6 = .int .i64 k ∧ Aside (Below w2.heap.size w2 wr) ∧ Aside (∀ j y, j < k - 1 → wordsL[j]? = some y → (x.f0.toList == y.toList) = false))
  case atStart => exact ⟨1, Nat.le_refl _, by omega, by omega, rfl, Below.refl _ _, fun j y hj => absurd hj (by omega)⟩
  case round =>
    obtain ⟨k, hk1, hk5, hg, rfl, BW, AW⟩ := hrel
    by_cases hlt : k < 5
    · have hltz : (k : Int) < 5 := by omega
      obtain ⟨y, hy, hyw⟩ := word_at k hk1 hlt
      have F0 := (BW.out.cell (World.block_lt_of_cell? _ _ M0.out)).trans M0.out
      go_upto_region 7 with (fail)
      obtain ⟨W0, hW0⟩ : ∃ W, W = wr := ⟨_, rfl⟩
      subst hW0
      refine wp_region_noPanic ?_
      refine wp_region_held_drew (S := fun W_ => Below W0.heap.size W0 W_) (by kernel_rfl) (Below.refl _ _).drew (fun hHeld => ?_)
      refine wpAnyH_take (i := 0) (v := ?_) rfl (by kernel_rfl) (by kernel_rfl) (by kernel_rfl) (fun _ _ _ h => h) (Or.inl ⟨by rfl, ?_⟩) (by with_reducible assumption) ?_
      rotate_left
      · (intro w hSw; clear hSw; go_simp); all_goals with_reducible rfl
      (try simp only [List.getElem_toArray, List.getElem_cons_succ, List.getElem_cons_zero, Act.put, List.setIfInBounds_toArray, List.set_cons_zero, List.set_cons_succ])
      refine wpAnyH_take (i := 1) (v := ?_) rfl (by kernel_rfl) (by kernel_rfl) (by kernel_rfl) (fun _ _ _ h => h) (Or.inl ⟨by rfl, ?_⟩) (by with_reducible assumption) ?_
      rotate_left
      · (intro w hSw; have c_0 := (hSw.cell (World.block_lt_of_cell? _ _ F0)).trans F0; clear hSw; go_simp); all_goals with_reducible rfl
      (try simp only [List.getElem_toArray, List.getElem_cons_succ, List.getElem_cons_zero, Act.put, List.setIfInBounds_toArray, List.set_cons_zero, List.set_cons_succ])
      refine wpAnyH_take (i := 2) (v := ?_) rfl (by kernel_rfl) (by kernel_rfl) (by kernel_rfl) (fun _ _ _ h => h) (Or.inl ⟨by rfl, ?_⟩) (by with_reducible assumption) ?_
      rotate_left
      · (intro w hSw; clear hSw; go_simp); all_goals with_reducible rfl
      (try simp only [List.getElem_toArray, List.getElem_cons_succ, List.getElem_cons_zero, Act.put, List.setIfInBounds_toArray, List.set_cons_zero, List.set_cons_succ])
      refine wpAnyH_ready (rs := [3]) (by kernel_rfl) (by simp) (AllReadyH.cons rfl (fun K hK => ?_) AllReadyH.nil)
      go_simp
      go_at_call 81
      refine (word_c (k : Int) y _ hy).mono ?_
      rintro e w3 ⟨rfl, hb3⟩
      refine hK.out _ _ ?_ (fun h3 => ?_)
      · exact below_step hHeld hb3
      clear hK K hHeld hb3
      (try simp only [List.getElem_toArray, List.getElem_cons_succ, List.getElem_cons_zero, Act.put, List.setIfInBounds_toArray, List.set_cons_zero, List.set_cons_succ])
      refine wpAnyH_take (i := 4) (v := ?_) rfl (by kernel_rfl) (by kernel_rfl) (by kernel_rfl) (fun _ _ _ h => h) (Or.inl ⟨by rfl, ?_⟩) (by with_reducible assumption) ?_
      rotate_left
      · (intro w hSw; clear hSw; go_simp); all_goals with_reducible rfl
      (try simp only [List.getElem_toArray, List.getElem_cons_succ, List.getElem_cons_zero, Act.put, List.setIfInBounds_toArray, List.set_cons_zero, List.set_cons_succ])
      refine wpAnyH_done (by kernel_rfl) ?_ _
      refine NoPanic.normal ?_
      have B3 := Lib.hid (below_step BW.out h3)
      clear h3 F0
      cases e : (x.f0.toList == y.toList)
      · have AW2 := Aside0.mk (show ∀ j y', j < k + 1 - 1 → wordsL[j]? = some y' → (x.f0.toList == y'.toList) = false from fun j y' hj hy' => by
          by_cases ej : j = k - 1
          · subst ej; rw [hyw] at hy'; obtain rfl := Option.some.inj hy'; exact e
          · exact AW.out j y' (by omega) hy')
        go_wp2
        go_roundg (5 - (k + 1))
        case measure => omega
        case rel => exact ⟨k + 1, by omega, by omega, by omega, by go_num, B3.out, AW2.out⟩
      · have hb : wordsL.any (fun y => x.f0.toList == y.toList) = true := by
          rw [List.any_eq_true]
          exact ⟨y, List.mem_of_getElem? hyw, e⟩
        have hF : dgP l i x = false := by rw [HED.out, hb]; rfl
        go_wp2
        go_ret
        exact ⟨by first | rfl | (rw [hF]; rfl), below_step B2.out B3.out⟩
    · obtain rfl : k = 5 := by omega
      have hb : wordsL.any (fun y => x.f0.toList == y.toList) = false := by
        rw [List.any_eq_false]
        intro y hy
        obtain ⟨j, hj, rfl⟩ := List.getElem_of_mem hy
        have h4 : wordsL.length = 4 := by unfold wordsL; rfl
        rw [AW.out j _ (by omega) (List.getElem?_eq_getElem hj)]
        decide
      have hED := HED.out
      rw [hb] at hED
      simp only [Bool.true_and, Bool.not_false] at hED
      have HED2 := Lib.hid hED
      clear hED hb HED AW
      go_wp2
      have BW2 := Aside0.mk BW.out
      generalize hwo : wr = wo at *
      clear hwo BW
      go_loopg [7] i (fun gg s7 wr => ∃ j : Nat, j ≤ i ∧ i - j ≤ gg ∧ s7 = .int .i64 j ∧ Aside (Below w2.heap.size w2 wr) ∧ Aside (∀ m, m < j → ((l.getD m z53).f0.toList == x.f0.toList) = false))
      case atStart => exact ⟨0, Nat.zero_le _, by omega, rfl, BW2.out, fun m hm => absurd hm (Nat.not_lt_zero _)⟩
      case round =>
        obtain ⟨j, hj, hg2, rfl, BZ, AZ⟩ := hrel
        by_cases hltj : j < i
        · have hltjz : (j : Int) < (i : Int) := by omega
          have hj0 : (0 : Int) ≤ (j : Int) := by omega
          have hjl : (j : Int) < (l.length : Int) := by omega
          obtain ⟨ad', _, _, _, _, e', q0, _⟩ := at_T53 HA.out (j : Int) (by omega) (by omega)
          injection e' with e'
          subst e'
          rw [rd53, Int.toNat_natCast] at q0
          replace q0 := (B2.out.cell (World.block_lt_of_cell? w _ q0)).trans q0
          replace q0 := (BZ.out.cell (World.block_lt_of_cell? w2 _ q0)).trans q0
          have F0 := (BZ.out.cell (World.block_lt_of_cell? _ _ M0.out)).trans M0.out
          obtain ⟨z, hz⟩ : ∃ z, (l.getD j z53).f0 = z := ⟨_, rfl⟩
          rw [hz] at q0
          go_upto_region 12 with (fail)
          go_region_held3 (fun W_ => W_.cell? ⟨w.heap.size, 0, none⟩ = some (.string x.f0) ∧ W_.cell? (ad.add (j * 5)) = some (.string z)) (go_keep) (fail)
          have BD := Lib.hid (below_drew BZ.out)
          clear q0 F0
          cases e : (z.toList == x.f0.toList)
          · have AZ2 := Aside0.mk (show ∀ m, m < j + 1 → ((l.getD m z53).f0.toList == x.f0.toList) = false from fun m hm => by
              by_cases em : m = j
              · subst em; rw [hz]; exact e
              · exact AZ.out m (by omega))
            go_wp2
            go_roundg (i - (j + 1))
            case measure => omega
            case rel => exact ⟨j + 1, by omega, by omega, by go_num, BD.out, AZ2.out⟩
          · have hF : dgP l i x = false := by rw [HED2.out, HT1.out j hltj (by rw [hz]; exact e)]; rfl
            go_wp2
            go_ret
            exact ⟨by first | rfl | (rw [hF]; rfl), below_step B2.out BD.out⟩
        · obtain rfl : j = i := by omega
          have hED := HED2.out
          rw [HT2.out AZ.out] at hED
          simp only [Bool.true_and, Bool.not_false] at hED
          have HED3 := Lib.hid hED
          have F3 := (BZ.out.cell (World.block_lt_of_cell? _ _ M3.out)).trans M3.out
          clear hED HED2 AZ
          go_wp2
          have BW3 := Aside0.mk BZ.out
          clear F3
          generalize hwo2 : wr = wo2 at *
          clear hwo2 BZ
          go_loopg [61] x.f2.length (fun gg s61 wr => ∃ m : Nat, m ≤ x.f2.length ∧ x.f2.length - m ≤ gg ∧ s61 = .int .i64 m ∧ Aside (Below w2.heap.size w2 wr) ∧ Aside (∀ n (h : n < x.f2.length), n < m → G.right true x.f2[n].data.toList = true))
          case atStart => exact ⟨0, Nat.zero_le _, by omega, rfl, BW3.out, fun n _ hn => absurd hn (Nat.not_lt_zero _)⟩
          case round =>
            obtain ⟨m, hm, hg3, rfl, BY, AY⟩ := hrel
            by_cases hltm : m < x.f2.length
            · have hltmz : (m : Int) < (x.f2.length : Int) := by omega
              have hm0 : (0 : Int) ≤ (m : Int) := by omega
              obtain ⟨ad3, rfl, q3⟩ := E.str_at HG3.out m hltm
              replace q3 := (B2.out.cell (World.block_lt_of_cell? w _ q3)).trans q3
              replace q3 := (BY.out.cell (World.block_lt_of_cell? w2 _ q3)).trans q3
              have hps := HPS.out _ (List.getElem_mem hltm)
              obtain ⟨p, hp⟩ : ∃ p, x.f2[m] = p := ⟨_, rfl⟩
              rw [hp] at q3 hps
              have HGL := Aside0.mk (fun W => glob_c p true W hps)
              obtain ⟨bg, hbg⟩ : ∃ b, G.right true p.data.toList = b := ⟨_, rfl⟩
              rw [hbg] at HGL
              cases bg
              · have hb : x.f2.any (fun p => !G.right true p.data.toList) = true := by
                  rw [List.any_eq_true]
                  exact ⟨p, hp ▸ List.getElem_mem hltm, by rw [hbg]; rfl⟩
                have hF : dgP l j x = false := by rw [HED3.out, hb]; rfl
                clear hbg hb
                go_wp2_with (first
                  | (go_at_call 52; (with_reducible refine (HGL.out _).mono ?_); rintro e w5 ⟨rfl, hb5⟩; have B5 := Aside0.mk (below_step BY.out hb5); clear hb5))
                go_ret
                exact ⟨by first | rfl | (rw [hF]; rfl), below_step B2.out B5.out⟩
              · have AY2 := Aside0.mk (show ∀ n (h : n < x.f2.length), n < m + 1 → G.right true x.f2[n].data.toList = true from fun n h hn => by
                  by_cases en : n = m
                  · subst en; rw [hp]; exact hbg
                  · exact AY.out n h (by omega))
                clear hbg
                go_wp2_with (first
                  | (go_at_call 52; (with_reducible refine (HGL.out _).mono ?_); rintro e w5 ⟨rfl, hb5⟩; have B5 := Aside0.mk (below_step BY.out hb5); clear hb5))
                go_roundg (x.f2.length - (m + 1))
                case measure => omega
                case rel => exact ⟨m + 1, by omega, by omega, by go_num, B5.out, AY2.out⟩
            · have hltmz : ¬ (m : Int) < (x.f2.length : Int) := by omega
              have hb : x.f2.any (fun p => !G.right true p.data.toList) = false := by
                rw [List.any_eq_false]
                intro p hp
                obtain ⟨n, hn, rfl⟩ := List.getElem_of_mem hp
                rw [AY.out n hn (by omega)]
                decide
              have hF : dgP l j x = true := by rw [HED3.out, hb]; rfl
              go_wp2
              go_ret
              exact ⟨by first | rfl | (rw [hF]; rfl), below_step B2.out BY.out⟩
end Go.Proofs.YtgcflmhlegagbaaGreatDoor.R
end
