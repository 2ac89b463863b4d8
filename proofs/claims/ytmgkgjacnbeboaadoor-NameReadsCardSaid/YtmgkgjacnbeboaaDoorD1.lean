/- The printed functions of octet and of the reference are the plain ones: digits, their bytes, parts, numbers, names. -/
import Derived.Test.YtmgkgjacnbeboaaDoorY1
import Derived.Test.YtmgkgjacnbeboaaDoorY2
import Derived.Test.YtmgkgjacnbeboaaDoorY3
import Derived.Test.YtmgkgjacnbeboaaDoorN3
set_option linter.unusedVariables false
set_option linter.unusedSimpArgs false
namespace Go.Proofs.YtmgkgjacnbeboaaDoor.D
open Go.RowKit Go.Proofs.YtmgkgjacnbeboaaDoorW.PrintWords Go.Proofs.YtmgkgjacnbeboaaDoorW.PrintLast Go.Proofs.YtmgkgjacnbeboaaDoorW.PrintMore
open S Y E
abbrev numsOf (l : List UInt8) : List Int := l.map fun c => (c.toNat : Int)
theorem strOfNums_bytes (l : List UInt8) : strOfNums (l.map fun c => (c.toNat : Int)) = mkB l := by simp [strOfNums, mkB, Function.comp_def]
theorem strOfNums_one (n : Nat) (h : n < 256) : strOfNums [(n : Int)] = mkB [UInt8.ofNat n] := by simp [strOfNums, mkB]

theorem mkB_get (l : List UInt8) (i : Nat) (h : i < (mkB l).size) (h' : i < l.length) : (mkB l)[i] = l[i] := rfl
theorem bt_nat (l : List UInt8) (i : Nat) (h : i < l.length) : bt (mkB l) (i : Int) = (l[i].toNat : Int) := by
  unfold bt
  rw [dif_pos (by rw [Int.toNat_natCast, mkB_size]; simpa using h)]
  have := mkB_get l i (by rw [mkB_size]; exact h) h
  exact congrArg (fun c : UInt8 => (c.toNat : Int)) this
theorem bt_app (pre : List UInt8) (c : UInt8) (post : List UInt8) : bt (mkB (pre ++ c :: post)) (pre.length : Int) = (c.toNat : Int) := by
  rw [bt_nat _ _ (by simp), List.getElem_append_right (by omega)]
  simp
def dig? (c : UInt8) : Int := match undig c with | some n => (n : Int) | none => -1
theorem idx (c : UInt8) : strings_IndexByte.f (⟨#[48, 49, 50, 51, 52, 53, 54, 55, 56, 57, 97, 98, 99, 100, 101, 102]⟩ : ByteArray) (c.toNat : Int) = some (dig? c) := by
  have h : dig? c = Lib.indexByte digs c := by
    have := undig_index c
    unfold dig?
    cases h : undig c <;> rw [h] at this <;> exact this
  rw [strings_IndexByte.f, h]
  simp [digs]
theorem or16 : ∀ x y : Fin 16, Go.bits .or .i64 (wrap64 ((x.val : Int) * 16)) (y.val : Int) % 256 = ((16 * x.val + y.val : Nat) : Int) := by decide +kernel
theorem toNat_ofNat16 {x y : Nat} (hx : x < 16) (hy : y < 16) : (UInt8.ofNat (16 * x + y)).toNat = 16 * x + y := by simp; omega
theorem unhex_cons (a b : UInt8) (r : List UInt8) : unhex (a :: b :: r) = match undig a, undig b with | some x, some y => (unhex r).map (fun l => UInt8.ofNat (16 * x + y) :: l) | _, _ => none := by rw [unhex]; rfl
def uRes (acc : List UInt8) : Option (List UInt8) → ByteArray × Int
  | some r => (mkB (acc ++ r), 0)
  | none => (mkB [], 4)
theorem unhex_l : ∀ (l acc : List UInt8) (k : Nat), acc.length + l.length < 70368744177664 → l.length < k → octet_Unhex.l0 k (mkB l) (numsOf acc) = some (uRes acc (unhex l))
  | [], acc, k, hl, hk => by
    obtain ⟨k, rfl⟩ : ∃ m, k = m + 1 := ⟨k - 1, by omega⟩
    simp only [octet_Unhex.l0]
    rw [if_neg (by rw [mkB_size]; simp), if_pos (by rw [toList_list, mkB_list]), strOfNums_bytes]
    simp [unhex, uRes]
  | [a], acc, k, hl, hk => by
    obtain ⟨k, rfl⟩ : ∃ m, k = m + 1 := ⟨k - 1, by omega⟩
    simp only [octet_Unhex.l0]
    rw [if_neg (by rw [mkB_size]; simp), if_neg (by rw [toList_list, mkB_list]; simp)]
    simp [unhex, uRes, mkB]
  | a :: b :: r, acc, k, hl, hk => by
    obtain ⟨k, rfl⟩ : ∃ m, k = m + 1 := ⟨k - 1, by omega⟩
    have e0 : bt (mkB (a :: b :: r)) 0 = (a.toNat : Int) := bt_nat (a :: b :: r) 0 (by simp)
    have e1 : bt (mkB (a :: b :: r)) 1 = (b.toNat : Int) := bt_nat (a :: b :: r) 1 (by simp)
    have hs : (mkB (a :: b :: r)).size = r.length + 2 := by rw [mkB_size]; simp
    simp only [octet_Unhex.l0, e0, e1, idx, Option.bind_some]
    rw [if_pos (by rw [hs]; omega), if_pos (by rw [hs]; omega), if_pos (by rw [hs]; omega), unhex_cons]
    cases ha : undig a with
    | none => rw [show dig? a = -1 from by rw [dig?, ha], if_pos (by omega)]; simp [uRes, mkB]
    | some x =>
      have hx := undig_lt ha
      rw [show dig? a = (x : Int) from by rw [dig?, ha], if_neg (by omega)]
      cases hb : undig b with
      | none => rw [show dig? b = -1 from by rw [dig?, hb], if_pos (by omega)]; simp [uRes, mkB]
      | some y =>
        have hy := undig_lt hb
        have e2 : (mkB (a :: b :: r)).extract 2 (mkB (a :: b :: r)).size = mkB r := by
          rw [hs, mkB_extract]; simp
        have e3 : numsOf acc ++ [Go.bits .or .i64 (wrap64 ((x : Int) * 16)) (y : Int) % 256] = numsOf (acc ++ [UInt8.ofNat (16 * x + y)]) := by
          rw [or16 ⟨x, hx⟩ ⟨y, hy⟩]
          simp only [numsOf, List.map_append, List.map_cons, List.map_nil, toNat_ofNat16 hx hy]
        rw [show dig? b = (y : Int) from by rw [dig?, hb], if_neg (by omega), if_pos (by simp at hl ⊢; omega), if_pos (by rw [hs]; omega), e2, e3, unhex_l r _ k (by simp at hl ⊢; omega) (by simp at hk; omega)]
        cases unhex r <;> simp [uRes]
theorem unhex_f (s : ByteArray) (hs : s.size < 70368744177664) (k : Nat) (hk : s.size < k) : octet_Unhex.f k s = some (uRes [] (unhex s.data.toList)) := by
  have := unhex_l s.data.toList [] k (by simp; omega) (by rw [size_list]; exact hk)
  rw [mkB_data] at this
  exact this
theorem rdigit (k : Nat) (c : UInt8) : imprimaturref01_digit.f (k + 1) (c.toNat : Int) = some (dig? c) := by
  have hc := c.toNat_lt
  have g : (∃ n : Nat, undig c = some n ∧ 48 ≤ c.toNat ∧ c.toNat ≤ 57 ∧ n = c.toNat - 48) ∨ (∃ n : Nat, undig c = some n ∧ 97 ≤ c.toNat ∧ c.toNat ≤ 102 ∧ n = c.toNat - 87) ∨ (undig c = none ∧ ¬ (48 ≤ c.toNat ∧ c.toNat ≤ 57) ∧ ¬ (97 ≤ c.toNat ∧ c.toNat ≤ 102)) := by
    unfold undig
    by_cases h1 : 48 ≤ c.toNat ∧ c.toNat ≤ 57
    · rw [if_pos h1]; exact .inl ⟨_, rfl, h1.1, h1.2, rfl⟩
    · rw [if_neg h1]
      by_cases h2 : 97 ≤ c.toNat ∧ c.toNat ≤ 102
      · rw [if_pos h2]; exact .inr (.inl ⟨_, rfl, h2.1, h2.2, rfl⟩)
      · rw [if_neg h2]; exact .inr (.inr ⟨rfl, h1, h2⟩)
  simp only [imprimaturref01_digit.f, imprimaturref01_digit.j0, dig?]
  rcases g with ⟨n, hu, h1, h2, rfl⟩ | ⟨n, hu, h1, h2, rfl⟩ | ⟨hu, h1, h2⟩
  · rw [hu, if_pos (by omega), if_pos (by rw [decide_eq_true_iff]; omega)]
    simp only; congr 1; omega
  · rw [hu, if_pos (by omega), if_neg (by rw [decide_eq_true_iff]; omega), if_pos (by omega), if_pos (by omega)]
    simp only; congr 1; omega
  · rw [hu]
    by_cases h3 : 48 ≤ c.toNat
    · rw [if_pos (by omega), if_neg (by rw [decide_eq_true_iff]; omega)]
      by_cases h4 : 97 ≤ c.toNat
      · rw [if_pos (by omega), if_neg (by omega)]
      · rw [if_neg (by omega)]
    · rw [if_neg (by omega), if_neg (by simp), if_neg (by omega)]
def rRes (acc : List UInt8) : Option (List UInt8) → ByteArray × Bool
  | some r => (mkB (acc ++ r), true)
  | none => (mkB [], false)
theorem add16 : ∀ x y : Fin 16, wrap64 (wrap64 (16 * (x.val : Int)) + (y.val : Int)) % 256 = ((16 * x.val + y.val : Nat) : Int) := by decide +kernel
theorem runhex_l (l : List UInt8) (hl : l.length < 70368744177664) : ∀ (post pre acc : List UInt8) (k : Nat), pre ++ post = l → pre.length % 2 = 0 → acc.length ≤ pre.length → 2 * post.length + 3 < k → imprimaturref01_Unhex.l0 k (mkB l) (numsOf acc) (pre.length : Int) = some (rRes acc (unhex post))
  | [], pre, acc, k, h, h2, ha, hk => by
    obtain ⟨k, rfl⟩ : ∃ m, k = m + 1 := ⟨k - 1, by omega⟩
    have hs : (mkB l).size = pre.length := by rw [mkB_size, ← h]; simp
    simp only [imprimaturref01_Unhex.l0, hs]
    rw [wrap64_id (by omega) (by rw [← h] at hl; simp at hl; omega), if_neg (by omega), if_neg (by omega), strOfNums_bytes]
    simp [unhex, rRes]
  | [a], pre, acc, k, h, h2, ha, hk => by
    obtain ⟨k, rfl⟩ : ∃ m, k = m + 1 := ⟨k - 1, by omega⟩
    have hs : (mkB l).size = pre.length + 1 := by rw [mkB_size, ← h]; simp
    simp only [imprimaturref01_Unhex.l0, hs]
    rw [wrap64_id (by omega) (by rw [← h] at hl; simp at hl; omega), if_neg (by omega), if_pos (by omega)]
    simp [unhex, rRes, mkB]
  | a :: b :: r, pre, acc, k, h, h2, ha, hk => by
    obtain ⟨k, rfl⟩ : ∃ m, k = m + 3 := ⟨k - 3, by omega⟩
    have hs : (mkB l).size = pre.length + (r.length + 2) := by rw [mkB_size, ← h]; simp
    have hl' : pre.length + (r.length + 2) < 70368744177664 := by rw [← hs, mkB_size]; exact hl
    have e0 : bt (mkB l) (pre.length : Int) = (a.toNat : Int) := by rw [← h]; exact bt_app pre a (b :: r)
    have ew : wrap64 ((pre.length : Int) + 1) = ((pre ++ [a]).length : Int) := by rw [wrap64_id (by omega) (by omega)]; simp
    have ew2 : wrap64 ((pre.length : Int) + 2) = ((pre ++ [a, b]).length : Int) := by rw [wrap64_id (by omega) (by omega)]; simp
    have e1 : bt (mkB l) ((pre ++ [a]).length : Int) = (b.toNat : Int) := by
      have : l = (pre ++ [a]) ++ b :: r := by rw [← h]; simp
      rw [this]; exact bt_app (pre ++ [a]) b r
    have hp1 : ((pre ++ [a]).length : Int) = pre.length + 1 := by simp
    rw [imprimaturref01_Unhex.l0]
    simp only [imprimaturref01_Unhex.j1, ew, ew2, e0, e1, rdigit, Option.bind_some]
    rw [if_pos (by rw [hs, hp1]; omega), if_pos (by omega), if_pos (by rw [hs]; omega), unhex_cons]
    cases hda : undig a with
    | none => rw [show dig? a = -1 from by rw [dig?, hda], if_pos (by omega)]; simp [rRes, mkB]
    | some x =>
      have hx := undig_lt hda
      rw [show dig? a = (x : Int) from by rw [dig?, hda], if_neg (by omega), if_pos (by omega)]
      cases hdb : undig b with
      | none => rw [show dig? b = -1 from by rw [dig?, hdb], if_pos (by simp)]; simp [rRes, mkB]
      | some y =>
        have hy := undig_lt hdb
        have e3 : numsOf acc ++ [wrap64 (wrap64 (16 * (x : Int)) + (y : Int)) % 256] = numsOf (acc ++ [UInt8.ofNat (16 * x + y)]) := by
          rw [add16 ⟨x, hx⟩ ⟨y, hy⟩]
          simp only [numsOf, List.map_append, List.map_cons, List.map_nil, toNat_ofNat16 hx hy]
        rw [show dig? b = (y : Int) from by rw [dig?, hdb], if_neg (by simp), if_pos (by omega), if_pos (by rw [hs]; omega), if_pos (by rw [hp1]; omega), if_pos (by rw [hs, hp1]; omega), if_pos (by simp; omega), e3, runhex_l l hl r (pre ++ [a, b]) (acc ++ [UInt8.ofNat (16 * x + y)]) (k + 1) (by simpa using h) (by simp; omega) (by simp; omega) (by simp at hk; omega)]
        cases unhex r <;> simp [rRes]
theorem runhex_f (s : ByteArray) (hs : s.size < 70368744177664) (k : Nat) (hk : 2 * s.size + 3 < k) : imprimaturref01_Unhex.f k s = some (rRes [] (unhex s.data.toList)) := by
  have := runhex_l s.data.toList (by rw [size_list]; exact hs) s.data.toList [] [] k rfl rfl (Nat.le_refl _) (by rw [size_list]; exact hk)
  rw [mkB_data] at this
  exact this
theorem bt_digs : ∀ n : Fin 16, bt (⟨#[48, 49, 50, 51, 52, 53, 54, 55, 56, 57, 97, 98, 99, 100, 101, 102]⟩ : ByteArray) (n.val : Int) = ((digs.getD n.val 0).toNat : Int) := by decide +kernel
theorem rhex_l (l : List UInt8) (hl : l.length < 70368744177664) : ∀ (post pre : List UInt8) (k : Nat), pre ++ post = l → post.length < k → imprimaturref01_Hex.l0 k (mkB l) (numsOf (hexs pre)) (pre.length : Int) = some (mkB (hexs l))
  | [], pre, k, h, hk => by
    obtain ⟨k, rfl⟩ : ∃ m, k = m + 1 := ⟨k - 1, by omega⟩
    rw [List.append_nil] at h
    subst h
    simp only [imprimaturref01_Hex.l0]
    rw [if_neg (by rw [mkB_size]; omega), strOfNums_bytes]
  | c :: post, pre, k, h, hk => by
    obtain ⟨k, rfl⟩ : ∃ m, k = m + 1 := ⟨k - 1, by omega⟩
    have hs : (mkB l).size = pre.length + (post.length + 1) := by rw [mkB_size, ← h]; simp
    have hl' : pre.length + (post.length + 1) < 70368744177664 := by rw [← hs, mkB_size]; exact hl
    have e0 : bt (mkB l) (pre.length : Int) = (c.toNat : Int) := by rw [← h]; exact bt_app pre c post
    have hc := c.toNat_lt
    have q1 : (c.toNat : Int).tdiv 16 % 256 = ((c.toNat / 16 : Nat) : Int) := by rw [Int.tdiv_eq_ediv_of_nonneg (by omega)]; omega
    have q2 : (c.toNat : Int).tmod 16 = ((c.toNat % 16 : Nat) : Int) := by rw [Int.tmod_eq_emod_of_nonneg (by omega)]; omega
    have b1 := bt_digs ⟨c.toNat / 16, by omega⟩
    have b2 := bt_digs ⟨c.toNat % 16, by omega⟩
    simp only at b1 b2
    simp only [imprimaturref01_Hex.l0, e0, q1, q2, b1, b2, Option.bind_some]
    have hx := hexs_length pre
    have e3 : numsOf (hexs pre) ++ [((digs.getD (c.toNat / 16) 0).toNat : Int), ((digs.getD (c.toNat % 16) 0).toNat : Int)] = numsOf (hexs (pre ++ [c])) := by
      rw [hexs_append]; simp [numsOf, hexs, hex1]
    rw [if_pos (by rw [hs]; omega), if_pos (by omega), if_pos (by omega), if_pos (by omega), if_pos (by omega), if_pos (by omega), if_pos (by simp [hx]; omega), e3, wrap64_id (by omega) (by omega)]
    have := rhex_l l hl post (pre ++ [c]) k (by simpa using h) (by simp at hk; omega)
    simpa using this
theorem rhex_f (s : ByteArray) (hs : s.size < 70368744177664) (k : Nat) (hk : s.size < k) : imprimaturref01_Hex.f k s = some (mkB (hexs s.data.toList)) := by
  have := rhex_l s.data.toList (by rw [size_list]; exact hs) s.data.toList [] k rfl (by rw [size_list]; exact hk)
  rw [mkB_data] at this
  exact this
theorem bt_get (s : ByteArray) (i : Nat) (h : i < s.size) : bt s (i : Int) = (s[i].toNat : Int) := by
  unfold bt; simp [h]
theorem w64 (i : Nat) (h : i < 9223372036854775807) : wrap64 ((i : Int) + 1) = ((i + 1 : Nat) : Int) := by unfold wrap64; omega
theorem drop_cons (s : ByteArray) (i : Nat) (h : i < s.size) : s.data.toList.drop i = s[i] :: s.data.toList.drop (i + 1) := by
  rw [List.drop_eq_getElem_cons (by simpa using h)]; rfl

theorem split_ne (l : List UInt8) : G.split l ≠ [] := by
  cases l with
  | nil => simp [G.split]
  | cons c t => rw [G.split]; split <;> (try split) <;> simp
def spl (now : ByteArray) : List UInt8 → List ByteArray
  | [] => [now]
  | c :: t => if c = 47 then now :: spl ⟨#[]⟩ t else spl (now ++ ⟨#[c]⟩) t
theorem spl_data (l : List UInt8) : ∀ now : ByteArray, (spl now l).map (fun p => p.data.toList) = (match G.split l with | [] => [now.data.toList] | h :: r => (now.data.toList ++ h) :: r) := by
  induction l with
  | nil => intro now; simp [spl, G.split]
  | cons c t ih =>
    intro now
    rw [spl, G.split]
    by_cases h : c = 47
    · rw [if_pos h, if_pos h, List.map_cons, ih]
      cases e : G.split t with
      | nil => exact absurd e (split_ne t)
      | cons a b => simp
    · rw [if_neg h, if_neg h, ih]
      cases G.split t <;> simp [ByteArray.data_append]
def splitS (s : ByteArray) : List ByteArray := spl ⟨#[]⟩ s.data.toList
theorem splitS_data (s : ByteArray) : (splitS s).map (fun p => p.data.toList) = G.split s.data.toList := by
  unfold splitS; rw [spl_data]
  have := split_ne s.data.toList
  cases h : G.split s.data.toList with
  | nil => exact absurd h this
  | cons a b => simp
theorem spl_len (l : List UInt8) : ∀ now, (spl now l).length ≤ l.length + 1 := by
  induction l with
  | nil => intro now; simp [spl]
  | cons c t ih => intro now; rw [spl]; split
                   · have := ih ⟨#[]⟩; simp; omega
                   · have := ih (now ++ ⟨#[c]⟩); simp; omega
theorem split_l0 (s : ByteArray) (hs : s.size < 4294967296) : ∀ (k i : Nat) (out : List ByteArray) (now : ByteArray), i ≤ s.size → s.size - i < k → out.length ≤ i → now.size ≤ i →
    imprimaturref13_Split.l0 k s out now (i : Int) = some (out ++ spl now (s.data.toList.drop i)) := by
  intro k
  induction k with
  | zero => intro i _ _ _ h; omega
  | succ k ih =>
    intro i out now hi hk ho hn
    rw [imprimaturref13_Split.l0]
    by_cases h : i < s.size
    · rw [if_pos (by omega), if_pos (by omega), bt_get s i h, w64 i (by omega), drop_cons s i h, spl]
      by_cases hc : s[i] = 47
      · rw [if_pos (by rw [hc]; rfl), if_pos (by omega), if_pos hc, ih (i + 1) _ _ (by omega) (by omega) (by simp; omega) (by simp [ByteArray.size])]
        simp
      · have hx : s.extract i (i + 1) = ⟨#[s[i]]⟩ := by
          apply ByteArray.ext; rw [ByteArray.data_extract]
          apply Array.ext
          · simp; have : s.data.size = s.size := rfl
            omega
          · intro j h1 h2
            have : j = 0 := by simpa using h2
            subst this; simp; rfl
        rw [if_neg (by intro e; exact hc (UInt8.toNat_inj.1 (by have : (47 : UInt8).toNat = 47 := rfl
                                                                omega))), if_pos (by omega), if_pos (by omega)]
        rw [show ((i : Nat) : Int).toNat = i from by simp, show ((i + 1 : Nat) : Int).toNat = i + 1 from Int.toNat_natCast _, hx]
        rw [if_pos (by have : (⟨#[s[i]]⟩ : ByteArray).size = 1 := rfl
                       omega), if_neg hc, ih (i + 1) _ _ (by omega) (by omega) (by omega) (by rw [ByteArray.size_append]; have : (⟨#[s[i]]⟩ : ByteArray).size = 1 := rfl
                                                                                              omega)]
    · rw [if_neg (by omega), if_pos (by omega), List.drop_eq_nil_of_le (by simp; omega)]; rfl
theorem split_f (s : ByteArray) (hs : s.size < 4294967296) (k : Nat) (hk : s.size < k) : imprimaturref13_Split.f k s = some (splitS s) := by
  unfold imprimaturref13_Split.f splitS
  exact split_l0 s hs k 0 [] ⟨#[]⟩ (by omega) (by omega) (by simp) (by simp [ByteArray.size])

/-! ### numbers and names of the reference -/
theorem dec_ge (l : List UInt8) : ∀ acc m, Lib.decFrom acc l = some m → acc ≤ m := by
  induction l with
  | nil => intro acc m h; simp only [Lib.decFrom] at h; have := Option.some.inj h; omega
  | cons b t ih =>
    intro acc m h
    simp only [Lib.decFrom] at h
    cases hd : Lib.digitVal b with
    | none => rw [hd] at h; cases h
    | some d => rw [hd] at h; have := ih _ _ h; omega
theorem dec_app (a b : List UInt8) : ∀ acc, Lib.decFrom acc (a ++ b) = (Lib.decFrom acc a).bind fun n => Lib.decFrom n b := by
  induction a with
  | nil => intro acc; rfl
  | cons c t ih =>
    intro acc
    rw [List.cons_append]
    simp only [Lib.decFrom]
    cases Lib.digitVal c with
    | none => rfl
    | some d => exact ih _
theorem numR_no (l : List UInt8) (h : ∀ v, v ≤ 1000000 → l ≠ Lib.decDigits v) : Nm.numR l = -1 := by
  unfold Nm.numR
  rw [if_neg]
  rintro ⟨v, hv, e⟩
  exact h v hv e
theorem w10 (n c : Nat) (h1 : n ≤ 1000000) (h2 : 48 ≤ c) (h3 : c ≤ 57) : wrap64 (wrap64 (10 * (n : Int)) + ((c : Int) - 48) % 256) = ((n * 10 + (c - 48) : Nat) : Int) := by
  have e1 : ((c : Int) - 48) % 256 = ((c - 48 : Nat) : Int) := by omega
  have e2 : wrap64 (10 * (n : Int)) = 10 * (n : Int) := by unfold wrap64; omega
  rw [e1, e2]
  have e3 : 10 * (n : Int) + ((c - 48 : Nat) : Int) = ((n * 10 + (c - 48) : Nat) : Int) := by omega
  rw [e3]
  unfold wrap64; omega
theorem number_l (l : List UInt8) (hl : l.length ≤ 1000) : ∀ (post pre : List UInt8) (n k : Nat), pre ++ post = l → Lib.decFrom 0 pre = some n → n ≤ 10000009 → post.length < k →
    imprimaturref20_number.l0 k (mkB l) (n : Int) (pre.length : Int) = some (Nm.numR l) := by
  have hsz : (mkB l).size = l.length := mkB_size l
  intro post
  induction post with
  | nil =>
    intro pre n k hp hn hn2 hk
    rw [List.append_nil] at hp
    subst hp
    obtain ⟨k', rfl⟩ : ∃ k', k = k' + 1 := ⟨k - 1, by simp at hk; omega⟩
    rw [imprimaturref20_number.l0, if_neg (by rw [hsz]; omega)]
    by_cases h6 : 1000000 < n
    · rw [if_pos (by omega), numR_no]
      intro v hv e
      have := Nm.dec_back v
      rw [← e, hn] at this
      have := Option.some.inj this; omega
    · rw [if_neg (by omega)]
      unfold strconv_Itoa.f
      rw [if_pos ⟨by omega, by omega⟩, Option.bind_some, Nm.itoa_nat, toList_list, toList_list, mkB_list, mkB_list]
      by_cases he : Lib.decDigits n = pre
      · rw [if_pos he, ← he, Nm.numR_dec (by omega)]
      · rw [if_neg he, numR_no]
        intro v hv e
        have := Nm.dec_back v
        rw [← e, hn] at this
        have := Option.some.inj this
        subst this
        exact he e.symm
  | cons c post ih =>
    intro pre n k hp hn hn2 hk
    obtain ⟨k', rfl⟩ : ∃ k', k = k' + 1 := ⟨k - 1, by simp at hk; omega⟩
    have hlen : pre.length < l.length := by rw [← hp]; simp
    have hbt : bt (mkB l) (pre.length : Int) = (c.toNat : Int) := by rw [← hp]; exact bt_app pre c post
    have hc8 := c.toNat_lt
    have hdig : ∀ v, l = Lib.decDigits v → 48 ≤ c.toNat ∧ c.toNat ≤ 57 := fun v e => Nm.dec_digit v c (by rw [← e, ← hp]; simp)
    rw [imprimaturref20_number.l0, if_pos (by rw [hsz]; omega), if_pos (by omega), hbt]
    by_cases h1 : c.toNat < 48
    · rw [if_pos (by omega), numR_no]
      intro v hv e; have := hdig v e; omega
    · rw [if_neg (by omega)]
      by_cases h2 : 57 < c.toNat
      · rw [if_pos (by omega), numR_no]
        intro v hv e; have := hdig v e; omega
      · rw [if_neg (by omega)]
        by_cases h3 : 1000000 < n
        · rw [if_pos (by omega), numR_no]
          intro v hv e
          have hb := Nm.dec_back v
          rw [← e, ← hp, dec_app, hn, Option.bind_some] at hb
          have := dec_ge _ _ _ hb; omega
        · rw [if_neg (by omega)]
          have hd : Lib.digitVal c = some (c.toNat - 48) := by unfold Lib.digitVal; rw [if_pos (by omega)]
          have hn' : Lib.decFrom 0 (pre ++ [c]) = some (n * 10 + (c.toNat - 48)) := by rw [dec_app, hn, Option.bind_some]; simp only [Lib.decFrom, hd]
          have hw : wrap64 (wrap64 (10 * (n : Int)) + ((c.toNat : Int) - 48) % 256) = ((n * 10 + (c.toNat - 48) : Nat) : Int) := w10 n c.toNat (by omega) (by omega) (by omega)
          have hw2 : wrap64 ((pre.length : Int) + 1) = (((pre ++ [c]).length : Nat) : Int) := by unfold wrap64; simp; omega
          rw [hw, hw2]
          exact ih (pre ++ [c]) _ k' (by rw [← hp]; simp) hn' (by omega) (by simp at hk; omega)
theorem number_f (s : ByteArray) (hs : s.size ≤ 1000) (k : Nat) (hk : s.size < k) : imprimaturref20_number.f k s = some (Nm.numR s.data.toList) := by
  have := number_l s.data.toList (by rw [size_list]; exact hs) s.data.toList [] 0 k rfl rfl (by omega) (by rw [size_list]; exact hk)
  rw [mkB_data] at this
  exact this
theorem name_l (l : List UInt8) (hl : l.length ≤ 1000) : ∀ (post pre : List UInt8) (k : Nat), pre ++ post = l → pre.all Nm.plainR = true → post.length < k →
    imprimaturref15_Name.l0 k (mkB l) (pre.length : Int) = some (Nm.nameOk l) := by
  have hsz : (mkB l).size = l.length := mkB_size l
  intro post
  induction post with
  | nil =>
    intro pre k hp ha hk
    rw [List.append_nil] at hp
    subst hp
    obtain ⟨k', rfl⟩ : ∃ k', k = k' + 1 := ⟨k - 1, by simp at hk; omega⟩
    rw [imprimaturref15_Name.l0, if_neg (by rw [hsz]; omega), hsz]
    unfold Nm.nameOk
    rw [ha]
    by_cases h1 : 0 < pre.length
    · rw [if_pos (by omega)]
      refine congrArg some ?_
      rw [Bool.eq_iff_iff]
      simp
      try omega
    · rw [if_neg (by omega)]
      refine congrArg some ?_
      rw [Bool.eq_iff_iff]
      simp
      try omega
  | cons c post ih =>
    intro pre k hp ha hk
    obtain ⟨k', rfl⟩ : ∃ k', k = k' + 1 := ⟨k - 1, by simp at hk; omega⟩
    have hlen : pre.length < l.length := by rw [← hp]; simp
    have hbt : bt (mkB l) (pre.length : Int) = (c.toNat : Int) := by rw [← hp]; exact bt_app pre c post
    have hw2 : wrap64 ((pre.length : Int) + 1) = (((pre ++ [c]).length : Nat) : Int) := by unfold wrap64; simp; omega
    have hpl := Nm.plain_int c
    have hgo : Nm.plainR c = true → imprimaturref15_Name.l0 k' (mkB l) (wrap64 ((pre.length : Int) + 1)) = some (Nm.nameOk l) := fun h => by
      rw [hw2]
      exact ih (pre ++ [c]) k' (by rw [← hp]; simp) (by rw [List.all_append, ha]; simp [h]) (by simp at hk; omega)
    have hno : Nm.plainR c = false → some false = some (Nm.nameOk l) := fun h => by
      congr 1
      unfold Nm.nameOk
      rw [← hp, List.all_append, List.all_cons, h]; simp
    have e : Nm.plainR c = true ↔ ((97 ≤ (c.toNat : Int) ∧ (c.toNat : Int) ≤ 122) ∨ (48 ≤ (c.toNat : Int) ∧ (c.toNat : Int) ≤ 57) ∨ (c.toNat : Int) = 45) := by
      unfold Nm.dropPlain at hpl
      constructor
      · intro h
        rw [if_pos h] at hpl
        apply Classical.byContradiction
        intro hn
        rw [if_neg hn] at hpl; omega
      · intro h
        rw [if_pos h] at hpl
        cases hc : Nm.plainR c with
        | true => rfl
        | false => exfalso; rw [hc] at hpl; first | (simp at hpl; done) | (simp at hpl; omega)
    have yes : ((97 ≤ (c.toNat : Int) ∧ (c.toNat : Int) ≤ 122) ∨ (48 ≤ (c.toNat : Int) ∧ (c.toNat : Int) ≤ 57) ∨ (c.toNat : Int) = 45) → imprimaturref15_Name.l0 k' (mkB l) (wrap64 ((pre.length : Int) + 1)) = some (Nm.nameOk l) := fun h => hgo (e.2 h)
    have no : ¬ ((97 ≤ (c.toNat : Int) ∧ (c.toNat : Int) ≤ 122) ∨ (48 ≤ (c.toNat : Int) ∧ (c.toNat : Int) ≤ 57) ∨ (c.toNat : Int) = 45) → some false = some (Nm.nameOk l) := fun h => hno (Bool.eq_false_iff.2 (fun h' => h (e.1 h')))
    clear hgo hno e hpl ih
    rw [imprimaturref15_Name.l0, if_pos (by rw [hsz]; omega), if_pos (by omega), hbt]
    repeat' split
    all_goals first
      | exact yes (by omega)
      | exact no (by omega)
theorem name_f (s : ByteArray) (hs : s.size ≤ 1000) (k : Nat) (hk : s.size < k) : imprimaturref15_Name.f k s = some (Nm.nameOk s.data.toList) := by
  have := name_l s.data.toList (by rw [size_list]; exact hs) s.data.toList [] k rfl rfl (by rw [size_list]; exact hk)
  rw [mkB_data] at this
  exact this
end Go.Proofs.YtmgkgjacnbeboaaDoor.D
