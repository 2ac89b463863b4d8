/- What the printed functions of octet and of its reference come to, in plain lists. -/
import Derived.Test.YtcofnmeocpedoaaE
import Derived.Test.YtcofnmeocpedoaaX1
import Derived.Test.YtcofnmeocpedoaaX2
import Derived.Test.YtcofnmeocpedoaaX3
import Derived.Test.YtcofnmeocpedoaaX4
import Derived.Test.YtcofnmeocpedoaaX5
import Derived.Test.YtcofnmeocpedoaaX6
import Derived.Test.YtcofnmeocpedoaaX7
import Derived.Test.YtcofnmeocpedoaaX8
import Derived.Test.YtcofnmeocpedoaaX9
set_option linter.unusedVariables false
set_option linter.unusedSimpArgs false
namespace Go.Proofs.Ytcofnmeocpedoaa.D
open Go.RowKit Go.Proofs.YtcofnmeocpedoaaW.PrintWords Go.Proofs.YtcofnmeocpedoaaW.PrintLast Go.Proofs.YtcofnmeocpedoaaW.PrintMore
open S X E

theorem mkB_get (l : List UInt8) (i : Nat) (h : i < (mkB l).size) (h' : i < l.length) : (mkB l)[i] = l[i] := rfl
theorem bt_nat (l : List UInt8) (i : Nat) (h : i < l.length) : bt (mkB l) (i : Int) = (l[i].toNat : Int) := by
  unfold bt
  rw [dif_pos (by rw [Int.toNat_natCast, mkB_size]; simpa using h)]
  have := mkB_get l i (by rw [mkB_size]; exact h) h
  exact congrArg (fun c : UInt8 => (c.toNat : Int)) this
theorem bt_app (pre : List UInt8) (c : UInt8) (post : List UInt8) : bt (mkB (pre ++ c :: post)) (pre.length : Int) = (c.toNat : Int) := by
  rw [bt_nat _ _ (by simp), List.getElem_append_right (by omega)]
  simp
theorem num_le (l : List UInt8) (k : Nat) (h : l.length ≤ k) : num l < 256 ^ k := Nat.lt_of_lt_of_le (num_lt l) (Nat.pow_le_pow_right (by omega) h)
theorem or_step (n c : Nat) (hn : n < 256 ^ 7) (hc : c < 256) : Go.bits .or .u64 (IntKind.u64.wrap ((n : Int) * 256)) (IntKind.u64.wrap (c : Int)) = ((256 * n + c : Nat) : Int) := by
  rw [u64_id (by omega) (by omega), u64_id (by omega) (by omega)]
  rw [show (n : Int) * 256 = ((n * 256 : Nat) : Int) from by omega, u64_or_nat _ _ (by omega) (by omega)]
  have := Nat.shiftLeft_add_eq_or_of_lt (show c < 2 ^ 8 from hc) n
  rw [Nat.shiftLeft_eq] at this
  rw [show n * 256 = n * 2 ^ 8 from rfl, ← this]
  congr 1; omega

theorem number_l (l : List UInt8) (hl : l.length ≤ 8) : ∀ (post pre : List UInt8) (k : Nat), pre ++ post = l → post.length < k → octet_Number.l0 k (mkB l) (num pre) (l.length : Int) (pre.length : Int) = some ((num l : Int), (0 : Int))
  | [], pre, k, h, hk => by
    obtain ⟨k, rfl⟩ : ∃ m, k = m + 1 := ⟨k - 1, by omega⟩
    rw [List.append_nil] at h
    subst h
    simp only [octet_Number.l0]
    rw [if_neg (by omega)]
  | c :: post, pre, k, h, hk => by
    obtain ⟨k, rfl⟩ : ∃ m, k = m + 1 := ⟨k - 1, by omega⟩
    have hlen : pre.length < l.length := by rw [← h]; simp
    have := number_l l hl post (pre ++ [c]) k (by simpa using h) (by simp at hk; omega)
    simp only [octet_Number.l0]
    rw [if_pos (by omega), if_pos (by omega), if_pos (by rw [mkB_size]; omega)]
    have e : bt (mkB l) (pre.length : Int) = (c.toNat : Int) := by rw [← h]; exact bt_app pre c post
    rw [e, or_step (num pre) c.toNat (num_le pre 7 (by omega)) c.toNat_lt, ← num_snoc, wrap64_id (by omega) (by omega)]
    simpa using this
theorem number_f (s : ByteArray) (k : Nat) (hk : 8 < k) : octet_Number.f k s = some (if 8 < s.size then ((0 : Int), (1 : Int)) else ((num s.data.toList : Int), 0)) := by
  unfold octet_Number.f
  by_cases h : 8 < s.size
  · rw [if_pos h, if_pos (by omega)]
  · rw [if_neg h, if_neg (by omega)]
    have := number_l s.data.toList (by rw [size_list]; omega) s.data.toList [] k rfl (by rw [size_list]; omega)
    rw [mkB_data, size_list] at this
    exact this

/-! the reference's -/
theorem rnumber_l (l : List UInt8) (hl : l.length ≤ 8) : ∀ (post pre : List UInt8) (k : Nat), pre ++ post = l → post.length < k → imprimaturref01_Number.l0 k (mkB l) (num pre) (pre.length : Int) = some (num l : Int)
  | [], pre, k, h, hk => by
    obtain ⟨k, rfl⟩ : ∃ m, k = m + 1 := ⟨k - 1, by omega⟩
    rw [List.append_nil] at h
    subst h
    simp only [imprimaturref01_Number.l0]
    rw [if_neg (by rw [mkB_size]; omega)]
  | c :: post, pre, k, h, hk => by
    obtain ⟨k, rfl⟩ : ∃ m, k = m + 1 := ⟨k - 1, by omega⟩
    have hlen : pre.length < l.length := by rw [← h]; simp
    have := rnumber_l l hl post (pre ++ [c]) k (by simpa using h) (by simp at hk; omega)
    simp only [imprimaturref01_Number.l0]
    rw [if_pos (by rw [mkB_size]; omega), if_pos (by omega)]
    have e : bt (mkB l) (pre.length : Int) = (c.toNat : Int) := by rw [← h]; exact bt_app pre c post
    have hn := num_le pre 7 (by omega)
    have hc := c.toNat_lt
    rw [e, u64_id (x := 256 * (num pre : Int)) (by omega) (by omega), u64_id (x := (c.toNat : Int)) (by omega) (by omega), u64_id (by omega) (by omega), wrap64_id (by omega) (by omega)]
    rw [num_snoc] at this
    simpa using this
theorem rnumber_f (s : ByteArray) (hs : s.size ≤ 8) (k : Nat) (hk : 8 < k) : imprimaturref01_Number.f k s = some (num s.data.toList : Int) := by
  unfold imprimaturref01_Number.f
  have := rnumber_l s.data.toList (by rw [size_list]; omega) s.data.toList [] k rfl (by rw [size_list]; omega)
  rw [mkB_data] at this
  exact this

theorem fits_l (x1 : Nat) (hx : x1 ≤ 8) : ∀ (d i n k : Nat), i + d = x1 → n < 18446744073709551616 → d < k → imprimaturref01_Fits.l0 k (n : Int) (x1 : Int) (i : Int) = some (decide (n / 256 ^ d = 0))
  | 0, i, n, k, h, hn, hk => by
    obtain ⟨k, rfl⟩ : ∃ m, k = m + 1 := ⟨k - 1, by omega⟩
    simp only [imprimaturref01_Fits.l0]
    rw [if_neg (by omega)]
    congr 1
    rw [Nat.pow_zero, Nat.div_one, Bool.eq_iff_iff]; simp
  | d + 1, i, n, k, h, hn, hk => by
    obtain ⟨k, rfl⟩ : ∃ m, k = m + 1 := ⟨k - 1, by omega⟩
    have := fits_l x1 hx d (i + 1) (n / 256) k (by omega) (by omega) (by omega)
    rw [Nat.div_div_eq_div_mul, ← Nat.pow_succ'] at this
    simp only [imprimaturref01_Fits.l0]
    rw [if_pos (by omega), Int.tdiv_eq_ediv_of_nonneg (by omega), u64_id (by omega) (by omega), wrap64_id (by omega) (by omega)]
    exact this
theorem fits_f (n wd : Nat) (hn : n < 18446744073709551616) (hw : wd ≤ 8) (k : Nat) (hk : 8 < k) : imprimaturref01_Fits.f k (n : Int) (wd : Int) = some (decide (n / 256 ^ wd = 0)) := fits_l wd hw wd 0 n k (by omega) hn (by omega)

theorem strOfNums_one (n : Nat) (h : n < 256) : strOfNums [(n : Int)] = mkB [UInt8.ofNat n] := by simp [strOfNums, mkB]
theorem rbig_l (x1 : Nat) (hx : x1 ≤ 8) : ∀ (d i n : Nat) (out : List UInt8) (k : Nat), i + d = x1 → n < 18446744073709551616 → out.length = i → d < k → imprimaturref01_Big.l0 k (n : Int) (x1 : Int) (mkB out) (i : Int) = some (mkB (be d n ++ out))
  | 0, i, n, out, k, h, hn, ho, hk => by
    obtain ⟨k, rfl⟩ : ∃ m, k = m + 1 := ⟨k - 1, by omega⟩
    simp only [imprimaturref01_Big.l0]
    rw [if_neg (by omega)]; rfl
  | d + 1, i, n, out, k, h, hn, ho, hk => by
    obtain ⟨k, rfl⟩ : ∃ m, k = m + 1 := ⟨k - 1, by omega⟩
    have := rbig_l x1 hx d (i + 1) (n / 256) (UInt8.ofNat (n % 256) :: out) k (by omega) (by omega) (by simp; omega) (by omega)
    simp only [imprimaturref01_Big.l0, Option.bind_some]
    have e : (n : Int).tmod 256 % 256 = ((n % 256 : Nat) : Int) := by rw [Int.tmod_eq_emod_of_nonneg (by omega)]; omega
    rw [if_pos (by omega), Int.tdiv_eq_ediv_of_nonneg (by omega), u64_id (by omega) (by omega), wrap64_id (by omega) (by omega), e, strOfNums_one _ (by omega), if_pos (by rw [mkB_size, mkB_size]; simp; omega), mkB_append, be, List.append_assoc]
    exact this
theorem rbig_f (n wd : Nat) (hn : n < 18446744073709551616) (hw : wd ≤ 8) (k : Nat) (hk : 8 < k) : imprimaturref01_Big.f k (n : Int) (wd : Int) = some (mkB (be wd n)) := by
  have := rbig_l wd hw wd 0 n [] k (by omega) hn rfl (by omega)
  rw [List.append_nil] at this
  exact this

/-! hexadecimal digits -/
abbrev numsOf (l : List UInt8) : List Int := l.map fun c => (c.toNat : Int)
def dig? (c : UInt8) : Int := match undig c with | some n => (n : Int) | none => -1
theorem idx (c : UInt8) : strings_IndexByte.f (⟨#[48, 49, 50, 51, 52, 53, 54, 55, 56, 57, 97, 98, 99, 100, 101, 102]⟩ : ByteArray) (c.toNat : Int) = some (dig? c) := by
  have h : dig? c = Lib.indexByte digs c := by
    have := undig_index c
    unfold dig?
    cases h : undig c <;> rw [h] at this <;> exact this
  rw [strings_IndexByte.f, h]
  simp [digs]
theorem or16 : ∀ x y : Fin 16, Go.bits .or .i64 (wrap64 ((x.val : Int) * 16)) (y.val : Int) % 256 = ((16 * x.val + y.val : Nat) : Int) := by decide +kernel
theorem toNat_ofNat16 {x y : Nat} (hx : x < 16) (hy : y < 16) : (UInt8.ofNat (16 * x + y)).toNat = 16 * x + y := by simp; omega
theorem unhex_cons (a b : UInt8) (r : List UInt8) : unhex (a :: b :: r) = match undig a, undig b with | some x, some y => (unhex r).map (fun l => UInt8.ofNat (16 * x + y) :: l) | _, _ => none := by rw [unhex]; rfl
def uRes (acc : List UInt8) : Option (List UInt8) → ByteArray × Int
  | some r => (mkB (acc ++ r), 0)
  | none => (mkB [], 4)
theorem unhex_l : ∀ (l acc : List UInt8) (k : Nat), acc.length + l.length < 70368744177664 → l.length < k → octet_Unhex.l0 k (mkB l) (numsOf acc) = some (uRes acc (unhex l))
  | [], acc, k, hl, hk => by
    obtain ⟨k, rfl⟩ : ∃ m, k = m + 1 := ⟨k - 1, by omega⟩
    simp only [octet_Unhex.l0]
    rw [if_neg (by rw [mkB_size]; simp), if_pos (by rw [toList_list, mkB_list]), strOfNums_bytes]
    simp [unhex, uRes]
  | [a], acc, k, hl, hk => by
    obtain ⟨k, rfl⟩ : ∃ m, k = m + 1 := ⟨k - 1, by omega⟩
    simp only [octet_Unhex.l0]
    rw [if_neg (by rw [mkB_size]; simp), if_neg (by rw [toList_list, mkB_list]; simp)]
    simp [unhex, uRes, mkB]
  | a :: b :: r, acc, k, hl, hk => by
    obtain ⟨k, rfl⟩ : ∃ m, k = m + 1 := ⟨k - 1, by omega⟩
    have e0 : bt (mkB (a :: b :: r)) 0 = (a.toNat : Int) := bt_nat (a :: b :: r) 0 (by simp)
    have e1 : bt (mkB (a :: b :: r)) 1 = (b.toNat : Int) := bt_nat (a :: b :: r) 1 (by simp)
    have hs : (mkB (a :: b :: r)).size = r.length + 2 := by rw [mkB_size]; simp
    simp only [octet_Unhex.l0, e0, e1, idx, Option.bind_some]
    rw [if_pos (by rw [hs]; omega), if_pos (by rw [hs]; omega), if_pos (by rw [hs]; omega), unhex_cons]
    cases ha : undig a with
    | none => rw [show dig? a = -1 from by rw [dig?, ha], if_pos (by omega)]; simp [uRes, mkB]
    | some x =>
      have hx := undig_lt ha
      rw [show dig? a = (x : Int) from by rw [dig?, ha], if_neg (by omega)]
      cases hb : undig b with
      | none => rw [show dig? b = -1 from by rw [dig?, hb], if_pos (by omega)]; simp [uRes, mkB]
      | some y =>
        have hy := undig_lt hb
        have e2 : (mkB (a :: b :: r)).extract 2 (mkB (a :: b :: r)).size = mkB r := by
          rw [hs, mkB_extract]; simp
        have e3 : numsOf acc ++ [Go.bits .or .i64 (wrap64 ((x : Int) * 16)) (y : Int) % 256] = numsOf (acc ++ [UInt8.ofNat (16 * x + y)]) := by
          rw [or16 ⟨x, hx⟩ ⟨y, hy⟩]
          simp only [numsOf, List.map_append, List.map_cons, List.map_nil, toNat_ofNat16 hx hy]
        rw [show dig? b = (y : Int) from by rw [dig?, hb], if_neg (by omega), if_pos (by simp at hl ⊢; omega), if_pos (by rw [hs]; omega), e2, e3, unhex_l r _ k (by simp at hl ⊢; omega) (by simp at hk; omega)]
        cases unhex r <;> simp [uRes]
theorem unhex_f (s : ByteArray) (hs : s.size < 70368744177664) (k : Nat) (hk : s.size < k) : octet_Unhex.f k s = some (uRes [] (unhex s.data.toList)) := by
  have := unhex_l s.data.toList [] k (by simp; omega) (by rw [size_list]; exact hk)
  rw [mkB_data] at this
  exact this
theorem rdigit (k : Nat) (c : UInt8) : imprimaturref01_digit.f (k + 1) (c.toNat : Int) = some (dig? c) := by
  have hc := c.toNat_lt
  have g : (∃ n : Nat, undig c = some n ∧ 48 ≤ c.toNat ∧ c.toNat ≤ 57 ∧ n = c.toNat - 48) ∨ (∃ n : Nat, undig c = some n ∧ 97 ≤ c.toNat ∧ c.toNat ≤ 102 ∧ n = c.toNat - 87) ∨ (undig c = none ∧ ¬ (48 ≤ c.toNat ∧ c.toNat ≤ 57) ∧ ¬ (97 ≤ c.toNat ∧ c.toNat ≤ 102)) := by
    unfold undig
    by_cases h1 : 48 ≤ c.toNat ∧ c.toNat ≤ 57
    · rw [if_pos h1]; exact .inl ⟨_, rfl, h1.1, h1.2, rfl⟩
    · rw [if_neg h1]
      by_cases h2 : 97 ≤ c.toNat ∧ c.toNat ≤ 102
      · rw [if_pos h2]; exact .inr (.inl ⟨_, rfl, h2.1, h2.2, rfl⟩)
      · rw [if_neg h2]; exact .inr (.inr ⟨rfl, h1, h2⟩)
  simp only [imprimaturref01_digit.f, imprimaturref01_digit.j0, dig?]
  rcases g with ⟨n, hu, h1, h2, rfl⟩ | ⟨n, hu, h1, h2, rfl⟩ | ⟨hu, h1, h2⟩
  · rw [hu, if_pos (by omega), if_pos (by rw [decide_eq_true_iff]; omega)]
    simp only; congr 1; omega
  · rw [hu, if_pos (by omega), if_neg (by rw [decide_eq_true_iff]; omega), if_pos (by omega), if_pos (by omega)]
    simp only; congr 1; omega
  · rw [hu]
    by_cases h3 : 48 ≤ c.toNat
    · rw [if_pos (by omega), if_neg (by rw [decide_eq_true_iff]; omega)]
      by_cases h4 : 97 ≤ c.toNat
      · rw [if_pos (by omega), if_neg (by omega)]
      · rw [if_neg (by omega)]
    · rw [if_neg (by omega), if_neg (by simp), if_neg (by omega)]
def rRes (acc : List UInt8) : Option (List UInt8) → ByteArray × Bool
  | some r => (mkB (acc ++ r), true)
  | none => (mkB [], false)
theorem add16 : ∀ x y : Fin 16, wrap64 (wrap64 (16 * (x.val : Int)) + (y.val : Int)) % 256 = ((16 * x.val + y.val : Nat) : Int) := by decide +kernel
theorem runhex_l (l : List UInt8) (hl : l.length < 70368744177664) : ∀ (post pre acc : List UInt8) (k : Nat), pre ++ post = l → pre.length % 2 = 0 → acc.length ≤ pre.length → 2 * post.length + 3 < k → imprimaturref01_Unhex.l0 k (mkB l) (numsOf acc) (pre.length : Int) = some (rRes acc (unhex post))
  | [], pre, acc, k, h, h2, ha, hk => by
    obtain ⟨k, rfl⟩ : ∃ m, k = m + 1 := ⟨k - 1, by omega⟩
    have hs : (mkB l).size = pre.length := by rw [mkB_size, ← h]; simp
    simp only [imprimaturref01_Unhex.l0, hs]
    rw [wrap64_id (by omega) (by rw [← h] at hl; simp at hl; omega), if_neg (by omega), if_neg (by omega), strOfNums_bytes]
    simp [unhex, rRes]
  | [a], pre, acc, k, h, h2, ha, hk => by
    obtain ⟨k, rfl⟩ : ∃ m, k = m + 1 := ⟨k - 1, by omega⟩
    have hs : (mkB l).size = pre.length + 1 := by rw [mkB_size, ← h]; simp
    simp only [imprimaturref01_Unhex.l0, hs]
    rw [wrap64_id (by omega) (by rw [← h] at hl; simp at hl; omega), if_neg (by omega), if_pos (by omega)]
    simp [unhex, rRes, mkB]
  | a :: b :: r, pre, acc, k, h, h2, ha, hk => by
    obtain ⟨k, rfl⟩ : ∃ m, k = m + 3 := ⟨k - 3, by omega⟩
    have hs : (mkB l).size = pre.length + (r.length + 2) := by rw [mkB_size, ← h]; simp
    have hl' : pre.length + (r.length + 2) < 70368744177664 := by rw [← hs, mkB_size]; exact hl
    have e0 : bt (mkB l) (pre.length : Int) = (a.toNat : Int) := by rw [← h]; exact bt_app pre a (b :: r)
    have ew : wrap64 ((pre.length : Int) + 1) = ((pre ++ [a]).length : Int) := by rw [wrap64_id (by omega) (by omega)]; simp
    have ew2 : wrap64 ((pre.length : Int) + 2) = ((pre ++ [a, b]).length : Int) := by rw [wrap64_id (by omega) (by omega)]; simp
    have e1 : bt (mkB l) ((pre ++ [a]).length : Int) = (b.toNat : Int) := by
      have : l = (pre ++ [a]) ++ b :: r := by rw [← h]; simp
      rw [this]; exact bt_app (pre ++ [a]) b r
    have hp1 : ((pre ++ [a]).length : Int) = pre.length + 1 := by simp
    rw [imprimaturref01_Unhex.l0]
    simp only [imprimaturref01_Unhex.j1, ew, ew2, e0, e1, rdigit, Option.bind_some]
    rw [if_pos (by rw [hs, hp1]; omega), if_pos (by omega), if_pos (by rw [hs]; omega), unhex_cons]
    cases hda : undig a with
    | none => rw [show dig? a = -1 from by rw [dig?, hda], if_pos (by omega)]; simp [rRes, mkB]
    | some x =>
      have hx := undig_lt hda
      rw [show dig? a = (x : Int) from by rw [dig?, hda], if_neg (by omega), if_pos (by omega)]
      cases hdb : undig b with
      | none => rw [show dig? b = -1 from by rw [dig?, hdb], if_pos (by simp)]; simp [rRes, mkB]
      | some y =>
        have hy := undig_lt hdb
        have e3 : numsOf acc ++ [wrap64 (wrap64 (16 * (x : Int)) + (y : Int)) % 256] = numsOf (acc ++ [UInt8.ofNat (16 * x + y)]) := by
          rw [add16 ⟨x, hx⟩ ⟨y, hy⟩]
          simp only [numsOf, List.map_append, List.map_cons, List.map_nil, toNat_ofNat16 hx hy]
        rw [show dig? b = (y : Int) from by rw [dig?, hdb], if_neg (by simp), if_pos (by omega), if_pos (by rw [hs]; omega), if_pos (by rw [hp1]; omega), if_pos (by rw [hs, hp1]; omega), if_pos (by simp; omega), e3, runhex_l l hl r (pre ++ [a, b]) (acc ++ [UInt8.ofNat (16 * x + y)]) (k + 1) (by simpa using h) (by simp; omega) (by simp; omega) (by simp at hk; omega)]
        cases unhex r <;> simp [rRes]
theorem runhex_f (s : ByteArray) (hs : s.size < 70368744177664) (k : Nat) (hk : 2 * s.size + 3 < k) : imprimaturref01_Unhex.f k s = some (rRes [] (unhex s.data.toList)) := by
  have := runhex_l s.data.toList (by rw [size_list]; exact hs) s.data.toList [] [] k rfl rfl (Nat.le_refl _) (by rw [size_list]; exact hk)
  rw [mkB_data] at this
  exact this
theorem bt_digs : ∀ n : Fin 16, bt (⟨#[48, 49, 50, 51, 52, 53, 54, 55, 56, 57, 97, 98, 99, 100, 101, 102]⟩ : ByteArray) (n.val : Int) = ((digs.getD n.val 0).toNat : Int) := by decide +kernel
theorem rhex_l (l : List UInt8) (hl : l.length < 70368744177664) : ∀ (post pre : List UInt8) (k : Nat), pre ++ post = l → post.length < k → imprimaturref01_Hex.l0 k (mkB l) (numsOf (hexs pre)) (pre.length : Int) = some (mkB (hexs l))
  | [], pre, k, h, hk => by
    obtain ⟨k, rfl⟩ : ∃ m, k = m + 1 := ⟨k - 1, by omega⟩
    rw [List.append_nil] at h
    subst h
    simp only [imprimaturref01_Hex.l0]
    rw [if_neg (by rw [mkB_size]; omega), strOfNums_bytes]
  | c :: post, pre, k, h, hk => by
    obtain ⟨k, rfl⟩ : ∃ m, k = m + 1 := ⟨k - 1, by omega⟩
    have hs : (mkB l).size = pre.length + (post.length + 1) := by rw [mkB_size, ← h]; simp
    have hl' : pre.length + (post.length + 1) < 70368744177664 := by rw [← hs, mkB_size]; exact hl
    have e0 : bt (mkB l) (pre.length : Int) = (c.toNat : Int) := by rw [← h]; exact bt_app pre c post
    have hc := c.toNat_lt
    have q1 : (c.toNat : Int).tdiv 16 % 256 = ((c.toNat / 16 : Nat) : Int) := by rw [Int.tdiv_eq_ediv_of_nonneg (by omega)]; omega
    have q2 : (c.toNat : Int).tmod 16 = ((c.toNat % 16 : Nat) : Int) := by rw [Int.tmod_eq_emod_of_nonneg (by omega)]; omega
    have b1 := bt_digs ⟨c.toNat / 16, by omega⟩
    have b2 := bt_digs ⟨c.toNat % 16, by omega⟩
    simp only at b1 b2
    simp only [imprimaturref01_Hex.l0, e0, q1, q2, b1, b2, Option.bind_some]
    have hx := hexs_length pre
    have e3 : numsOf (hexs pre) ++ [((digs.getD (c.toNat / 16) 0).toNat : Int), ((digs.getD (c.toNat % 16) 0).toNat : Int)] = numsOf (hexs (pre ++ [c])) := by
      rw [hexs_append]; simp [numsOf, hexs, hex1]
    rw [if_pos (by rw [hs]; omega), if_pos (by omega), if_pos (by omega), if_pos (by omega), if_pos (by omega), if_pos (by omega), if_pos (by simp [hx]; omega), e3, wrap64_id (by omega) (by omega)]
    have := rhex_l l hl post (pre ++ [c]) k (by simpa using h) (by simp at hk; omega)
    simpa using this
theorem rhex_f (s : ByteArray) (hs : s.size < 70368744177664) (k : Nat) (hk : s.size < k) : imprimaturref01_Hex.f k s = some (mkB (hexs s.data.toList)) := by
  have := rhex_l s.data.toList (by rw [size_list]; exact hs) s.data.toList [] k rfl (by rw [size_list]; exact hk)
  rw [mkB_data] at this
  exact this
end Go.Proofs.Ytcofnmeocpedoaa.D
