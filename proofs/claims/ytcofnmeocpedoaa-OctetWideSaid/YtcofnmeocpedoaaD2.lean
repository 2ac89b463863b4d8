/- What the printed functions on parts come to, in plain lists. -/
import Derived.Test.YtcofnmeocpedoaaD
import Derived.Test.YtcofnmeocpedoaaX12
import Derived.Test.YtcofnmeocpedoaaX13
import Derived.Test.YtcofnmeocpedoaaX14
import Derived.Test.YtcofnmeocpedoaaX15
set_option linter.unusedVariables false
set_option linter.unusedSimpArgs false
namespace Go.Proofs.Ytcofnmeocpedoaa.D
open Go.RowKit Go.Proofs.YtcofnmeocpedoaaW.PrintWords Go.Proofs.YtcofnmeocpedoaaW.PrintLast Go.Proofs.YtcofnmeocpedoaaW.PrintMore
open S X E

theorem num4 (t : List UInt8) : num (t.take 4) < 4294967296 := by
  have := num_le (t.take 4) 4 (List.length_take_le _ _)
  omega
theorem unpack_l : ∀ (k : Nat) (t : List UInt8) (acc : List (List UInt8)), t.length ≤ 65536 → acc.length ≤ 64 → t.length + 9 < k →
    octet_Unpack.l0 k (mkB t) (acc.map mkB) = some ((unp (t.length + 1) acc.length t acc).1.map mkB, (unp (t.length + 1) acc.length t acc).2)
  | 0, t, acc, ht, ha, hk => by omega
  | k + 1, t, acc, ht, ha, hk => by
    rw [unp]
    simp only [octet_Unpack.l0, toList_list, mkB_list, List.length_map, mkB_size]
    by_cases c1 : t = []
    · rw [if_pos c1, if_pos c1]
    · rw [if_neg c1, if_neg c1]
      by_cases c2 : acc.length = 64
      · rw [if_pos (by omega), if_pos c2]; simp
      · rw [if_neg (by omega), if_neg c2]
        by_cases c3 : t.length < 4
        · rw [if_pos (by omega), if_pos c3]; simp
        · have hn := num4 t
          have e4 : (mkB t).extract 0 4 = mkB (t.take 4) := by rw [mkB_extract]; simp
          have ed : (mkB t).extract 4 t.length = mkB (t.drop 4) := by rw [mkB_extract]; congr 1; exact List.take_of_length_le (by simp)
          have hnum : octet_Number.f k (mkB (t.take 4)) = some ((num (t.take 4) : Int), 0) := by
            rw [number_f _ k (by omega), if_neg (by rw [mkB_size, List.length_take]; omega), mkB_list]
          have hdl : (t.drop 4).length = t.length - 4 := by simp
          rw [if_neg (by omega), if_pos (by omega), if_pos (by omega), if_neg c3, e4, ed]
          simp only [hnum, Option.bind_some, mkB_size, hdl]
          rw [u64_id (by omega) (by omega)]
          by_cases c4 : t.length - 4 < num (t.take 4)
          · rw [if_pos (by omega), if_pos c4]; simp
          · rw [if_neg (by omega), if_pos (by omega), if_pos (by omega), if_pos (by omega), if_neg c4, Int.toNat_natCast, mkB_extract, mkB_extract]
            have e5 : ((t.drop 4).drop (num (t.take 4))).take (t.length - 4 - num (t.take 4)) = (t.drop 4).drop (num (t.take 4)) := List.take_of_length_le (by simp; omega)
            have e6 : ((t.drop 4).drop 0).take (num (t.take 4) - 0) = (t.drop 4).take (num (t.take 4)) := by simp
            have e7 : acc.map mkB ++ [mkB ((t.drop 4).take (num (t.take 4)))] = (acc ++ [(t.drop 4).take (num (t.take 4))]).map mkB := by simp
            rw [e5, e6, e7, unpack_l k _ (acc ++ [(t.drop 4).take (num (t.take 4))]) (by simp; omega) (by simp; omega) (by simp; omega)]
            rw [show (acc ++ [(t.drop 4).take (num (t.take 4))]).length = acc.length + 1 from by simp]
            rw [unp_fuel _ t.length (acc.length + 1) ((t.drop 4).drop (num (t.take 4))) _ (by omega) (by simp; omega)]
theorem unpack_f (s : ByteArray) (k : Nat) (hk : 70000 < k) : octet_Unpack.f k s = some ((unpack s.data.toList).1.map mkB, (unpack s.data.toList).2) := by
  unfold octet_Unpack.f unpack
  rw [size_list]
  by_cases h : 65536 < s.size
  · rw [if_pos (by omega), if_pos h]; simp
  · rw [if_neg (by omega), if_neg h]
    have := unpack_l k s.data.toList [] (by rw [size_list]; omega) (by simp) (by rw [size_list]; omega)
    rw [mkB_data, size_list] at this
    exact this

theorem runpack_l (l : List UInt8) (hl : l.length ≤ 65536) : ∀ (k : Nat) (t pre : List UInt8) (acc : List (List UInt8)), pre ++ t = l → acc.length ≤ 64 → t.length + 9 < k →
    imprimaturref01_Unpack.l0 k (mkB l) (acc.map mkB) (pre.length : Int) = some ((unp (t.length + 1) acc.length t acc).1.map mkB, (unp (t.length + 1) acc.length t acc).2)
  | 0, t, pre, acc, h, ha, hk => by omega
  | k + 1, t, pre, acc, h, ha, hk => by
    have hs : l.length = pre.length + t.length := by rw [← h]; simp
    rw [unp]
    simp only [imprimaturref01_Unpack.l0, List.length_map, mkB_size]
    by_cases c1 : t = []
    · subst c1; rw [if_neg (by simp at hs; omega), if_pos rfl]
    · have ht0 : 0 < t.length := List.length_pos_iff.2 c1
      rw [if_pos (by omega), if_neg c1]
      by_cases c2 : acc.length = 64
      · rw [if_pos (by omega), if_pos c2]; simp
      · rw [if_neg (by omega), if_neg c2, wrap64_id (x := (l.length : Int) - pre.length) (by omega) (by omega)]
        by_cases c3 : t.length < 4
        · rw [if_pos (by omega), if_pos c3]; simp
        · have hn := num4 t
          have hw : wrap64 ((pre.length : Int) + 4) = ((pre.length + 4 : Nat) : Int) := by rw [wrap64_id (by omega) (by omega)]; simp
          have e4 : (mkB l).extract pre.length (pre.length + 4) = mkB (t.take 4) := by
            rw [mkB_extract, ← h]; congr 1; simp
          have hnum : imprimaturref01_Number.f k (mkB (t.take 4)) = some (num (t.take 4) : Int) := by
            rw [rnumber_f _ (by rw [mkB_size, List.length_take]; omega) k (by omega), mkB_list]
          have hdl : (t.drop 4).length = t.length - 4 := by simp
          rw [hw, Int.toNat_natCast, Int.toNat_natCast, e4, hnum, Option.bind_some]
          rw [if_neg (by omega), if_pos (by omega), if_pos (by omega), if_pos (by omega), if_neg c3, hdl]
          rw [wrap64_id (x := ((num (t.take 4) : Nat) : Int)) (by omega) (by omega), wrap64_id (x := (l.length : Int) - ((pre.length + 4 : Nat) : Int)) (by omega) (by omega)]
          by_cases c4 : t.length - 4 < num (t.take 4)
          · rw [if_pos (by omega), if_pos c4]; simp
          · have hw2 : wrap64 (((pre.length + 4 : Nat) : Int) + ((num (t.take 4) : Nat) : Int)) = ((pre.length + 4 + num (t.take 4) : Nat) : Int) := by rw [wrap64_id (by omega) (by omega)]; simp
            rw [hw2, Int.toNat_natCast, if_neg (by omega), if_pos (by omega), if_pos (by omega), if_pos (by omega), if_pos (by omega), if_neg c4]
            have e6 : (mkB l).extract (pre.length + 4) (pre.length + 4 + num (t.take 4)) = mkB ((t.drop 4).take (num (t.take 4))) := by
              rw [mkB_extract, ← h, ← List.drop_drop, List.drop_left, Nat.add_sub_cancel_left]
            have e7 : acc.map mkB ++ [mkB ((t.drop 4).take (num (t.take 4)))] = (acc ++ [(t.drop 4).take (num (t.take 4))]).map mkB := by simp
            have e8 : pre.length + 4 + num (t.take 4) = (pre ++ t.take 4 ++ (t.drop 4).take (num (t.take 4))).length := by simp; omega
            have e9 : pre ++ t.take 4 ++ (t.drop 4).take (num (t.take 4)) ++ (t.drop 4).drop (num (t.take 4)) = l := by
              rw [List.append_assoc, List.take_append_drop, List.append_assoc, List.take_append_drop, h]
            rw [e6, e7, e8, runpack_l l hl k _ _ (acc ++ [(t.drop 4).take (num (t.take 4))]) e9 (by simp; omega) (by simp; omega)]
            rw [show (acc ++ [(t.drop 4).take (num (t.take 4))]).length = acc.length + 1 from by simp]
            rw [unp_fuel _ t.length (acc.length + 1) ((t.drop 4).drop (num (t.take 4))) _ (by omega) (by simp; omega)]
theorem runpack_f (s : ByteArray) (k : Nat) (hk : 70000 < k) : imprimaturref01_Unpack.f k s = some ((unpack s.data.toList).1.map mkB, (unpack s.data.toList).2) := by
  unfold imprimaturref01_Unpack.f unpack
  rw [size_list]
  by_cases h : 65536 < s.size
  · rw [if_pos (by omega), if_pos h]; simp
  · rw [if_neg (by omega), if_neg h]
    have := runpack_l s.data.toList (by rw [size_list]; omega) k s.data.toList [] [] rfl (by simp) (by rw [size_list]; omega)
    rw [mkB_data, size_list] at this
    exact this

theorem rdOf_app (pre : List ByteArray) (s : ByteArray) (post : List ByteArray) : rdOf ByteArray.empty (pre ++ s :: post) (pre.length : Int) = s := by
  rw [rdOf, Int.toNat_natCast, List.getD_eq_getElem?_getD, List.getElem?_append_right (by omega)]; simp
theorem rpack_l (l : List ByteArray) (hl : ¬ 64 < l.length) (hsz : ∀ s ∈ l, s.size ≤ 140737488351232) : ∀ (post pre : List ByteArray) (k : Nat), pre ++ post = l → (pk (pre.map dat)).length ≤ 65536 → post.length + 9 < k →
    imprimaturref01_Pack.l0 k (mkB (pk (pre.map dat))) l (l.length : Int) (pre.length : Int) = some (mkB (pack (l.map dat)).1, (pack (l.map dat)).2)
  | [], pre, k, h, hp, hk => by
    obtain ⟨k, rfl⟩ : ∃ m, k = m + 1 := ⟨k - 1, by omega⟩
    rw [List.append_nil] at h
    subst h
    simp only [imprimaturref01_Pack.l0]
    rw [if_neg (by omega), pack, if_neg (by simpa using hl), if_neg (by omega)]
  | s :: post, pre, k, h, hp, hk => by
    obtain ⟨k, rfl⟩ : ∃ m, k = m + 1 := ⟨k - 1, by omega⟩
    have hlen : pre.length < l.length := by rw [← h]; simp
    have hs := hsz s (by rw [← h]; simp)
    have er : rdOf ByteArray.empty l (pre.length : Int) = s := by rw [← h]; exact rdOf_app pre s post
    have hT : (pk ((pre ++ [s]).map dat)) = pk (pre.map dat) ++ pk1 (dat s) := by rw [List.map_append, List.map_cons, List.map_nil, pk_snoc]
    have hTl : (pk ((pre ++ [s]).map dat)).length = (pk (pre.map dat)).length + (4 + s.size) := by rw [hT, List.length_append, pk1_length, dat_length]
    have hlong : 65536 < (pk ((pre ++ [s]).map dat)).length → pack (l.map dat) = ([], 2) := by
      intro hh
      refine pack_long (by simpa using hl) (pre.length + 1) ?_
      have : (l.map dat).take (pre.length + 1) = (pre ++ [s]).map dat := by
        rw [← h, ← List.map_take]; congr 1; simp [List.take_append, List.take_of_length_le]
      rw [this]; exact hh
    simp only [imprimaturref01_Pack.l0, er, mkB_size]
    rw [if_pos (by omega), if_pos (by omega), if_pos (by omega)]
    by_cases t1 : 65536 < s.size
    · rw [if_pos (by omega), hlong (by omega)]; rfl
    · rw [if_neg (by omega), wrap64_id (x := ((pk (pre.map dat)).length : Int) + 4) (by omega) (by omega), wrap64_id (by omega) (by omega)]
      by_cases t2 : 65536 < (pk (pre.map dat)).length + 4 + s.size
      · rw [if_pos (by omega), hlong (by omega)]; rfl
      · rw [if_neg (by omega), u64_id (by omega) (by omega), show imprimaturref01_Big.f k (s.size : Int) 4 = some (mkB (be 4 s.size)) from rbig_f s.size 4 (by omega) (by omega) k (by omega)]
        simp only [Option.bind_some, mkB_append, mkB_size, List.length_append, be_length]
        rw [if_pos (by omega), if_pos (by omega), wrap64_id (by omega) (by omega)]
        have e : mkB (pk (pre.map dat) ++ be 4 s.size) ++ s = mkB (pk ((pre ++ [s]).map dat)) := by
          have e0 : mkB (dat s) = s := mkB_data s
          conv => lhs; rhs; rw [← e0]
          rw [mkB_append, hT, pk1, dat_length, List.append_assoc]
        rw [e]
        have := rpack_l l hl hsz post (pre ++ [s]) k (by simpa using h) (by omega) (by simp at hk; omega)
        simpa using this
theorem rpack_f (l : List ByteArray) (hsz : ∀ s ∈ l, s.size ≤ 140737488351232) (k : Nat) (hk : l.length + 9 < k) : imprimaturref01_Pack.f k l = some (mkB (pack (l.map dat)).1, (pack (l.map dat)).2) := by
  unfold imprimaturref01_Pack.f
  by_cases h : 64 < l.length
  · rw [if_pos (by omega), pack, if_pos (by simpa using h)]; rfl
  · rw [if_neg (by omega)]
    exact rpack_l l h hsz l [] k rfl (by simp [pk]) hk
theorem same_l (a b : List ByteArray) (hab : a.length = b.length) (hl : a.length ≤ 4611686018427387904) : ∀ (p1 p2 q : List ByteArray) (k : Nat), a = q ++ p1 → b = q ++ p2 → p1.length < k →
    imprimaturref01_Same.l0 k a b (a.length : Int) (q.length : Int) = some (decide (p1 = p2))
  | [], p2, q, k, h1, h2, hk => by
    obtain ⟨k, rfl⟩ : ∃ m, k = m + 1 := ⟨k - 1, by omega⟩
    have : p2 = [] := by rw [h1, h2] at hab; simpa using hab
    subst this
    simp only [imprimaturref01_Same.l0]
    rw [if_neg (by rw [h1]; simp)]; simp
  | s :: p1, p2, q, k, h1, h2, hk => by
    obtain ⟨k, rfl⟩ : ∃ m, k = m + 1 := ⟨k - 1, by omega⟩
    have hlen : p2.length = p1.length + 1 := by rw [h1, h2] at hab; simp at hab; omega
    obtain ⟨t, p2, rfl⟩ : ∃ t q2, p2 = t :: q2 := by cases p2 with
      | nil => simp at hlen
      | cons t q2 => exact ⟨t, q2, rfl⟩
    have e1 : rdOf ByteArray.empty a (q.length : Int) = s := by rw [h1]; exact rdOf_app q s p1
    have e2 : rdOf ByteArray.empty b (q.length : Int) = t := by rw [h2]; exact rdOf_app q t p2
    have hq : q.length < a.length := by rw [h1]; simp
    simp only [imprimaturref01_Same.l0, e1, e2, toList_list]
    rw [if_pos (by omega), if_pos (by omega), if_pos (by omega), if_pos (by omega)]
    by_cases c : s.data.toList = t.data.toList
    · have hst : s = t := by rw [← mkB_data s, ← mkB_data t, c]
      subst hst
      rw [if_pos rfl, wrap64_id (by omega) (by omega)]
      have := same_l a b hab hl p1 p2 (q ++ [s]) k (by simpa using h1) (by simpa using h2) (by simp at hk; omega)
      simpa using this
    · rw [if_neg c]
      have : ¬ (s :: p1 = t :: p2) := by intro e; injection e with e _; exact c (by rw [e])
      simp [this]
theorem same_f (a b : List ByteArray) (hl : a.length ≤ 4611686018427387904) (k : Nat) (hk : a.length < k) : imprimaturref01_Same.f k a b = some (decide (a = b)) := by
  unfold imprimaturref01_Same.f
  by_cases h : a.length = b.length
  · rw [if_pos (by omega)]
    exact same_l a b h hl a b [] k rfl rfl hk
  · rw [if_neg (by omega)]
    have : ¬ a = b := fun e => h (by rw [e])
    simp [this]
/-- the statements' own sign of life. -/
theorem alive_f (k : Nat) (hk : 10 < k) : imprimaturlaw01_alive.f k = some true := by
  obtain ⟨k, rfl⟩ : ∃ m, k = m + 11 := ⟨k - 11, by omega⟩
  unfold imprimaturlaw01_alive.f
  rw [unhex_f _ (by decide) _ (by show 4 < _; omega)]
  simp only [Option.bind_some]
  rw [show octet_Hex.f (⟨#[97, 255]⟩ : ByteArray) = some (mkB [54, 49, 102, 102]) from by decide]
  simp only [Option.bind_some]
  rw [toList_list, mkB_list, if_pos rfl]
  rw [show unhex (⟨#[54, 49, 102, 102]⟩ : ByteArray).data.toList = some [97, 255] from by decide]
  simp [uRes, toList_list, mkB_list]
end Go.Proofs.Ytcofnmeocpedoaa.D
