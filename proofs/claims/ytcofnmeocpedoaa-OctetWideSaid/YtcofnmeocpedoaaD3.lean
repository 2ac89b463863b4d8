/- The statements on parts, told of the printed functions. -/
import Derived.Test.YtcofnmeocpedoaaD2
import Derived.Test.YtcofnmeocpedoaaX16
import Derived.Test.YtcofnmeocpedoaaX17
import Derived.Test.YtcofnmeocpedoaaX18
set_option linter.unusedVariables false
set_option linter.unusedSimpArgs false
namespace Go.Proofs.Ytcofnmeocpedoaa.D
open Go.RowKit Go.Proofs.YtcofnmeocpedoaaW.PrintWords Go.Proofs.YtcofnmeocpedoaaW.PrintLast Go.Proofs.YtcofnmeocpedoaaW.PrintMore
open S X E

theorem mn_nat (a b : Nat) : mn (a : Int) (b : Int) = ((min a b : Nat) : Int) := by unfold mn; split <;> omega
theorem map_dat_mkB (l : List (List UInt8)) : (l.map mkB).map dat = l := by
  rw [List.map_map]
  have : dat ∘ mkB = id := by funext x; exact mkB_list x
  rw [this, List.map_id]
theorem map_mkB_dat (l : List ByteArray) : (l.map dat).map mkB = l := by
  rw [List.map_map]
  have : mkB ∘ dat = id := by funext x; exact mkB_data x
  rw [this, List.map_id]
theorem few_f (l : List ByteArray) (h : l.length ≤ 4611686018427387904) : imprimaturlaw01_few.f l = some (fewS l) := by rw [imprimaturlaw01_few.f, if_pos h]
theorem fewS_len (l : List ByteArray) : (fewS l).length ≤ 66 := by simp [fewS]; omega
theorem fewS_size (l : List ByteArray) : ∀ s ∈ fewS l, s.size ≤ 140737488351232 := by
  intro s hs
  simp only [fewS, List.mem_map] at hs
  obtain ⟨x, _, rfl⟩ := hs
  have : cutS 400 x = mkB ((dat x).take (min x.size 400)) := by
    rw [cutS]; conv => lhs; rw [← mkB_data x, mkB_extract]
    simp [dat, mkB_size]
  rw [this, mkB_size, List.length_take]; omega
theorem pack_f (l : List ByteArray) (h1 : l.length ≤ 4611686018427387904) (h2 : ∀ s ∈ l, s.size ≤ 140737488351232) : octet_Pack.f l = some (mkB (pack (l.map dat)).1, (pack (l.map dat)).2) := by rw [octet_Pack.f, if_pos ⟨h1, h2⟩]
theorem unpack_len (t : List UInt8) : (unpack t).1.length ≤ 64 := by
  unfold unpack
  split
  · simp
  · have : ∀ (f m : Nat) (t : List UInt8) (acc : List (List UInt8)), acc.length = m → m ≤ 64 → (unp f m t acc).1.length ≤ 64 := by
      intro f
      induction f with
      | zero => intro m t acc _ _; simp [unp]
      | succ f ih =>
        intro m t acc h1 h2
        rw [unp]
        split
        · simp; omega
        · split
          · simp
          · split
            · simp
            · split
              · simp
              · exact ih _ _ _ (by simp; omega) (by omega)
    exact this _ _ _ _ rfl (by omega)

theorem packs_f (l : List ByteArray) (a1 : ByteArray) (h : l.length ≤ 4611686018427387904) (k : Nat) (hk : 80000 < k) : imprimaturlaw01_OctetPacks.f k l a1 = some true := by
  have hF := fewS_len l
  have hS := fewS_size l
  unfold imprimaturlaw01_OctetPacks.f
  rw [few_f l h]
  simp only [Option.bind_some]
  rw [show mn (a1.size : Int) 66000 = ((min a1.size 66000 : Nat) : Int) from mn_nat _ _, if_pos (by omega), if_pos (by omega), Int.toNat_natCast]
  rw [pack_f _ (by omega) hS, unpack_f _ k (by omega), rpack_f _ hS k (by omega), runpack_f _ k (by omega), alive_f k (by omega)]
  simp only [Option.bind_some, if_true]
  have hu := unpack_len (a1.extract 0 (min a1.size 66000)).data.toList
  rw [same_f _ _ (by rw [List.length_map]; omega) k (by rw [List.length_map]; omega)]
  simp

theorem hex_f (s : ByteArray) (hs : s.size ≤ 70368744177664) : octet_Hex.f s = some (mkB (hexs s.data.toList)) := by rw [octet_Hex.f, if_pos (by omega)]
theorem big8_f (n : Int) (h0 : 0 ≤ n) (h1 : n < 18446744073709551616) : octet_Big.f n 8 = some (mkB (be 8 n.toNat), 0) := by
  rw [octet_Big.f, if_pos ⟨h0, h1⟩, if_pos ⟨by omega, by omega, Nat.div_eq_of_lt (show n.toNat < 256 ^ (8 : Int).toNat from by show n.toNat < 18446744073709551616; omega)⟩]
  rfl
theorem back_j1 (s : ByteArray) (n : Int) (h0 : 0 ≤ n) (h1 : n < 18446744073709551616) (hs : s.size ≤ 3000) (k : Nat) (hk : 9000 < k) : imprimaturlaw01_OctetBack.j1 k s n = some true := by
  obtain ⟨k, rfl⟩ : ∃ m, k = m + 1 := ⟨k - 1, by omega⟩
  rw [imprimaturlaw01_OctetBack.j1, hex_f s (by omega)]
  simp only [Option.bind_some]
  have hh : (mkB (hexs s.data.toList)).size = 2 * s.size := by rw [mkB_size, hexs_length, size_list]
  rw [unhex_f _ (by rw [hh]; omega) k (by rw [hh]; omega), mkB_list, unhex_hexs, big8_f n h0 h1]
  simp only [Option.bind_some, uRes, List.nil_append]
  have hb : (mkB (be 8 n.toNat)).size = 8 := by rw [mkB_size, be_length]
  rw [number_f _ k (by omega), if_neg (by omega), mkB_list, num_be 8 n.toNat (by show n.toNat < 18446744073709551616; omega), unhex_f s (by omega) k (by omega)]
  have hlast : (((mkB (be 8 n.toNat)).size : Int) == 8) = true := by rw [hb]; rfl
  cases hu : unhex s.data.toList with
  | none =>
    simp only [Option.bind_some, uRes, alive_f k (by omega)]
    simp [toList_list, mkB_list, hb, Int.toNat_of_nonneg h0]
  | some r =>
    have hr := unhex_length _ _ hu
    have hx := hexs_unhex _ _ hu
    rw [size_list] at hr
    simp only [Option.bind_some, uRes, List.nil_append, alive_f k (by omega), hex_f (mkB r) (by rw [mkB_size]; omega), mkB_list, hx]
    simp [toList_list, mkB_list, hb, Int.toNat_of_nonneg h0]
theorem back_j0 (s : ByteArray) (n : Int) (h0 : 0 ≤ n) (h1 : n < 18446744073709551616) (hs : s.size ≤ 3000) (k : Nat) (hk : 80000 < k) : imprimaturlaw01_OctetBack.j0 k s n false = some true := by
  obtain ⟨k, rfl⟩ : ∃ m, k = m + 1 := ⟨k - 1, by omega⟩
  rw [imprimaturlaw01_OctetBack.j0, if_neg (by simp), unpack_f s k (by omega)]
  simp only [Option.bind_some]
  by_cases c : (unpack s.data.toList).2 = 0
  · have hp := pack_unpack s.data.toList (unpack s.data.toList).1 (by rw [← c])
    have hu := unpack_len s.data.toList
    rw [if_pos c, pack_f _ (by rw [List.length_map]; omega), map_dat_mkB, hp]
    · rw [Option.bind_some, toList_list, mkB_list, toList_list, if_pos rfl, if_pos rfl, back_j1 s n h0 h1 hs k (by omega)]
    · intro x hx
      simp only [List.mem_map] at hx
      obtain ⟨y, hy, rfl⟩ := hx
      have := mem_pk_le hy
      have e : pk (unpack s.data.toList).1 = s.data.toList := by
        unfold pack at hp
        split at hp
        · exact absurd (congrArg Prod.snd hp) (by simp)
        · split at hp
          · exact absurd (congrArg Prod.snd hp) (by simp)
          · exact (Prod.mk.inj hp).1
      rw [e, size_list] at this
      rw [mkB_size]; omega
  · rw [if_neg c, back_j1 s n h0 h1 hs k (by omega)]
theorem cut_size (s : ByteArray) (n : Nat) : (s.extract 0 (min s.size n)).size ≤ n := by
  conv => lhs; rw [← mkB_data s, mkB_extract]
  rw [mkB_size, List.length_take]; rw [mkB_size]; omega
theorem back_f (l : List ByteArray) (s : ByteArray) (n : Int) (h : l.length ≤ 4611686018427387904) (h0 : 0 ≤ n) (h1 : n < 18446744073709551616) (k : Nat) (hk : 90000 < k) : imprimaturlaw01_OctetBack.f k l s n = some true := by
  have hF := fewS_len l
  have hS := fewS_size l
  unfold imprimaturlaw01_OctetBack.f
  rw [few_f l h]
  simp only [Option.bind_some]
  rw [show mn (s.size : Int) 3000 = ((min s.size 3000 : Nat) : Int) from mn_nat _ _, if_pos (by omega), if_pos (by omega), Int.toNat_natCast, pack_f _ (by omega) hS]
  simp only [Option.bind_some]
  rw [unpack_f _ k (by omega), mkB_list]
  simp only [Option.bind_some]
  have hj := back_j0 (s.extract 0 (min s.size 3000)) n h0 h1 (cut_size s 3000) k (by omega)
  by_cases c : (pack ((fewS l).map dat)).2 = 0
  · have hu := unpack_pack _ c
    rw [if_pos c, hu, if_pos rfl]
    simp only [map_mkB_dat]
    rw [same_f _ _ (by omega) k (by omega)]
    simp only [Option.bind_some, decide_true, Bool.not_true]
    exact hj
  · rw [if_neg c]; exact hj

/-- where a cut of a packed text falls. -/
def bd (A : List ByteArray) (i : Nat) : Nat := (pk ((A.take i).map dat)).length
theorem bd_succ (A : List ByteArray) (i : Nat) (h : i < A.length) : bd A (i + 1) = bd A i + (4 + A[i].size) := by
  unfold bd
  rw [List.take_succ_eq_append_getElem h, List.map_append, List.map_cons, List.map_nil, pk_snoc, List.length_append, pk1_length, dat_length]
theorem pk_app (a b : List (List UInt8)) : pk (a ++ b) = pk a ++ pk b := List.flatMap_append
theorem pk_split (A : List ByteArray) (i : Nat) (h : i < A.length) : pk (A.map dat) = pk ((A.take i).map dat) ++ (pk1 (dat A[i]) ++ pk ((A.drop (i + 1)).map dat)) := by
  conv => lhs; rw [← List.take_append_drop i A, List.drop_eq_getElem_cons h]
  rw [List.map_append, List.map_cons]
  simp [pk]
theorem apart_l (A : List ByteArray) (hA : A.length ≤ 64) (hS : ∀ s ∈ A, s.size ≤ 140737488351232) (hL : (pk (A.map dat)).length ≤ 65536) (cut : Nat) (hc : cut ≤ (pk (A.map dat)).length) :
    ∀ (d i k : Nat), i + d = A.length → (i = 0 ∨ bd A (i - 1) < cut) → d + 70 < k →
    imprimaturlaw01_OctetApart.l0 k A (cut : Int) ((unpack ((pk (A.map dat)).take cut)).1.map mkB) (unpack ((pk (A.map dat)).take cut)).2 (bd A i : Int) (i : Int) = some true := by
  have full : bd A A.length = (pk (A.map dat)).length := by rw [bd, List.take_length]
  have key : ∀ i, bd A i = cut → i ≤ A.length → unpack ((pk (A.map dat)).take cut) = ((A.take i).map dat, 0) := by
    intro i e hi
    have : (pk (A.map dat)).take cut = pk ((A.take i).map dat) := by
      have : pk (A.map dat) = pk ((A.take i).map dat) ++ pk ((A.drop i).map dat) := by
        rw [← pk_app, ← List.map_append, List.take_append_drop]
      rw [this, ← e, bd, List.take_append_of_le_length (Nat.le_refl _), List.take_length]
    rw [this, unpack_pk _ (by rw [bd] at e; omega) (by simp; omega)]
  have short : ∀ i, i < A.length → bd A i < cut → cut < bd A (i + 1) → unpack ((pk (A.map dat)).take cut) = ([], 3) := by
    intro i hi h1 h2
    have hb := bd_succ A i hi
    have hsz := mem_pk_le (s := dat A[i]) (l := A.map dat) (List.mem_map_of_mem (List.getElem_mem hi))
    rw [dat_length] at hsz
    have e : (pk (A.map dat)).take cut = pk ((A.take i).map dat) ++ (pk1 (dat A[i])).take (cut - bd A i) := by
      rw [pk_split A i hi, List.take_append, List.take_append, List.take_of_length_le (show (pk ((A.take i).map dat)).length ≤ cut from Nat.le_of_lt h1), show (cut - (pk ((A.take i).map dat)).length) = cut - bd A i from rfl]
      rw [show cut - bd A i - (pk1 (dat A[i])).length = 0 from by rw [pk1_length, dat_length]; omega, List.take_zero, List.append_nil]
    have hl1 : ((pk1 (dat A[i])).take (cut - bd A i)).length = cut - bd A i := by rw [List.length_take, pk1_length, dat_length]; omega
    rw [e]
    refine unpack_break _ (dat A[i]) _ (by rw [dat_length]; omega) (by omega) (by rw [hl1, dat_length]; omega) (by rw [hl1]) ?_ (by simp; omega)
    rw [List.length_append, hl1, show (pk ((A.take i).map dat)).length = bd A i from rfl]; omega
  intro d
  induction d with
  | zero =>
    intro i k h hi hk
    obtain ⟨k, rfl⟩ : ∃ m, k = m + 1 := ⟨k - 1, by omega⟩
    obtain rfl : i = A.length := by omega
    rw [imprimaturlaw01_OctetApart.l0]
    by_cases c : bd A A.length = cut
    · rw [if_pos (by omega), key _ c (Nat.le_refl _), if_pos rfl, if_pos (by omega), if_pos (by omega), Int.toNat_natCast]
      simp only [map_mkB_dat]
      rw [same_f _ _ (by simp; omega) k (by simp; omega)]
      simp
    · have : cut < bd A A.length := by omega
      have hpos : 0 < A.length := by
        rcases Nat.eq_zero_or_pos A.length with e | e
        · have : bd A A.length = 0 := by unfold bd; rw [List.length_eq_zero_iff.1 e]; simp [pk]
          omega
        · exact e
      have hi' : bd A (A.length - 1) < cut := by
        rcases hi with h0 | h0
        · omega
        · exact h0
      have hs := short (A.length - 1) (by omega) hi' (by rw [Nat.sub_add_cancel hpos]; omega)
      rw [if_neg (by omega), if_pos (by omega), hs, if_pos rfl]; rfl
  | succ d ih =>
    intro i k h hi hk
    obtain ⟨k, rfl⟩ : ∃ m, k = m + 1 := ⟨k - 1, by omega⟩
    have hlt : i < A.length := by omega
    rw [imprimaturlaw01_OctetApart.l0]
    by_cases c : bd A i = cut
    · rw [if_pos (by omega), key i c (by omega), if_pos rfl, if_pos (by omega), if_pos (by omega), Int.toNat_natCast]
      simp only [map_mkB_dat]
      rw [same_f _ _ (by simp; omega) k (by simp; omega)]
      simp
    · rw [if_neg (by omega), if_neg (by omega)]
      by_cases c2 : cut < bd A i
      · have hpos : 0 < i := by
          rcases Nat.eq_zero_or_pos i with e | e
          · subst e; simp [bd, pk] at c2
          · exact e
        have hi' : bd A (i - 1) < cut := by
          rcases hi with h0 | h0
          · omega
          · exact h0
        have hs := short (i - 1) (by omega) hi' (by rw [Nat.sub_add_cancel hpos]; exact c2)
        rw [if_pos (by omega), hs, if_pos rfl]; rfl
      · have er : rdOf ByteArray.empty A (i : Int) = A[i] := by
          rw [rdOf, Int.toNat_natCast, List.getD_eq_getElem?_getD, List.getElem?_eq_getElem hlt]; rfl
        have hb := bd_succ A i hlt
        have hsz := mem_pk_le (s := dat A[i]) (l := A.map dat) (List.mem_map_of_mem (List.getElem_mem hlt))
        rw [dat_length] at hsz
        rw [if_neg (by omega), if_pos (by omega), if_pos (by omega), er, wrap64_id (x := 4 + (A[i].size : Int)) (by omega) (by omega), wrap64_id (x := (bd A i : Int) + (4 + (A[i].size : Int))) (by omega) (by omega), wrap64_id (x := (i : Int) + 1) (by omega) (by omega)]
        have := ih (i + 1) k (by omega) (.inr (by simp; omega)) (by omega)
        rw [hb] at this
        have e1 : (bd A i : Int) + (4 + (A[i].size : Int)) = ((bd A i + (4 + A[i].size) : Nat) : Int) := by omega
        have e2 : (i : Int) + 1 = ((i + 1 : Nat) : Int) := by omega
        rw [e1, e2]; exact this
theorem apart_f (l0 l1 : List ByteArray) (cut : Int) (h0 : l0.length ≤ 4611686018427387904) (h1 : l1.length ≤ 4611686018427387904) (hc1 : -9223372036854775808 ≤ cut) (hc2 : cut ≤ 9223372036854775807) (k : Nat) (hk : 90000 < k) : imprimaturlaw01_OctetApart.f k l0 l1 cut = some true := by
  have hF0 := fewS_len l0
  have hS0 := fewS_size l0
  have hF1 := fewS_len l1
  have hS1 := fewS_size l1
  unfold imprimaturlaw01_OctetApart.f
  rw [few_f l0 h0, few_f l1 h1]
  simp only [Option.bind_some]
  generalize fewS l0 = A at *
  generalize fewS l1 = C at *
  rw [pack_f A (by omega) hS0, pack_f C (by omega) hS1]
  simp only [Option.bind_some]
  obtain ⟨k, rfl⟩ : ∃ m, k = m + 2 := ⟨k - 2, by omega⟩
  by_cases c0 : (pack (A.map dat)).2 = 0
  · rw [if_pos c0]
    by_cases c1 : (pack (C.map dat)).2 = 0
    · have hq : ∀ L : List ByteArray, (pack (L.map dat)).2 = 0 → L.length ≤ 64 ∧ (pk (L.map dat)).length ≤ 65536 ∧ (pack (L.map dat)).1 = pk (L.map dat) := by
        intro L hL
        unfold pack at hL ⊢
        split at hL
        · simp at hL
        · split at hL
          · simp at hL
          · rename_i g1 g2
            rw [if_neg g1, if_neg g2]
            exact ⟨by simpa using g1, by omega, rfl⟩
      obtain ⟨q1, q2, q3⟩ := hq A c0
      obtain ⟨r1, r2, r3⟩ := hq C c1
      have hAC : ((mkB (pack (A.map dat)).1).toList == (mkB (pack (C.map dat)).1).toList) = decide (A = C) := by
        rw [toList_list, toList_list, mkB_list, mkB_list, Bool.eq_iff_iff, beq_iff_eq, decide_eq_true_iff]
        constructor
        · intro e
          have := pack_inj _ _ c0 c1 e
          rw [← map_mkB_dat A, this, map_mkB_dat]
        · intro e; rw [e]
      rw [show ((pack (C.map dat)).2 != 0) = false from by rw [c1]; rfl, imprimaturlaw01_OctetApart.j0, if_neg (by simp), same_f A C (by omega) _ (by omega)]
      simp only [Option.bind_some]
      rw [hAC, if_neg (by simp), alive_f _ (by omega)]
      simp only [Option.bind_some, Bool.not_true]
      rw [imprimaturlaw01_OctetApart.j1, if_neg (by simp), q3, mkB_size]
      obtain ⟨c, hcc⟩ : ∃ c : Nat, mn (mx cut 0) ((pk (A.map dat)).length : Int) = (c : Int) ∧ c ≤ (pk (A.map dat)).length := by
        unfold mn mx
        split <;> split <;> first | exact ⟨_, rfl, Nat.le_refl _⟩ | exact ⟨0, rfl, Nat.zero_le _⟩ | exact ⟨cut.toNat, by omega, by omega⟩
      rw [hcc.1, if_pos (by omega), if_pos (by omega), Int.toNat_natCast, mkB_extract, List.drop_zero, Nat.sub_zero, unpack_f _ _ (by omega), mkB_list]
      simp only [Option.bind_some]
      have := apart_l A q1 hS0 q2 c hcc.2 A.length 0 k (by omega) (.inl rfl) (by omega)
      have e0 : (bd A 0 : Int) = 0 := by simp [bd, pk]
      rw [e0] at this
      exact this
    · rw [show ((pack (C.map dat)).2 != 0) = true from by rw [bne_iff_ne]; exact c1, imprimaturlaw01_OctetApart.j0, if_pos rfl, alive_f _ (by omega)]
      rfl
  · rw [if_neg c0, imprimaturlaw01_OctetApart.j0, if_pos rfl, alive_f _ (by omega)]
    rfl
end Go.Proofs.Ytcofnmeocpedoaa.D
