/- The contracts of the functions that were walked by hand (octet's Hex, Big, Pack; the statements' few; the library's IndexByte). -/
import Derived.Test.YtcofnmeocpedoaaX0
import Derived.Test.YtcofnmeocpedoaaSpec
import Derived.Test.YtcofnmeocpedoaaBld
import Derived.Test.YtcofnmeocpedoaaShelf
import Derived.Lib.Hide
set_option linter.unusedVariables false
set_option linter.unusedSimpArgs false
namespace Go.Proofs.Ytcofnmeocpedoaa.E
open Go.RowKit Go.Proofs.YtcofnmeocpedoaaW.PrintWords Go.Proofs.YtcofnmeocpedoaaW.PrintLast Go.Proofs.YtcofnmeocpedoaaW.PrintMore
attribute [local go_sem] max2_int min2_int max_two min_two
open S (mkB be)

theorem hexs_snoc (l : List UInt8) (c : UInt8) : S.hexs (l ++ [c]) = S.hexs l ++ S.hex1 c := by simp [S.hexs]
theorem take_snoc (s : ByteArray) (k : Nat) (h : k < s.size) : s.data.toList.take (k + 1) = s.data.toList.take k ++ [s[k]] := by
  rw [List.take_succ_eq_append_getElem (by simpa using h)]; rfl
theorem byteCells_snoc1 (l : List UInt8) (x : UInt8) : Lib.byteCells l ++ [Value.int .u8 (x.toNat : Int)] = Lib.byteCells (l ++ [x]) := by
  simp [Lib.byteCells]
theorem dig_at (n : Nat) (h : n < 16) (h' : n < (⟨#[48, 49, 50, 51, 52, 53, 54, 55, 56, 57, 97, 98, 99, 100, 101, 102]⟩ : ByteArray).size) : (⟨#[48, 49, 50, 51, 52, 53, 54, 55, 56, 57, 97, 98, 99, 100, 101, 102]⟩ : ByteArray)[n] = S.digs.getD n 0 := by
  revert h'
  revert n
  decide

set_option maxHeartbeats 1000000 in
set_option maxRecDepth 100000 in
theorem hex_any (s : ByteArray) (w : World) (hs : 2 * s.size ≤ 140737488355328) :
    Calls Try.prog 12 #[.string s] w fun e w' => e = .returned (.string ⟨(S.hexs s.data.toList).toArray⟩) ∧ Below w.heap.size w w' := by
  go_enter Try.func12, Try.ntmps12
  go_wp2
  go_loopw [7] (fun i wr => ∃ k : Nat, k ≤ s.size ∧ i = .int .i64 k ∧ Lib.IsBuilder 54 5 w.heap.size w.heap.size (Lib.byteCells (S.hexs (s.data.toList.take k))) wr ∧ Below w.heap.size w wr) (fun i _ => s.size - (intOf i).toNat)
  case atStart => exact ⟨0, Nat.zero_le _, rfl, Lib.fresh_isBuilder 54 5 w, (Below.refl _ _).alloc (Nat.le_refl _) _⟩
  case round =>
    obtain ⟨k, hk, rfl, hB, hb⟩ := hrel
    have hL := S.hexs_length (s.data.toList.take k)
    have hT : (s.data.toList.take k).length ≤ k := List.length_take_le _ _
    by_cases hlt : k < s.size
    · have h8 : s[k].toNat < 256 := s[k].toNat_lt
      have e1 := dig_at (s[k].toNat / 16) (by omega)
      have e2 := dig_at (s[k].toNat % 16) (by omega)
      have e3 := u8_and15 (x := (s[k].toNat : Int)) (by omega) (by omega)
      have p1 : (0 : Int) ≤ ↑s[k].toNat / 16 ∧ (↑s[k].toNat / 16 : Int) < 16 := by omega
      have p2 : (0 : Int) ≤ ↑s[k].toNat % 16 ∧ (↑s[k].toNat % 16 : Int) < 16 := by omega
      have hz := hb.size
      go_wp2_with fail
      refine (B.WriteByte _ _ _ _ _ hB (by rw [Lib.byteCells_length]; omega) hz).mono ?_
      rintro e w1 ⟨rfl, h1, b1⟩
      have h1' : Lib.IsBuilder 54 5 w.heap.size w.heap.size (Lib.byteCells (S.hexs (s.data.toList.take k) ++ [S.digs.getD (s[k].toNat / 16) 0])) w1 := by
        rw [← byteCells_snoc1]; exact .inr h1
      clear h1
      have hb1 : Below w.heap.size w w1 := hb.trans b1
      have hz1 := hb1.size
      go_wp2_with fail
      refine (B.WriteByte _ _ _ _ _ h1' (by rw [Lib.byteCells_length, List.length_append]; simp; omega) hz1).mono ?_
      rintro e w2 ⟨rfl, h2, b2⟩
      have h2' : Lib.IsBuilder 54 5 w.heap.size w.heap.size (Lib.byteCells (S.hexs (s.data.toList.take (k + 1)))) w2 := by
        rw [take_snoc s k hlt, hexs_snoc]
        refine .inr ?_
        rw [byteCells_snoc1, List.append_assoc] at h2
        exact h2
      clear h2 h1'
      go_wp2
      go_roundw
      case rel => exact ⟨k + 1, by omega, by go_num, h2', hb1.trans b2⟩
      case measure => simp [intOf]; omega
    · have hz := hb.size
      go_wp2_with fail
      refine (Try.Builder_String_any _ _ _ _ hB hz).mono ?_
      rintro e w1 ⟨rfl, b1⟩
      go_wp2
      go_ret
      have e5 : s.data.toList.take k = s.data.toList := List.take_of_length_le (by have : s.data.toList.length = s.size := by simp
                                                                                   omega)
      rw [e5]
      exact ⟨rfl, hb.trans b1⟩


theorem nums_bytes (l : List UInt8) : nums .u8 (l.map fun c => (c.toNat : Int)) = Lib.byteCells l := by simp [nums, Lib.byteCells, Function.comp_def]
theorem strOfNums_bytes (l : List UInt8) : strOfNums (l.map fun c => (c.toNat : Int)) = mkB l := by simp [strOfNums, mkB, Function.comp_def]
theorem row_step (n k wd : Nat) (h : k < wd) : (List.replicate (wd - k) (Value.int .u8 0) ++ Lib.byteCells (be k n)).set (wd - 1 - k) (.int .u8 ((n / 256 ^ k % 256 : Nat) : Int)) = List.replicate (wd - (k + 1)) (Value.int .u8 0) ++ Lib.byteCells (be (k + 1) n) := by
  rw [S.be_top, show wd - k = (wd - (k + 1)) + 1 from by omega, List.replicate_succ', List.append_assoc, List.set_append, if_neg (by simp; omega)]
  rw [show wd - 1 - k - (List.replicate (wd - (k + 1)) (Value.int .u8 0)).length = 0 from by simp; omega]
  simp [Lib.byteCells]

set_option maxHeartbeats 1000000 in
set_option maxRecDepth 100000 in
theorem big_ok (n wd : Nat) (w : World) (hn : n < 18446744073709551616) (hw : wd ≤ 8) (hf : n / 256 ^ wd = 0) :
    Calls Try.prog 9 #[.int .u64 n, .int .i64 wd] w fun e w' => e = .returned (.tuple #[.string (mkB (be wd n)), .int .i64 0]) ∧ Below w.heap.size w w' := by
  obtain ⟨i0, hi, hz0, hz1, hz2⟩ := info_parts B.infoByte
  have hz2' : i0.bytes * wd ≤ 281474976710656 := by rw [hz2]; omega
  have hsh : ((n : Int) / 2 ^ (8 * wd) != 0) = false := by
    have e : (2 : Nat) ^ (8 * wd) = 256 ^ wd := by rw [Nat.pow_mul]
    have : (n : Int) / 2 ^ (8 * wd) = ((n / 2 ^ (8 * wd) : Nat) : Int) := by simp
    rw [this, e, hf]; rfl
  have hr : (0 ≤ (wd : Int) ∧ (wd : Int) ≤ 8) := by omega
  clear hf
  by_cases hw8 : wd < 8
  all_goals
    go_enter Try.func9, Try.ntmps9
    go_wp2_with (refine wpList_make_full _ rfl _ _ 48 rfl w.heap.size 5 i0 (.int .u8 0) 1 Try.underlying48 hi hz0 hz1 .i64 .i64 wd wd wd rfl rfl rfl rfl hz2' (by unfold maxLen; omega) (Nat.le_refl _) ?_)
    intro w1 hown hgrow
    rw [toList_madeCells_one] at hown
    have hb1 : Below w.heap.size w w1 := (Below.refl _ _).grown hgrow (Nat.le_refl _) (fun k hk => by cases hk)
    have H := Lib.hid hown
    clear hown hgrow
    go_wp2
    go_loopw [29] (fun i wr => ∃ k : Nat, k ≤ wd ∧ i = .int .i64 k ∧ Hid (wr.ownsRow w.heap.size 5 1 (.slice (some ⟨w.heap.size, 0, none⟩) wd wd) wd (List.replicate (wd - k) (Value.int .u8 0) ++ Lib.byteCells (be k n))) ∧ Below w.heap.size w wr) (fun i _ => wd - (intOf i).toNat)
    case atStart => exact ⟨0, Nat.zero_le _, rfl, Lib.hid (by simpa [be, Lib.byteCells] using H.out), hb1⟩
    case round =>
      obtain ⟨k, hk, rfl, hO, hb⟩ := hrel
      by_cases hlt : k < wd
      · obtain ⟨v0, hc⟩ : ∃ v0, wr.cell? ⟨w.heap.size, wd - 1 - k, none⟩ = some v0 := by
          rw [hO.out.cellAt (wd - 1 - k) (by omega)]
          exact ⟨_, List.getElem?_eq_getElem (by simp [Lib.byteCells, S.be_length]; omega)⟩
        have hz := hO.out.frozenAt (wd - 1 - k)
        go_wp2
        go_roundw
        case rel =>
          refine ⟨k + 1, by omega, by go_num, Lib.hid ?_, hb.setCell (Nat.le_refl _) _⟩
          have hs := (hO.out.stored (wd - 1 - k) (.int .u8 ((n / 256 ^ k % 256 : Nat) : Int))).1
          rw [row_step n k wd hlt] at hs
          have e : (n : Int) / 2 ^ (8 * k) % 256 = ((n / 256 ^ k % 256 : Nat) : Int) := by
            have e2 : (2 : Nat) ^ (8 * k) = 256 ^ k := by rw [Nat.pow_mul]
            rw [← e2]; simp
          rw [e]; exact hs
        case measure => simp [intOf]; omega
      · have hconv : ∀ W, W = wr → (convert 48 9 (.slice (some ⟨w.heap.size, 0, none⟩) wd wd)).run Try.prog W = .ok (.string (mkB (be wd n))) W := by
          intro W hW
          subst hW
          have ho := hO.out
          obtain rfl : k = wd := by omega
          rw [Nat.sub_self] at ho
          have := own_string (P := Try.prog) (src := 48) (dst := 9) (e := 5) Try.underlying48 Try.underlying5 Try.underlying9 (xs := (be k n).map fun c => (c.toNat : Int)) (by rw [nums_bytes]; simpa using ho)
          rw [this, strOfNums_bytes]
        have hcv := hconv wr rfl
        clear hconv
        go_wp2
        go_ret2
        exact ⟨rfl, hb⟩

set_option maxHeartbeats 1000000 in
set_option maxRecDepth 100000 in
theorem big_not (n : Nat) (wd : Int) (w : World) (hn : n < 18446744073709551616) (hw : wd < 0 ∨ 8 < wd) :
    Calls Try.prog 9 #[.int .u64 n, .int .i64 wd] w fun e w' => e = .returned (.tuple #[.string (mkB []), .int .i64 1]) ∧ Below w.heap.size w w' := by
  rcases hw with hw | hw
  all_goals
    go_enter Try.func9, Try.ntmps9
    go_wp2
    go_ret2
    exact ⟨rfl, Below.refl _ _⟩

set_option maxHeartbeats 1000000 in
set_option maxRecDepth 100000 in
theorem big_over (n wd : Nat) (w : World) (hn : n < 18446744073709551616) (hw : wd < 8) (hf : n / 256 ^ wd ≠ 0) :
    Calls Try.prog 9 #[.int .u64 n, .int .i64 wd] w fun e w' => e = .returned (.tuple #[.string (mkB []), .int .i64 1]) ∧ Below w.heap.size w w' := by
  have hsh : ((n : Int) / 2 ^ (8 * wd) != 0) = true := by
    have e : (2 : Nat) ^ (8 * wd) = 256 ^ wd := by rw [Nat.pow_mul]
    have : (n : Int) / 2 ^ (8 * wd) = ((n / 2 ^ (8 * wd) : Nat) : Int) := by simp
    rw [this, e, bne_iff_ne]; omega
  have hr : (0 ≤ (wd : Int) ∧ (wd : Int) ≤ 8) := by omega
  clear hf
  go_enter Try.func9, Try.ntmps9
  go_wp2
  go_ret2
  exact ⟨rfl, Below.refl _ _⟩

def cutS (n : Nat) (s : ByteArray) : ByteArray := s.extract 0 (min s.size n)
def procS (k : Nat) (l : List ByteArray) : List ByteArray := (l.take k).map (cutS 400) ++ l.drop k
theorem procS_length (k : Nat) (l : List ByteArray) : (procS k l).length = l.length := by simp [procS]; omega
theorem procS_get (k : Nat) (l : List ByteArray) (h : k < l.length) : rdOf ByteArray.empty (procS k l) k = l[k] := by
  have e : (List.map (cutS 400) (List.take k l)).length = k := by simp; omega
  rw [rdOf, procS, List.getD_eq_getElem?_getD, Int.toNat_natCast, List.getElem?_append_right (by omega), e, Nat.sub_self]
  simp [h]
theorem procS_step (k : Nat) (l : List ByteArray) (h : k < l.length) : (procS k l).set k (cutS 400 (rdOf ByteArray.empty (procS k l) k)) = procS (k + 1) l := by
  rw [procS_get k l h]
  have e : (List.map (cutS 400) (List.take k l)).length = k := by simp; omega
  unfold procS
  rw [List.set_append, if_neg (by omega), e, Nat.sub_self, List.drop_eq_getElem_cons h, List.set_cons_zero, List.take_succ_eq_append_getElem h, List.map_append, List.append_assoc]
  rfl
def fewS (l : List ByteArray) : List ByteArray := (l.take 66).map (cutS 400)

set_option maxHeartbeats 1000000 in
set_option maxRecDepth 100000 in
theorem few_any (A0 : Option Addr) (c0 : Nat) (l0 : List ByteArray) (w : World) (hr0 : Kd.C Kd.string w A0 l0.length l0) (hc0 : l0.length ≤ c0) (hlen : l0.length ≤ 4611686018427387904) :
    Calls Try.prog 18 #[.slice A0 l0.length c0] w fun e w' => ∃ v_ : Value, e = .returned v_ ∧ Kd.R Kd.string 9 w' w.heap.size (fun _ => True) v_ (fewS l0) ∧ Below w.heap.size w w' := by
  obtain ⟨m, hm⟩ : ∃ m : Nat, (if (66 : Int) < (l0.length : Int) then (66 : Int) else (l0.length : Int)) = (m : Int) := by
    split
    · exact ⟨66, rfl⟩
    · exact ⟨_, rfl⟩
  have hm1 : m ≤ l0.length := by split at hm <;> omega
  have hm2 : l0.take 66 = l0.take m := by
    split at hm
    · obtain rfl : m = 66 := by omega
      rfl
    · obtain rfl : m = l0.length := by omega
      rw [List.take_of_length_le (by omega), List.take_length]
  have H2 := Lib.hid hm2
  clear hm2
  have HO : Kd.string.R 9 (w.alloc (.cells #[] 9)) w.heap.size (fun _ => True) (.slice (some ⟨w.heap.size, 0, none⟩) 0 0) ([] : List ByteArray) :=
    Kd.R_of_own (World.ownsRow_lit (size := 1) w #[] 0 (Nat.le_refl _) (Nat.zero_le _) rfl) (fun _ _ => trivial)
  have HR : Kd.string.C (w.alloc (.cells #[] 9)) A0 m (l0.take m) := by
    have := Kd.C_take hr0 hm1
    rw [List.length_take, Nat.min_eq_left hm1] at this
    exact Kd.C_alloc this _
  have HB : Below w.heap.size w (w.alloc (.cells #[] 9)) := (Below.refl _ _).alloc (Nat.le_refl _) _
  have HO' := Lib.hid HO
  have HR' := Lib.hid HR
  have hm66 : m ≤ 66 := by split at hm <;> omega
  clear HO HR
  go_enter Try.func18, Try.ntmps18
  go_wp2_with (at_builtin; refine Kd.R_append_row (w0 := w) Value.string ByteArray.empty (h1 := fun _ => rfl) w.heap.size rfl _ _ 38 9 (.string ⟨#[]⟩) 16 rfl Try.underlying38 X.info9 rfl (by decide) (.slice (some ⟨w.heap.size, 0, none⟩) 0 0) [] (l0.take m) A0 m c0 (fun _ => True) rfl rfl (fun _ _ => trivial) HO'.out HR'.out HB (by simp) (by simp; omega) ?_)
  intro v1 w1 ho1 hb1 _ _
  obtain ⟨A1, c1, rfl, hc1⟩ : ∃ A1 c1, v1 = .slice A1 m c1 ∧ m ≤ c1 := by
    obtain ⟨A1, c1, e, hle, _⟩ := ho1.2.reads
    rw [List.length_take, Nat.min_eq_left hm1] at e hle
    exact ⟨A1, c1, e, hle⟩
  have H1 : Hid (Kd.string.R 9 w1 w.heap.size (fun _ => True) (.slice A1 m c1) (l0.take m)) := ho1
  clear ho1 HO' HR' HB
  go_wp2
  go_loopw [14] (fun i wr => ∃ k : Nat, k ≤ m ∧ i = .int .i64 k ∧ Hid (Kd.string.R 9 wr w.heap.size (fun _ => True) (.slice A1 m c1) (procS k (l0.take m))) ∧ Below w.heap.size w wr) (fun i _ => m - (intOf i).toNat)
  case atStart => exact ⟨0, Nat.zero_le _, rfl, by simpa [procS] using H1, hb1⟩
  case round =>
    obtain ⟨k, hk, rfl, hO, hb⟩ := hrel
    have hL : (procS k (l0.take m)).length = m := by rw [procS_length, List.length_take, Nat.min_eq_left hm1]
    by_cases hlt : k < m
    · obtain ⟨g, cap, hv, hg1, hg2, cells, hgc⟩ := Kd.R_form hO (by omega)
      rw [hL] at hv
      injection hv with hA _ hcap
      subst hA
      subst hcap
      obtain ⟨hc, hf⟩ := Kd.R_celln ByteArray.empty hO.out (k : Int) (by omega) (by omega)
      rw [Int.toNat_natCast] at hc hf
      have hput := Kd.R_putn hO.out (k : Int) (cutS 400 (rdOf ByteArray.empty (procS k (l0.take m)) k))
      rw [Int.toNat_natCast] at hput
      have HP := Lib.hid hput
      clear hput hgc
      generalize hs : rdOf ByteArray.empty (procS k (l0.take m)) k = s at *
      obtain ⟨n, hn⟩ : ∃ n : Nat, (if (400 : Int) < (s.size : Int) then (400 : Int) else (s.size : Int)) = (n : Int) := by
        split
        · exact ⟨400, rfl⟩
        · exact ⟨_, rfl⟩
      have hn1 : n ≤ s.size := by split at hn <;> omega
      have HS := Lib.hid hs
      clear hs
      go_wp2
      go_roundw
      case rel =>
        refine ⟨k + 1, by omega, by go_num, Lib.hid ?_, hb.setCell hg1 _⟩
        have e : cutS 400 s = s.extract 0 n := by
          unfold cutS
          have : min s.size 400 = n := by split at hn <;> omega
          rw [this]
        have hp := HP.out
        rw [← HS.out, procS_step k _ (by rw [List.length_take]; omega)] at hp
        rw [HS.out, e] at hp
        exact hp
      case measure => simp [intOf]; omega
    · go_wp2
      go_ret
      obtain rfl : k = m := by omega
      have e : procS k (l0.take k) = fewS l0 := by
        rw [procS, fewS, H2.out, List.take_of_length_le (List.length_take_le _ _), List.drop_of_length_le (List.length_take_le _ _), List.append_nil]
      have h := hO.out
      rw [e] at h
      exact ⟨_, rfl, h, hb⟩

def dat (s : ByteArray) : List UInt8 := s.data.toList
theorem dat_length (s : ByteArray) : (dat s).length = s.size := by simp [dat]
theorem pk_take_le (l : List (List UInt8)) (k : Nat) : (S.pk (l.take k)).length ≤ (S.pk l).length := by
  have : S.pk l = S.pk (l.take k) ++ S.pk (l.drop k) := by
    unfold S.pk
    rw [← List.flatMap_append, List.take_append_drop]
  rw [this, List.length_append]; omega
theorem pack_long {l : List (List UInt8)} (h1 : ¬ 64 < l.length) (k : Nat) (h2 : 65536 < (S.pk (l.take k)).length) : S.pack l = ([], 2) := by
  rw [S.pack, if_neg h1, if_pos (by have := pk_take_le l k; omega)]

theorem isBuilder_below {T e : TypeId} {B b : Nat} {bs : List Value} {w w1 : World} (h : Lib.IsBuilder T e B b bs w) (hb : Below w.heap.size w w1) : Lib.IsBuilder T e B b bs w1 := by
  have key : ∀ p, Lib.BuilderAt T e B b p bs w → Lib.BuilderAt T e B b p bs w1 := by
    rintro p ⟨h1, v, h2, h3, h4⟩
    have hlt : b < w.heap.size := Lib.BuilderAt.lt ⟨h1, v, h2, h3, h4⟩
    refine ⟨h1, v, (hb.block b hlt).trans h2, own_move h3 (fun k hk => ?_), h4⟩
    exact hb.block k (h3.lt k hk).2
  exact h.imp (key _) (key _)

set_option maxHeartbeats 1000000 in
set_option maxRecDepth 100000 in
theorem pack_any (A0 : Option Addr) (c0 : Nat) (l0 : List ByteArray) (w : World) (hr0 : Kd.C Kd.string w A0 l0.length l0) (hc0 : l0.length ≤ c0) (hlen : l0.length ≤ 4611686018427387904) (hsz : ∀ s ∈ l0, s.size ≤ 140737488351232) :
    Calls Try.prog 19 #[.slice A0 l0.length c0] w fun e w' => e = .returned (.tuple #[.string (mkB (S.pack (l0.map dat)).1), .int .i64 (S.pack (l0.map dat)).2]) ∧ Below w.heap.size w w' := by
  by_cases h64 : 64 < l0.length
  · have hp : S.pack (l0.map dat) = ([], 22) := by rw [S.pack, if_pos (by simpa using h64)]
    rw [hp]
    go_enter Try.func19, Try.ntmps19
    go_wp2
    go_ret2
    exact ⟨rfl, Below.refl _ _⟩
  · go_enter Try.func19, Try.ntmps19
    go_wp2
    go_loopw [14] (fun i wr => ∃ k : Nat, k ≤ l0.length ∧ i = .int .i64 k ∧ Hid (Lib.IsBuilder 54 5 w.heap.size w.heap.size (Lib.byteCells (S.pk ((l0.take k).map dat))) wr) ∧ (S.pk ((l0.take k).map dat)).length ≤ 65536 ∧ Below w.heap.size w wr) (fun i _ => l0.length - (intOf i).toNat)
    case atStart => exact ⟨0, Nat.zero_le _, rfl, Lib.fresh_isBuilder 54 5 w, by simp [S.pk], (Below.refl _ _).alloc (Nat.le_refl _) _⟩
    case round =>
      obtain ⟨k, hk, rfl, hB, hL, hb⟩ := hrel
      by_cases hlt : k < l0.length
      · obtain ⟨ad, hA, hc⟩ := Kd.at_string hr0 (k : Int) (by omega) (by omega)
        subst hA
        rw [Int.toNat_natCast] at hc
        replace hc := (hb.cell (World.block_lt_of_cell? w _ hc)).trans hc
        have hs0 : rdOf ByteArray.empty l0 k ∈ l0 := by
          rw [rdOf, Int.toNat_natCast, List.getD_eq_getElem?_getD, List.getElem?_eq_getElem hlt]; exact List.getElem_mem hlt
        have hs1 := hsz _ hs0
        have hT : (l0.take (k + 1)).map dat = (l0.take k).map dat ++ [dat (rdOf ByteArray.empty l0 k)] := by
          rw [List.take_succ_eq_append_getElem hlt, List.map_append, rdOf, Int.toNat_natCast, List.getD_eq_getElem?_getD, List.getElem?_eq_getElem hlt]; rfl
        generalize hs : rdOf ByteArray.empty l0 k = s at *
        have HT := Lib.hid hT
        clear hs hs0 hT
        have hz := hb.size
        by_cases t1 : 65536 < s.size
        · go_wp2
          go_ret2
          refine ⟨?_, hb⟩
          rw [pack_long (by simpa using h64) (k + 1) (by rw [← List.map_take, HT.out, S.pk_snoc, List.length_append, S.pk1_length, dat_length]; omega)]; rfl
        · generalize hPl : (S.pk ((l0.take k).map dat)).length = n at *
          have HP := Lib.hid hPl
          clear hPl
          by_cases t2 : 65536 < n + 4 + s.size
          · go_wp2_with (go_at_call 28; refine (Try.Builder_Len _ _ _ _ hB.out).mono ?_; rintro e w1 ⟨rfl, rfl⟩; rw [Lib.byteCells_length, HP.out])
            go_ret2
            refine ⟨?_, hb⟩
            rw [pack_long (by simpa using h64) (k + 1) (by rw [← List.map_take, HT.out, S.pk_snoc, List.length_append, S.pk1_length, dat_length, HP.out]; omega)]; rfl
          · have hwd : IntKind.u64.wrap (s.size : Int) = (s.size : Int) := S.u64_id (by omega) (by omega)
            go_wp2_with (go_at_call 28; refine (Try.Builder_Len _ _ _ _ hB.out).mono ?_; rintro e w1 ⟨rfl, rfl⟩; rw [Lib.byteCells_length, HP.out])
            refine (big_ok s.size 4 _ (by omega) (by omega) (by omega)).mono ?_
            rintro e w1 ⟨rfl, b1⟩
            have hb1 : Below w.heap.size w w1 := below_then hb hz b1
            have hz1 := hb1.size
            have hB1 : Lib.IsBuilder 54 5 w.heap.size w.heap.size (Lib.byteCells (S.pk ((l0.take k).map dat))) w1 := isBuilder_below hB.out b1
            have HB1 := Lib.hid hB1
            clear hB1
            go_wp2_with fail
            refine (B.WriteString _ _ _ _ _ HB1.out (by rw [Lib.byteCells_length, HP.out, S.mkB_size, S.be_length]; omega) hz1).mono ?_
            rintro e w2 ⟨rfl, h2, b2⟩
            have hb2 : Below w.heap.size w w2 := hb1.trans b2
            have hz2 := hb2.size
            have HB2 : Hid (Lib.IsBuilder 54 5 w.heap.size w.heap.size (Lib.byteCells (S.pk ((l0.take k).map dat)) ++ Lib.strCells (mkB (be 4 s.size))) w2) := .inr h2
            clear h2
            go_wp2_with fail
            refine (B.WriteString _ _ _ _ _ HB2.out (by rw [List.length_append, Lib.byteCells_length, HP.out, Lib.strCells_length, S.mkB_size, S.be_length]; omega) hz2).mono ?_
            rintro e w3 ⟨rfl, h3, b3⟩
            have hb3 : Below w.heap.size w w3 := hb2.trans b3
            have HB3 : Hid (Lib.IsBuilder 54 5 w.heap.size w.heap.size (Lib.byteCells (S.pk ((l0.take (k + 1)).map dat))) w3) := by
              refine .inr ?_
              have e : Lib.byteCells (S.pk ((l0.take (k + 1)).map dat)) = Lib.byteCells (S.pk ((l0.take k).map dat)) ++ Lib.strCells (mkB (be 4 s.size)) ++ Lib.strCells s := by
                rw [HT.out, S.pk_snoc, S.pk1, Lib.byteCells_append, Lib.byteCells_append, Lib.strCells_eq, Lib.strCells_eq, S.mkB_list, dat_length, List.append_assoc]; rfl
              rw [e]; exact h3
            clear h3 HB1 HB2
            go_wp2
            go_roundw
            case rel => exact ⟨k + 1, by omega, by go_num, HB3, by rw [HT.out, S.pk_snoc, List.length_append, S.pk1_length, dat_length, HP.out]; omega, hb3⟩
            case measure => simp [intOf]; omega
      · have hz := hb.size
        go_wp2_with fail
        refine (Try.Builder_String_any _ _ _ _ hB.out hz).mono ?_
        rintro e w1 ⟨rfl, b1⟩
        go_wp2
        go_ret2
        have e5 : (l0.map dat).take k = l0.map dat := List.take_of_length_le (by simp; omega)
        have hL' : ¬ 65536 < (S.pk (l0.map dat)).length := by rw [List.map_take, e5] at hL; omega
        refine ⟨?_, hb.trans b1⟩
        rw [S.pack, if_neg (by simpa using h64), if_neg hL']
        show Ending.returned (.tuple #[.string ⟨(S.pk ((l0.map dat).take k)).toArray⟩, .int .i64 0]) = _
        rw [e5]; rfl

def strings_IndexByte.f (a0 : ByteArray) (a1 : Int) : Option Int := some (Lib.indexByte a0.data.toList a1.toNat.toUInt8)
theorem strings_IndexByte.calls (a0 : ByteArray) (a1 : Int) (r : Int) (w : World) (h : strings_IndexByte.f a0 a1 = some r) :
    Calls Try.prog 24 #[.string a0, .int .u8 a1] w fun e w' => e = .returned (.int .i64 r) ∧ Drawn0 w w' := by
  obtain rfl := Option.some.inj h
  exact (Try.strings_IndexByte a0 a1 w).mono fun e w' ⟨h1, h2⟩ => ⟨h1, h2 ▸ Drawn0.refl _⟩
def octet_Hex.f (a0 : ByteArray) : Option ByteArray := if 2 * a0.size ≤ 140737488355328 then some (mkB (S.hexs a0.data.toList)) else none
theorem octet_Hex.calls (a0 : ByteArray) (r : ByteArray) (w : World) (h : octet_Hex.f a0 = some r) :
    Calls Try.prog 12 #[.string a0] w fun e w' => e = .returned (.string r) ∧ Below w.heap.size w w' := by
  unfold octet_Hex.f at h
  split at h
  · obtain rfl := Option.some.inj h
    exact hex_any a0 w (by assumption)
  · cases h
def octet_Big.f (a0 a1 : Int) : Option (ByteArray × Int) :=
  if 0 ≤ a0 ∧ a0 < 18446744073709551616 then some (if 0 ≤ a1 ∧ a1 ≤ 8 ∧ a0.toNat / 256 ^ a1.toNat = 0 then (mkB (be a1.toNat a0.toNat), 0) else (mkB [], 1)) else none
theorem octet_Big.calls (a0 a1 : Int) (r1 : ByteArray) (r2 : Int) (w : World) (h : octet_Big.f a0 a1 = some (r1, r2)) :
    Calls Try.prog 9 #[.int .u64 a0, .int .i64 a1] w fun e w' => e = .returned (.tuple #[.string r1, .int .i64 r2]) ∧ Below w.heap.size w w' := by
  unfold octet_Big.f at h
  split at h
  · rename_i hn
    obtain ⟨n, rfl⟩ := Int.eq_ofNat_of_zero_le hn.1
    have hn2 : n < 18446744073709551616 := by omega
    rw [Int.toNat_natCast] at h
    have h := Option.some.inj h
    split at h
    · rename_i hc
      obtain ⟨wd, rfl⟩ := Int.eq_ofNat_of_zero_le hc.1
      rw [Int.toNat_natCast] at h hc
      cases h
      exact big_ok n wd w hn2 (by omega) hc.2.2
    · rename_i hc
      cases h
      by_cases h0 : a1 < 0 ∨ 8 < a1
      · exact big_not n a1 w hn2 h0
      · obtain ⟨wd, rfl⟩ := Int.eq_ofNat_of_zero_le (show 0 ≤ a1 by omega)
        rw [Int.toNat_natCast] at hc
        have hne : n / 256 ^ wd ≠ 0 := fun e => hc ⟨by omega, by omega, e⟩
        refine big_over n wd w hn2 ?_ hne
        have : wd ≠ 8 := by
          intro e
          subst e
          exact hne (Nat.div_eq_of_lt (by omega))
        omega
  · cases h
def octet_Pack.f (l0 : List ByteArray) : Option (ByteArray × Int) :=
  if l0.length ≤ 4611686018427387904 ∧ ∀ s ∈ l0, s.size ≤ 140737488351232 then some (mkB (S.pack (l0.map dat)).1, (S.pack (l0.map dat)).2) else none
theorem octet_Pack.calls (A0 : Option Addr) (c0 : Nat) (l0 : List ByteArray) (r1 : ByteArray) (r2 : Int) (w : World) (hr0 : Kd.C Kd.string w A0 l0.length l0) (hc0 : l0.length ≤ c0) (h : octet_Pack.f l0 = some (r1, r2)) :
    Calls Try.prog 19 #[.slice A0 l0.length c0] w fun e w' => e = .returned (.tuple #[.string r1, .int .i64 r2]) ∧ Below w.heap.size w w' := by
  unfold octet_Pack.f at h
  split at h
  · rename_i hc
    cases h
    exact pack_any A0 c0 l0 w hr0 hc0 hc.1 hc.2
  · cases h
def imprimaturlaw01_few.f (l0 : List ByteArray) : Option (List ByteArray) := if l0.length ≤ 4611686018427387904 then some (fewS l0) else none
theorem imprimaturlaw01_few.calls (A0 : Option Addr) (c0 : Nat) (l0 : List ByteArray) (r : List ByteArray) (w : World) (hr0 : Kd.C Kd.string w A0 l0.length l0) (hc0 : l0.length ≤ c0) (h : imprimaturlaw01_few.f l0 = some r) :
    Calls Try.prog 18 #[.slice A0 l0.length c0] w fun e w' => ∃ v_ : Value, e = .returned v_ ∧ Kd.R Kd.string 9 w' w.heap.size (fun _ => True) v_ r ∧ Below w.heap.size w w' := by
  unfold imprimaturlaw01_few.f at h
  split at h
  · cases h
    exact few_any A0 c0 l0 w hr0 hc0 (by assumption)
  · cases h
end Go.Proofs.Ytcofnmeocpedoaa.E
