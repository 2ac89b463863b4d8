/- The library's tables and the sums' constants; meta.Name. -/
import Derived.Test.YtgcflmhlegagbaaGreatDoorQ3
import Derived.Lib.MapLaws
import Derived.Lib.TrimAscii
import Derived.Lib.TrimU
import Derived.Lib.Hide
import Derived.Shelf.Unicode.PredsPay
import Derived.Test.YtgcflmhlegagbaaGreatDoorQ2
import Derived.Test.YtgcflmhlegagbaaGreatDoorQ1
import Derived.Laws.Cover1
section
set_option linter.unusedVariables false
set_option linter.unusedSimpArgs false
namespace Go.Proofs.YtgcflmhlegagbaaGreatDoor.Nm
open Go.Lib
def plainR (c : UInt8) : Bool := (decide (97 ≤ c.toNat) && decide (c.toNat ≤ 122)) || (decide (48 ≤ c.toNat) && decide (c.toNat ≤ 57)) || c == 45
def nameOk (s : List UInt8) : Bool := decide (1 ≤ s.length) && decide (s.length ≤ 32) && s.all plainR
def dropPlain (c : Int) : Int := if (97 ≤ c ∧ c ≤ 122) ∨ (48 ≤ c ∧ c ≤ 57) ∨ c = 45 then -1 else c
theorem encodeRune_ne (r : Int) : encodeRune r ≠ [] := by
  have h1 := (encodeRuneZ_length r).1
  unfold encodeRune
  intro h
  have h2 := congrArg List.length h
  rw [List.length_map] at h2
  rw [h2] at h1
  exact absurd h1 (by decide)
theorem decode_high (b : UInt8) (t : List UInt8) (h : 128 ≤ b.toNat) : 128 ≤ (decodeL (b :: t)).1 := by
  by_cases hv : (decodeL (b :: t)).1 = 65533 ∧ (decodeL (b :: t)).2 = 1
  · rw [hv.1]; omega
  · have he := encode_decode (b :: t) (by simp) hv
    have hw := decodeL_width (b :: t)
    apply Classical.byContradiction
    intro hlt
    have hlt' : (decodeL (b :: t)).1 < 128 := by omega
    unfold encodeRune at he
    rw [encodeRuneZ_one (by omega) (by omega)] at he
    obtain ⟨w, hw'⟩ : ∃ w, (decodeL (b :: t)).2 = w + 1 := ⟨(decodeL (b :: t)).2 - 1, by omega⟩
    rw [hw', List.take_succ_cons] at he
    have h0 := (List.cons.inj he).1
    have : b.toNat = (decodeL (b :: t)).1 := by
      have h2 := congrArg UInt8.toNat h0
      generalize (decodeL (b :: t)).1 = r at h2 hlt' ⊢
      simp at h2; omega
    omega
theorem plain_int (b : UInt8) : dropPlain (b.toNat : Int) = if plainR b = true then -1 else (b.toNat : Int) := by
  have e : plainR b = true ↔ ((97 ≤ (b.toNat : Int) ∧ (b.toNat : Int) ≤ 122) ∨ (48 ≤ (b.toNat : Int) ∧ (b.toNat : Int) ≤ 57) ∨ (b.toNat : Int) = 45) := by
    unfold plainR
    simp only [Bool.or_eq_true, Bool.and_eq_true, decide_eq_true_iff, beq_iff_eq]
    have h45 : b = 45 ↔ (b.toNat : Int) = 45 := by
      constructor
      · intro h; rw [h]; rfl
      · intro h; apply UInt8.toNat_inj.1; show b.toNat = 45; omega
    rw [h45]
    omega
  unfold dropPlain
  by_cases h : plainR b = true
  · rw [if_pos (e.1 h), if_pos h]
  · rw [if_neg (fun h' => h (e.2 h')), if_neg h]
theorem map_plain (l : List UInt8) : mapD dropPlain l = [] ↔ l.all plainR = true := by
  induction l with
  | nil => exact ⟨fun _ => rfl, fun _ => rfl⟩
  | cons b t ih =>
    rw [mapD_step dropPlain (b :: t) (by simp), List.all_cons]
    by_cases hb : b.toNat < 128
    · rw [decodeL_ascii b t hb]
      show ((if 0 ≤ dropPlain (b.toNat : Int) then encodeRune (dropPlain (b.toNat : Int)) else []) ++ mapD dropPlain t = []) ↔ _
      rw [plain_int]
      by_cases hp : plainR b = true
      · rw [if_pos hp, if_neg (by omega), List.nil_append, ih, hp]; simp
      · rw [if_neg hp, if_pos (by omega)]
        constructor
        · intro h
          exact absurd (List.append_eq_nil_iff.1 h).1 (encodeRune_ne _)
        · intro h; simp [hp] at h
    · have hh := decode_high b t (by omega)
      have hd : dropPlain ((decodeL (b :: t)).1 : Int) = ((decodeL (b :: t)).1 : Int) := by unfold dropPlain; rw [if_neg (by omega)]
      rw [hd, if_pos (by omega)]
      constructor
      · intro h
        exact absurd (List.append_eq_nil_iff.1 h).1 (encodeRune_ne _)
      · intro h
        have hp : plainR b = false := by
          cases hp : plainR b with
          | false => rfl
          | true =>
            have := plain_int b
            rw [if_pos hp] at this
            unfold dropPlain at this
            rw [if_neg (by omega)] at this
            omega
        rw [hp] at h; simp at h
end Go.Proofs.YtgcflmhlegagbaaGreatDoor.Nm
namespace Go.Proofs.YtgcflmhlegagbaaGreatDoor.E
open Go.RowKit Go.Lib Go.Shelf Go.Proofs.YtgcflmhlegagbaaGreatDoorW.PrintWords Go.Proofs.YtgcflmhlegagbaaGreatDoorW.PrintLast Go.Proofs.YtgcflmhlegagbaaGreatDoorW.PrintMore
/-- The library's tables lie as its initialisers lay them, and so do the sums' constants. -/
structure Tabs (w : World) : Prop where
  keys : K.Keys w
  utf : Lib.Utf8Tabs 1 2 w
theorem Tabs.below {w w' : World} (h : Tabs w) (hb : Below w.heap.size w w') : Tabs w' := by
  obtain ⟨h1, h2⟩ := h
  exact ⟨K.keys_below hb h1, Utf8Tabs_below h2 hb⟩
set_option maxHeartbeats 1000000 in
theorem rune_any (x : Int) (w : World) :
    Calls Tryz.prog 54 #[.int .i32 x] w fun e w' => e = .returned (.int .i32 (Nm.dropPlain x)) ∧ w = w' := by
  have hd : ∀ b, decide ((97 ≤ x ∧ x ≤ 122) ∨ (48 ≤ x ∧ x ≤ 57) ∨ x = 45) = b → Nm.dropPlain x = if b = true then -1 else x := fun b hb => by
    unfold Nm.dropPlain; rw [← hb]; simp
  by_cases h1 : 97 ≤ x
  · by_cases h2 : x ≤ 122
    · have e : Nm.dropPlain x = -1 := by unfold Nm.dropPlain; rw [if_pos (by omega)]
      rw [e]; clear e hd
      go_enter Tryz.func54, Tryz.ntmps54
      go_wp2
      go_ret
      exact ⟨rfl, rfl⟩
    · have e : Nm.dropPlain x = x := by unfold Nm.dropPlain; rw [if_neg (by omega)]
      rw [e]; clear e hd
      have h3 : 48 ≤ x := by omega
      have h4 : ¬ x ≤ 57 := by omega
      have h5 : (x == 45) = false := by simpa using (show ¬ x = 45 by omega)
      have h6 : ¬ x = 45 := by omega
      go_enter Tryz.func54, Tryz.ntmps54
      go_wp2
      go_ret
      exact ⟨rfl, rfl⟩
  · by_cases h3 : 48 ≤ x
    · by_cases h4 : x ≤ 57
      · have e : Nm.dropPlain x = -1 := by unfold Nm.dropPlain; rw [if_pos (by omega)]
        rw [e]; clear e hd
        go_enter Tryz.func54, Tryz.ntmps54
        go_wp2
        go_ret
        exact ⟨rfl, rfl⟩
      · have e : Nm.dropPlain x = x := by unfold Nm.dropPlain; rw [if_neg (by omega)]
        rw [e]; clear e hd
        have h5 : (x == 45) = false := by simpa using (show ¬ x = 45 by omega)
        have h6 : ¬ x = 45 := by omega
        go_enter Tryz.func54, Tryz.ntmps54
        go_wp2
        go_ret
        exact ⟨rfl, rfl⟩
    · by_cases h6 : x = 45
      · have e : Nm.dropPlain x = -1 := by unfold Nm.dropPlain; rw [if_pos (by omega)]
        rw [e]; clear e hd
        have h5 : (x == 45) = true := by simpa using h6
        go_enter Tryz.func54, Tryz.ntmps54
        go_wp2
        go_ret
        exact ⟨rfl, rfl⟩
      · have e : Nm.dropPlain x = x := by unfold Nm.dropPlain; rw [if_neg (by omega)]
        rw [e]; clear e hd
        have h5 : (x == 45) = false := by simpa using h6
        go_enter Tryz.func54, Tryz.ntmps54
        go_wp2
        go_ret
        exact ⟨rfl, rfl⟩
theorem map_any (s : ByteArray) (w : World) (hs : s.size < 35184372088832) (ht : Tabs w) :
    Calls Tryz.prog 55 #[.func (.func 54) #[] #[], .string s] w fun e w' => e = .returned (.string ⟨(Lib.mapD Nm.dropPlain s.data.toList).toArray⟩) ∧ Below w.heap.size w w' := by
  refine Tryz.strings_Map_grows 54 #[] (fun a w => enters_of Tryz.func54 (by kernel_rfl) rfl a w) Nm.dropPlain s w hs (fun W x hx hb => ?_) (fun x hx => ?_) ht.utf
  · refine (rune_any (x : Int) W).mono ?_
    rintro e w' ⟨rfl, rfl⟩
    exact ⟨rfl, Below.refl _ _⟩
  · unfold Nm.dropPlain; split <;> omega
attribute [local irreducible] Nm.nameOk Lib.mapD
set_option maxHeartbeats 2000000 in
theorem metaName_any (s : ByteArray) (w : World) (ht : Tabs w) :
    Calls Tryz.prog 26 #[.string s] w fun e w' => e = .returned (.bool (Nm.nameOk s.data.toList)) ∧ Below w.heap.size w w' := by
  have hl := S.size_list s
  by_cases h1 : 1 ≤ s.size
  · by_cases h2 : s.size ≤ 32
    · have hM := map_any s w (by omega) ht
      have e : Nm.nameOk s.data.toList = s.data.toList.all Nm.plainR := by unfold Nm.nameOk; rw [hl]; simp [h1, h2]
      have hp := Nm.map_plain s.data.toList
      rw [e]
      cases ha : s.data.toList.all Nm.plainR with
      | true =>
        rw [hp.2 ha] at hM
        have hM' : Calls Tryz.prog 55 #[.func (.func 54) #[] #[], .string s] w fun e w' => e = .returned (.string ⟨#[]⟩) ∧ Below w.heap.size w w' := hM
        clear hM e hp ha hl ht
        go_enter Tryz.func26, Tryz.ntmps26
        go_wp2_with (go_at_call 55; (with_reducible refine hM'.mono ?_); rintro e w' ⟨rfl, hb⟩; have HC := Aside0.mk hb; clear hb)
        go_ret
        exact ⟨by simp, HC.out⟩
      | false =>
        have hne : Lib.mapD Nm.dropPlain s.data.toList ≠ [] := fun h => by rw [hp.1 h] at ha; cases ha
        obtain ⟨r, hr⟩ : ∃ r : ByteArray, r = ⟨(Lib.mapD Nm.dropPlain s.data.toList).toArray⟩ := ⟨_, rfl⟩
        rw [← hr] at hM
        have hrn : r.toList = [] → False := fun h => hne (by rw [S.toList_list] at h; rw [hr] at h; simpa using h)
        have hr1 : r.toList.isEmpty = false := by cases h : r.toList with
          | nil => exact absurd h (fun h => hrn h)
          | cons _ _ => rfl
        have hr2 : (r.toList = []) = False := eq_false (fun h => hrn h)
        clear e hp ha hl ht hne hr
        go_enter Tryz.func26, Tryz.ntmps26
        go_wp2_with (go_at_call 55; (with_reducible refine hM.mono ?_); rintro e w' ⟨rfl, hb⟩; have HC := Aside0.mk hb; clear hb)
        go_ret
        exact ⟨by simp [hr1, hr2], HC.out⟩
    · have e : Nm.nameOk s.data.toList = false := by unfold Nm.nameOk; rw [hl]; simp [h2]
      rw [e]
      clear e ht hl
      go_enter Tryz.func26, Tryz.ntmps26
      go_wp2
      go_ret
      exact ⟨rfl, Below.refl _ _⟩
  · have e : Nm.nameOk s.data.toList = false := by unfold Nm.nameOk; rw [hl]; simp [show s.size = 0 by omega]
    have h0 : s.size = 0 := by omega
    rw [e]
    clear e ht hl h1
    go_enter Tryz.func26, Tryz.ntmps26
    go_wp2
    go_ret
    exact ⟨rfl, Below.refl _ _⟩
end Go.Proofs.YtgcflmhlegagbaaGreatDoor.E
end
section
set_option linter.unusedVariables false
set_option linter.unusedSimpArgs false
namespace Go.Proofs.YtgcflmhlegagbaaGreatDoor.E
open Go.RowKit Go.Lib Go.Shelf Go.Proofs.YtgcflmhlegagbaaGreatDoorW.PrintWords Go.Proofs.YtgcflmhlegagbaaGreatDoorW.PrintLast Go.Proofs.YtgcflmhlegagbaaGreatDoorW.PrintMore
open S (mkB)
def hexB (c : UInt8) : Bool := decide (0 ≤ Lib.indexByte [48, 49, 50, 51, 52, 53, 54, 55, 56, 57, 97, 98, 99, 100, 101, 102] c)
def idOk (l : List UInt8) : Bool := decide (l.length = 64) && l.all hexB
attribute [local irreducible] Lib.indexByte
theorem digit_any (c : UInt8) (w : World) :
    Calls Tryz.prog 93 #[.int .u8 (c.toNat : Int)] w fun e w' => e = .returned (.bool (!hexB c)) ∧ w' = w := by
  have hcall : ∀ W, Calls Tryz.prog 75 #[.string ⟨#[48, 49, 50, 51, 52, 53, 54, 55, 56, 57, 97, 98, 99, 100, 101, 102]⟩, .int .u8 (c.toNat : Int)] W fun e w' => e = .returned (.int .i64 (Lib.indexByte [48, 49, 50, 51, 52, 53, 54, 55, 56, 57, 97, 98, 99, 100, 101, 102] c)) ∧ w' = W := by
    intro W
    have := Tryz.strings_IndexByte ⟨#[48, 49, 50, 51, 52, 53, 54, 55, 56, 57, 97, 98, 99, 100, 101, 102]⟩ (c.toNat : Int) W
    rwa [Int.toNat_natCast, show c.toNat.toUInt8 = c from by simp] at this
  have e : (!hexB c) = decide (Lib.indexByte [48, 49, 50, 51, 52, 53, 54, 55, 56, 57, 97, 98, 99, 100, 101, 102] c < 0) := by
    unfold hexB
    rw [Bool.eq_iff_iff]; simp
  rw [e]
  clear e
  generalize Lib.indexByte [48, 49, 50, 51, 52, 53, 54, 55, 56, 57, 97, 98, 99, 100, 101, 102] c = ix at hcall
  generalize (c.toNat : Int) = n at hcall
  go_enter Tryz.func93, Tryz.ntmps93
  go_wp2_with (go_at_call 75; refine (hcall _).mono ?_; rintro _ _ ⟨rfl, rfl⟩)
  go_ret
  exact ⟨rfl, rfl⟩
theorem any_nhex (l : List UInt8) : l.any (fun c => !hexB c) = !l.all hexB := by
  induction l with
  | nil => rfl
  | cons c l ih => simp [ih]
set_option maxHeartbeats 2000000 in
set_option maxRecDepth 100000 in
theorem id_any (s : ByteArray) (w : World) :
    Calls Tryz.prog 59 #[.string s] w fun e w' => e = .returned (.bool (idOk s.data.toList)) ∧ Below w.heap.size w w' := by
  have hll : s.data.toList.length = s.size := by simp
  have kb := fun W => print_bytes (P := Tryz.prog) 9 108 5 Tryz.underlying9 Tryz.underlying108 Tryz.underlying5 s W
  by_cases h64 : s.size = 64
  · have e : idOk s.data.toList = s.data.toList.all hexB := by unfold idOk; rw [hll, h64]; rfl
    have hA : ∀ cap, Calls Tryz.prog 71 #[.slice (some ⟨w.heap.size, 0, none⟩) s.size cap, .func (.func 93) #[] #[]] (Lib.bytesWorld w 5 s) fun e w' => e = .returned (.bool (!s.data.toList.all hexB)) ∧ Below w.heap.size w w' := by
      intro cap
      have hB2 : Below w.heap.size w (Lib.bytesWorld w 5 s) := bytes_below (Below.refl _ _) (Nat.le_refl _) 5 s
      rw [← any_nhex]
      refine (byteContains (fun c => !hexB c) 93 #[] (fun a w => enters_of Tryz.func93 (by kernel_rfl) rfl a w) (some ⟨w.heap.size, 0, none⟩) s.size cap s.data.toList (Lib.bytesWorld w 5 s)
        (fun W c hb => by
          refine (digit_any c W).mono ?_
          rintro e w' ⟨rfl, rfl⟩
          exact ⟨rfl, hb⟩) (by simp) (by omega)
        (.inr ⟨w.heap.size, 0, rfl, by rw [Lib.bytesWorld_size]; omega, fun j hj => by
          have := Lib.bytesWorld_cell w 5 s j (by simpa using hj)
          rw [Nat.zero_add, this, List.getD_eq_getElem?_getD, List.getElem?_eq_getElem hj]; rfl⟩)).mono ?_
      rintro e w' ⟨rfl, hb⟩
      exact ⟨rfl, below_then hB2 hB2.size hb⟩
    rw [e]
    generalize s.data.toList.all hexB = A at *
    have hA0 := True.intro
    have k0 : ((s.size : Int) == 64) = true := beq_iff_eq.mpr (by omega)
    clear hll e h64 hA0
    go_enter Tryz.func59, Tryz.ntmps59
    go_wp2_with (go_at_call 71; refine (hA _).mono ?_; rintro e w' ⟨rfl, hb⟩; have HC := Aside0.mk hb; clear hb)
    go_ret
    exact ⟨by simp, HC.out⟩
  · have e : idOk s.data.toList = false := by unfold idOk; rw [hll]; simp [h64]
    have hA0 := True.intro
    have k0 : ((s.size : Int) == 64) = false := beq_eq_false_iff_ne.mpr (by omega)
    rw [e]
    clear kb hll e h64 hA0
    go_enter Tryz.func59, Tryz.ntmps59
    go_wp2
    go_ret
    exact ⟨rfl, Below.refl _ _⟩
/-- A public key's sum, in digits. -/
def keyId (l : List UInt8) : List UInt8 := S.hexs (Sh.sum l)
theorem sum_len (l : List UInt8) : (Sh.sum l).length = 32 := by
  unfold Sh.sum Sh.fin
  rw [K.bytes_length]
  obtain ⟨h1, h2⟩ := K.take_ok l
  have := (Sh.blocks_ok ((Sh.take Sh.h0 [] l).2.length + (Sh.tail l.length (Sh.take Sh.h0 [] l).2.length).length) (Sh.take Sh.h0 [] l).1 ((Sh.take Sh.h0 [] l).2 ++ Sh.tail l.length (Sh.take Sh.h0 [] l).2.length) h1 h2).1
  unfold Sh.take at this ⊢
  rw [this]
attribute [local irreducible] Sh.sum S.hexs
set_option maxHeartbeats 2000000 in
set_option maxRecDepth 100000 in
theorem Id_any (s : ByteArray) (w : World) (hs : s.size ≤ 1000) (ht : Tabs w) :
    Calls Tryz.prog 58 #[.string s] w fun e w' => e = .returned (.string (mkB (keyId s.data.toList))) ∧ Below w.heap.size w w' := by
  unfold keyId
  have hds : K.dats [s] = s.data.toList := by unfold K.dats K.dat; simp
  have hS : ∀ W, Below w.heap.size w W → Kd.C Kd.string W (some ⟨w.heap.size, 0, none⟩) 1 [s] → Calls Tryz.prog 92 #[.slice (some ⟨w.heap.size, 0, none⟩) 1 1] W fun e w' => e = .returned (.string (mkB (Sh.sum s.data.toList))) ∧ Below W.heap.size W w' := fun W hb hc => by
    have h := K.Sum_any (some ⟨w.heap.size, 0, none⟩) 1 [s] W hc (Nat.le_refl _) (by simp) (by rw [hds]; simp; omega) (ht.below hb).keys
    rw [hds] at h
    exact h
  have hsl : (mkB (Sh.sum s.data.toList)).size = 32 := by rw [S.mkB_size, sum_len]
  have hH : ∀ W, Calls Tryz.prog 91 #[.string (mkB (Sh.sum s.data.toList))] W fun e w' => e = .returned (.string (mkB (S.hexs (Sh.sum s.data.toList)))) ∧ Below W.heap.size W w' := fun W => by
    have h := hex_any (mkB (Sh.sum s.data.toList)) W (by omega)
    rw [S.mkB_list] at h
    exact h
  have hC : Kd.C Kd.string (w.alloc (.cells #[.string s] 9)) (some ⟨w.heap.size, 0, none⟩) 1 [s] :=
    str_mk (zs := [s]) (by simp) (fun j hj => by
      obtain rfl : j = 0 := by simp at hj; omega
      simp)
  have hb0 : Below w.heap.size w (w.alloc (.cells #[.string s] 9)) := below_alloc (Below.refl _ _) _
  have h1 := hS _ hb0 hC
  clear hS hC hds ht
  generalize mkB (Sh.sum s.data.toList) = x at *
  generalize mkB (S.hexs (Sh.sum s.data.toList)) = y at *
  have H1 := Aside0.mk h1
  have HH := Aside0.mk hH
  have HB0 := Aside0.mk hb0
  clear h1 hH hb0 hsl
  go_enter Tryz.func58, Tryz.ntmps58
  go_wp2_with (first
    | (go_at_call 92; (with_reducible refine H1.out.mono ?_); rintro e w2 ⟨rfl, hb⟩; have HC := Aside0.mk (below_step HB0.out hb); clear hb)
    | (go_at_call 91; (with_reducible refine (HH.out _).mono ?_); rintro e w3 ⟨rfl, hb⟩; have HD := Aside0.mk (below_step HC.out hb); clear hb))
  go_ret
  exact ⟨rfl, HD.out⟩
end Go.Proofs.YtgcflmhlegagbaaGreatDoor.E
end
section
set_option linter.unusedVariables false
set_option linter.unusedSimpArgs false
namespace Go.Proofs.YtgcflmhlegagbaaGreatDoor.E
open Go.RowKit Go.Lib Go.Shelf
open S (mkB)
def role_id.f (a0 : ByteArray) : Option (Bool) := some (idOk a0.data.toList)
theorem role_id.calls (a0 : ByteArray) (r : Bool) (w : World) (h : role_id.f a0 = some r) :
    Calls Tryz.prog 59 #[.string a0] w fun e w' => e = .returned (.bool r) ∧ Below w.heap.size w w' := by
  obtain rfl := Option.some.inj h
  exact id_any a0 w
def role_Id.f (a0 : ByteArray) : Option (ByteArray) := if a0.size ≤ 1000 then some (mkB (keyId a0.data.toList)) else none
theorem role_Id.calls (a0 : ByteArray) (r : ByteArray) (w : World) (ht : Tabs w) (h : role_Id.f a0 = some r) :
    Calls Tryz.prog 58 #[.string a0] w fun e w' => e = .returned (.string r) ∧ Below w.heap.size w w' := by
  unfold role_Id.f at h
  split at h
  · obtain rfl := Option.some.inj h
    exact Id_any a0 w (by assumption) ht
  · cases h
end Go.Proofs.YtgcflmhlegagbaaGreatDoor.E
end
