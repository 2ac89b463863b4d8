/- What strings.Map leaves of a text when it drops the plain runes: nothing just where all its bytes are plain. No program in sight. -/
import Derived.Test.YtmgkgjacnbeboaaDoorN2
import Derived.Lib.MapLaws
import Derived.Lib.TrimAscii
import Derived.Lib.TrimU
set_option linter.unusedVariables false
set_option linter.unusedSimpArgs false
namespace Go.Proofs.YtmgkgjacnbeboaaDoor.Nm
open Go.Lib
def dropPlain (c : Int) : Int := if (97 ≤ c ∧ c ≤ 122) ∨ (48 ≤ c ∧ c ≤ 57) ∨ c = 45 then -1 else c
theorem encodeRune_ne (r : Int) : encodeRune r ≠ [] := by
  have h1 := (encodeRuneZ_length r).1
  unfold encodeRune
  intro h
  have h2 := congrArg List.length h
  rw [List.length_map] at h2
  rw [h2] at h1
  exact absurd h1 (by decide)
theorem decode_high (b : UInt8) (t : List UInt8) (h : 128 ≤ b.toNat) : 128 ≤ (decodeL (b :: t)).1 := by
  by_cases hv : (decodeL (b :: t)).1 = 65533 ∧ (decodeL (b :: t)).2 = 1
  · rw [hv.1]; omega
  · have he := encode_decode (b :: t) (by simp) hv
    have hw := decodeL_width (b :: t)
    apply Classical.byContradiction
    intro hlt
    have hlt' : (decodeL (b :: t)).1 < 128 := by omega
    unfold encodeRune at he
    rw [encodeRuneZ_one (by omega) (by omega)] at he
    obtain ⟨w, hw'⟩ : ∃ w, (decodeL (b :: t)).2 = w + 1 := ⟨(decodeL (b :: t)).2 - 1, by omega⟩
    rw [hw', List.take_succ_cons] at he
    have h0 := (List.cons.inj he).1
    have : b.toNat = (decodeL (b :: t)).1 := by
      have h2 := congrArg UInt8.toNat h0
      generalize (decodeL (b :: t)).1 = r at h2 hlt' ⊢
      simp at h2; omega
    omega
theorem plain_int (b : UInt8) : dropPlain (b.toNat : Int) = if plainR b = true then -1 else (b.toNat : Int) := by
  have e : plainR b = true ↔ ((97 ≤ (b.toNat : Int) ∧ (b.toNat : Int) ≤ 122) ∨ (48 ≤ (b.toNat : Int) ∧ (b.toNat : Int) ≤ 57) ∨ (b.toNat : Int) = 45) := by
    unfold plainR
    simp only [Bool.or_eq_true, Bool.and_eq_true, decide_eq_true_iff, beq_iff_eq]
    have h45 : b = 45 ↔ (b.toNat : Int) = 45 := by
      constructor
      · intro h; rw [h]; rfl
      · intro h; apply UInt8.toNat_inj.1; show b.toNat = 45; omega
    rw [h45]
    omega
  unfold dropPlain
  by_cases h : plainR b = true
  · rw [if_pos (e.1 h), if_pos h]
  · rw [if_neg (fun h' => h (e.2 h')), if_neg h]
theorem map_plain (l : List UInt8) : mapD dropPlain l = [] ↔ l.all plainR = true := by
  induction l with
  | nil => exact ⟨fun _ => rfl, fun _ => rfl⟩
  | cons b t ih =>
    rw [mapD_step dropPlain (b :: t) (by simp), List.all_cons]
    by_cases hb : b.toNat < 128
    · rw [decodeL_ascii b t hb]
      show ((if 0 ≤ dropPlain (b.toNat : Int) then encodeRune (dropPlain (b.toNat : Int)) else []) ++ mapD dropPlain t = []) ↔ _
      rw [plain_int]
      by_cases hp : plainR b = true
      · rw [if_pos hp, if_neg (by omega), List.nil_append, ih, hp]; simp
      · rw [if_neg hp, if_pos (by omega)]
        constructor
        · intro h
          exact absurd (List.append_eq_nil_iff.1 h).1 (encodeRune_ne _)
        · intro h; simp [hp] at h
    · have hh := decode_high b t (by omega)
      have hd : dropPlain ((decodeL (b :: t)).1 : Int) = ((decodeL (b :: t)).1 : Int) := by unfold dropPlain; rw [if_neg (by omega)]
      rw [hd, if_pos (by omega)]
      constructor
      · intro h
        exact absurd (List.append_eq_nil_iff.1 h).1 (encodeRune_ne _)
      · intro h
        have hp : plainR b = false := by
          cases hp : plainR b with
          | false => rfl
          | true =>
            have := plain_int b
            rw [if_pos hp] at this
            unfold dropPlain at this
            rw [if_neg (by omega)] at this
            omega
        rw [hp] at h; simp at h
end Go.Proofs.YtmgkgjacnbeboaaDoor.Nm
