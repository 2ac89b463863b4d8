/- What Cut at a slash tells of the parts. -/
import Derived.Test.YteignlfpjmfleaaDoorG4
set_option linter.unusedVariables false
set_option linter.unusedSimpArgs false
namespace Go.Proofs.YteignlfpjmfleaaDoor.E
open Go.RowKit Go.Lib

theorem cut_nil : Lib.cut [] [47] = ([], [], false) := by unfold Lib.cut; simp [Lib.index]
theorem cut_here (l : List UInt8) : Lib.cut (47 :: l) [47] = ([], l, true) := by
  have hix : Lib.index ((47 : UInt8) :: l) [47] = 0 := by rw [Lib.index]; simp [List.isPrefixOf]
  unfold Lib.cut; rw [hix]; simp
theorem cut_on (b : UInt8) (h : b ≠ 47) (l : List UInt8) : Lib.cut (b :: l) [47] = (b :: (Lib.cut l [47]).1, (Lib.cut l [47]).2.1, (Lib.cut l [47]).2.2) := by
  have hp : ([47] : List UInt8).isPrefixOf (b :: l) = false := by simp [List.isPrefixOf, Ne.symm h]
  have hix : Lib.index (b :: l) [47] = if Lib.index l [47] == -1 then -1 else Lib.index l [47] + 1 := by rw [Lib.index, hp]; simp
  have hge := Lib.index_ge l [47]
  unfold Lib.cut
  by_cases hm : Lib.index l [47] = -1
  · rw [hix, hm]; simp
  · obtain ⟨j, hj⟩ : ∃ j : Nat, Lib.index l [47] = j := ⟨(Lib.index l [47]).toNat, by omega⟩
    have n1 : ¬ (((j : Nat) : Int) == -1) = true := fun e => by have := beq_iff_eq.1 e; omega
    rw [hix, hj, if_neg n1, if_pos (by omega), if_pos (by omega)]
    rw [show ((j : Int) + 1).toNat = j + 1 from by omega]
    simp
theorem cut_split (l : List UInt8) : G.split l = if (Lib.cut l [47]).2.2 = true then (Lib.cut l [47]).1 :: G.split (Lib.cut l [47]).2.1 else [(Lib.cut l [47]).1] := by
  induction l with
  | nil => rw [cut_nil, G.split]; rfl
  | cons b l ih =>
    rw [G.split]
    by_cases h : b = 47
    · subst h; rw [cut_here]; rfl
    · rw [if_neg h, cut_on b h, ih]
      by_cases h2 : (Lib.cut l [47]).2.2 = true
      · rw [if_pos h2]; simp [h2]
      · rw [if_neg h2]; simp [h2]
theorem cut_less (l : List UInt8) (h : (Lib.cut l [47]).2.2 = true) : (Lib.cut l [47]).2.1.length < l.length := by
  induction l with
  | nil => rw [cut_nil] at h; cases h
  | cons b l ih =>
    by_cases hb : b = 47
    · subst hb; rw [cut_here]; simp
    · rw [cut_on b hb] at h ⊢
      have := ih h
      simp; omega
/-- The pairs of parts that a walk of both meets: as many as the shorter has. -/
theorem zip_split (a b : List UInt8) : (G.split a).zip (G.split b) =
    ((Lib.cut a [47]).1, (Lib.cut b [47]).1) :: (if (Lib.cut a [47]).2.2 = true ∧ (Lib.cut b [47]).2.2 = true then (G.split (Lib.cut a [47]).2.1).zip (G.split (Lib.cut b [47]).2.1) else []) := by
  rw [cut_split a, cut_split b]
  by_cases h1 : (Lib.cut a [47]).2.2 = true <;> by_cases h2 : (Lib.cut b [47]).2.2 = true <;> simp [h1, h2]
theorem split_count (l : List UInt8) : (G.split l).length = l.count 47 + 1 := by
  induction l with
  | nil => rw [G.split]; rfl
  | cons b l ih =>
    rw [G.split]
    by_cases h : b = 47
    · subst h; rw [if_pos rfl]; simp [ih]
    · rw [if_neg h, List.count_cons_of_ne (by simpa using h)]
      cases e : G.split l with
      | nil => rw [e] at ih; simp at ih
      | cons x r => rw [e] at ih; simpa using ih
end Go.Proofs.YteignlfpjmfleaaDoor.E
