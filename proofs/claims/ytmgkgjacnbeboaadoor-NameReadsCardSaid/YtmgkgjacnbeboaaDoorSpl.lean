/- strings.Split at one byte; the parts at the slashes. -/
import Derived.Test.YtmgkgjacnbeboaaDoorX0
import Derived.Test.YtmgkgjacnbeboaaDoorGlob
import Derived.Test.YtmgkgjacnbeboaaDoorShelf
import Derived.Test.YtmgkgjacnbeboaaDoorSpec
import Derived.Lib.SlBy
import Derived.Laws.ByValue
import Derived.Lib.IndexBytes
import Derived.Shelf.RegionOpenPlain
set_option linter.unusedVariables false
set_option linter.unusedSimpArgs false
namespace Go.Proofs.YtmgkgjacnbeboaaDoor.E
open Go.RowKit Go.Lib Go.Proofs.YtmgkgjacnbeboaaDoorW.PrintWords Go.Proofs.YtmgkgjacnbeboaaDoorW.PrintLast Go.Proofs.YtmgkgjacnbeboaaDoorW.PrintMore
attribute [local irreducible] G.right G.split G.bad G.byt
theorem split_one (s : ByteArray) (c : UInt8) (w : World) (hs : s.size < 4294967281) :
    Calls Tryd.prog 22 #[.string s, .string ⟨#[c]⟩] w fun e w' =>
      e = .returned (.slice (some ⟨w.heap.size, 0, none⟩) (Lib.splitB ⟨#[c]⟩ 0 (Lib.countB s ⟨#[c]⟩) s).length (Lib.splitB ⟨#[c]⟩ 0 (Lib.countB s ⟨#[c]⟩) s).length) ∧ w' = w.alloc (.cells ((Lib.splitB ⟨#[c]⟩ 0 (Lib.countB s ⟨#[c]⟩) s).map Value.string).toArray 9) := by
  have h1 : 1 ≤ (⟨#[c]⟩ : ByteArray).size := Nat.le_refl _
  have hle := Lib.countB_le ⟨#[c]⟩ h1 s.size s (Nat.le_refl _)
  have hlen := Lib.splitB_all ⟨#[c]⟩ h1 0 _ s rfl
  have hix : ∀ (x : ByteArray) W, Calls Tryd.prog 49 #[.string x, .string ⟨#[c]⟩] W fun e w' => e = .returned (.int .i64 (Lib.indexB x ⟨#[c]⟩)) ∧ w' = W := fun x W => by
    rw [show Lib.indexB x ⟨#[c]⟩ = Lib.indexByte x.data.toList c from Lib.index_one _ _]
    exact Tryd.strings_Index_one x c W
  have hct : Calls Tryd.prog 48 #[.string s, .string ⟨#[c]⟩] w fun e w' => e = .returned (.int .i64 (Lib.countB s ⟨#[c]⟩)) ∧ w' = w := by
    refine (Tryd.strings_Count_one s c w).mono fun e w' ⟨he, hw⟩ => ⟨?_, hw⟩
    rw [he]
    show _ = Ending.returned (Value.int .i64 ((Lib.count s.data.toList [c] : Nat) : Int))
    rw [Lib.count_one]
    rfl
  have cc := Any.strings_genSplit_core Tryd.lays221 (by kernel_rfl) s ⟨#[c]⟩ 0 (-1) (Lib.countB s ⟨#[c]⟩ + 1) w hs h1 (Nat.zero_le _)
    (fun x c' hx => hix x _) hct (by decide) (by decide) (by rw [if_pos (by decide)]; omega)
  rw [Nat.add_sub_cancel, ← hlen] at cc
  rw [Lib.cellsOf_full] at cc
  change Calls Tryd.prog 35 _ _ _ at cc
  generalize Lib.splitB ⟨#[c]⟩ 0 (Lib.countB s ⟨#[c]⟩) s = l at cc ⊢
  clear hlen hle hix hct
  go_enter Tryd.func22, Tryd.ntmps22
  go_wp2_with (go_at_call 35; refine cc.mono ?_; rintro e w' ⟨rfl, hw⟩; rw [hw])
  go_ret
  exact ⟨rfl, rfl⟩

theorem splitK_cons (b c : UInt8) (h : b ≠ c) (l : List UInt8) (k : Nat) : Lib.splitK [c] 0 k (b :: l) = (match Lib.splitK [c] 0 k l with | [] => [[b]] | x :: r => (b :: x) :: r) := by
  cases k with
  | zero => rfl
  | succ k =>
    have hp : ([c] : List UInt8).isPrefixOf (b :: l) = false := by simp [List.isPrefixOf, Ne.symm h]
    have hix : Lib.index (b :: l) [c] = if Lib.index l [c] == -1 then -1 else Lib.index l [c] + 1 := by rw [Lib.index, hp]; simp
    by_cases hm : Lib.index l [c] = -1
    · rw [Lib.splitK, Lib.splitK, hix]; simp [hm]
    · have hge := Lib.index_ge l [c]
      obtain ⟨j, hj⟩ : ∃ j : Nat, Lib.index l [c] = j := ⟨(Lib.index l [c]).toNat, by omega⟩
      have hix' : Lib.index (b :: l) [c] = ((j + 1 : Nat) : Int) := by rw [hix, if_neg (fun e => hm (beq_iff_eq.1 e)), hj]; omega
      have n1 : ¬ (((j : Nat) : Int) == -1) = true := fun e => by have := beq_iff_eq.1 e; omega
      have n2 : ¬ (((j + 1 : Nat) : Int) == -1) = true := fun e => by have := beq_iff_eq.1 e; omega
      rw [Lib.splitK, Lib.splitK, hix', hj, if_neg n1, if_neg n2]
      simp
theorem split_eq (l : List UInt8) : Lib.splitK [47] 0 (Lib.count l [47]) l = G.split l := by
  induction l with
  | nil => rw [G.split]; rfl
  | cons b l ih =>
    rw [G.split]
    by_cases h : b = 47
    · subst h
      rw [if_pos rfl, Lib.count_cons_eq, show 1 + Lib.count l [47] = Lib.count l [47] + 1 from Nat.add_comm _ _, Lib.splitK]
      have hix : Lib.index ((47 : UInt8) :: l) [47] = 0 := by rw [Lib.index]; simp [List.isPrefixOf]
      rw [hix, ← ih]; simp
    · rw [if_neg h, Lib.count_cons_ne _ _ _ h, splitK_cons _ _ h, ih]; cases G.split l <;> rfl
def parts (s : ByteArray) : List ByteArray := Lib.splitB ⟨#[47]⟩ 0 (Lib.countB s ⟨#[47]⟩) s
theorem parts_data (s : ByteArray) : (parts s).map (fun p => p.data.toList) = G.split s.data.toList := by
  rw [← split_eq]; exact Lib.splitB_data ⟨#[47]⟩ 0 _ s
end Go.Proofs.YtmgkgjacnbeboaaDoor.E
