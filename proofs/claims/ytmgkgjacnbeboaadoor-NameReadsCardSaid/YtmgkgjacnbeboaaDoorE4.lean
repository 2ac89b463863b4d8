/- The reference's Parse, as the printed texts spell it. -/
import Derived.Test.YtmgkgjacnbeboaaDoorHd
import Derived.Test.YtmgkgjacnbeboaaDoorE2
set_option linter.unusedVariables false
set_option linter.unusedSimpArgs false
namespace Go.Proofs.YtmgkgjacnbeboaaDoor.E
open Go.RowKit Go.Lib Go.Shelf
open S (mkB)
attribute [local irreducible] Nm.nameOk Nm.within Lib.itoa Lib.mapD Lib.join S.hexs Nm.kd KD Nm.metaN Nm.dataN Nm.logN Nm.nmS G.split Nm.numR S.unhex
theorem RParse_any (s : ByteArray) (w : World) (hs : s.size ≤ 1000) (ht : Tabs w) : Calls Tryd.prog 14 #[.string s] w (RParsed w (Nm.refN s.data.toList)) := by
  unfold Nm.refN
  simp only [rpart_at, rpart_len]
  by_cases c1 : (D.splitS s).length = 3 ∧ ((D.splitS s).getD 0 ⟨#[]⟩).data.toList = Nm.META
  · rw [if_pos c1]
    exact RParse_meta s w hs ht c1.1 c1.2
  rw [if_neg c1]
  by_cases c2 : (D.splitS s).length = 2 ∧ ((D.splitS s).getD 0 ⟨#[]⟩).data.toList = Nm.DATA
  · rw [if_pos c2]
    exact RParse_data s w hs c2.1 c2.2
  rw [if_neg c2]
  by_cases c3 : (D.splitS s).length < 2 ∨ ((D.splitS s).getD 0 ⟨#[]⟩).data.toList ≠ Nm.LOG
  · rw [if_pos c3]
    refine RParse_none s w hs (fun h e => c1 ⟨h, e⟩) (fun h e => c2 ⟨h, e⟩) (fun h e => ?_)
    rcases c3 with c3 | c3
    · omega
    · exact c3 e
  rw [if_neg c3]
  have hn2 : 2 ≤ (D.splitS s).length := Nat.le_of_not_lt fun h => c3 (.inl h)
  have h0 : ((D.splitS s).getD 0 ⟨#[]⟩).data.toList = Nm.LOG := Classical.byContradiction fun h => c3 (.inr h)
  by_cases c4 : ((D.splitS s).getD 1 ⟨#[]⟩).data.toList = Nm.HEAD
  · rw [if_pos c4]
    exact RParse_head s w hs hn2 h0 c4
  rw [if_neg c4]
  by_cases c5 : ((D.splitS s).getD 1 ⟨#[]⟩).data.toList = Nm.LEAF ∧ (D.splitS s).length = 3
  · rw [if_pos c5]
    exact RParse_leaf s w hs ht c5.2 h0 c5.1
  rw [if_neg c5]
  by_cases c6 : (D.splitS s).length ≠ 4 ∨ (((D.splitS s).getD 1 ⟨#[]⟩).data.toList ≠ Nm.PATH ∧ ((D.splitS s).getD 1 ⟨#[]⟩).data.toList ≠ Nm.STEP)
  · rw [if_pos c6]
    refine RParse_nolog s w hs hn2 h0 c4 (fun h e => c5 ⟨e, h⟩) (fun h => ?_)
    rcases c6 with c6 | c6
    · exact absurd h c6
    · exact c6
  rw [if_neg c6]
  have hn4 : (D.splitS s).length = 4 := Classical.byContradiction fun h => c6 (.inl h)
  by_cases c7 : ((D.splitS s).getD 1 ⟨#[]⟩).data.toList = Nm.STEP
  · rw [if_pos c7]
    exact RParse_step s w hs ht hn4 h0 c7
  · rw [if_neg c7]
    exact RParse_path s w hs ht hn4 h0 (Classical.byContradiction fun h => c6 (.inr ⟨h, c7⟩))
def imprimaturref20_Parse.f (a0 : ByteArray) : Option (Int × ByteArray × ByteArray × Int × Int × Bool) :=
  if a0.size ≤ 1000 then some ((Nm.refN a0.data.toList).1.1, mkB (Nm.refN a0.data.toList).1.2.1, mkB (Nm.refN a0.data.toList).1.2.2.1, (Nm.refN a0.data.toList).1.2.2.2.1, (Nm.refN a0.data.toList).1.2.2.2.2, (Nm.refN a0.data.toList).2) else none
theorem imprimaturref20_Parse.calls (a0 : ByteArray) (r1 : Int) (r2 r3 : ByteArray) (r4 r5 : Int) (r6 : Bool) (w : World) (ht : Tabs w) (h : imprimaturref20_Parse.f a0 = some (r1, r2, r3, r4, r5, r6)) :
    Calls Tryd.prog 14 #[.string a0] w fun e w' => e = .returned (.tuple #[.agg #[.int .i64 r1, .string r2, .string r3, .int .i64 r4, .int .i64 r5], .bool r6]) ∧ Below w.heap.size w w' := by
  unfold imprimaturref20_Parse.f at h
  split at h
  · rename_i c
    simp only [Option.some.injEq, Prod.mk.injEq] at h
    obtain ⟨h1, h2, h3, h4, h5, h6⟩ := h
    rw [← h1, ← h2, ← h3, ← h4, ← h5, ← h6]
    exact RParse_any a0 w c ht
  · cases h
end Go.Proofs.YtmgkgjacnbeboaaDoor.E
