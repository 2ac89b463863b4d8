/- name.Parse's contract, as the printed texts spell it. -/
import Derived.Test.YtmgkgjacnbeboaaDoorH8
import Derived.Test.YtmgkgjacnbeboaaDoorE1
import Derived.Test.YtmgkgjacnbeboaaDoorMa
set_option linter.unusedVariables false
set_option linter.unusedSimpArgs false
namespace Go.Proofs.YtmgkgjacnbeboaaDoor.E
open Go.RowKit Go.Lib Go.Shelf
open S (mkB)
theorem Parse_any (s : ByteArray) (w : World) (hs : s.size ≤ 1000) (ht : Tabs5 w) : Calls Tryd.prog 13 #[.string s] w (Parsed w s) := by
  by_cases hm : ((parts s).getD 0 ⟨#[]⟩).data.toList = Nm.META
  · exact Parse_meta s w hs ht hm
  · by_cases hd : ((parts s).getD 0 ⟨#[]⟩).data.toList = Nm.DATA
    · exact Parse_data s w hs ht hd
    · by_cases hl : ((parts s).getD 0 ⟨#[]⟩).data.toList = Nm.LOG
      · exact Parse_log s w hs ht hl
      · exact Parse_none s w hs hm hd hl
def name_Parse.f (a0 : ByteArray) : Option (Int × ByteArray × ByteArray × Int × Int × Int) :=
  if a0.size ≤ 1000 then some ((Nm.parseN a0.data.toList).1.1, mkB (Nm.parseN a0.data.toList).1.2.1, mkB (Nm.parseN a0.data.toList).1.2.2.1, (Nm.parseN a0.data.toList).1.2.2.2.1, (Nm.parseN a0.data.toList).1.2.2.2.2, (Nm.parseN a0.data.toList).2) else none
theorem name_Parse.calls (a0 : ByteArray) (r1 : Int) (r2 r3 : ByteArray) (r4 r5 r6 : Int) (w : World) (ht : Tabs5 w) (h : name_Parse.f a0 = some (r1, r2, r3, r4, r5, r6)) :
    Calls Tryd.prog 13 #[.string a0] w fun e w' => e = .returned (.tuple #[.agg #[.int .i64 r1, .string r2, .string r3, .int .i64 r4, .int .i64 r5], .int .i64 r6]) ∧ Below w.heap.size w w' := by
  unfold name_Parse.f at h
  split at h
  · rename_i c
    simp only [Option.some.injEq, Prod.mk.injEq] at h
    obtain ⟨h1, h2, h3, h4, h5, h6⟩ := h
    rw [← h1, ← h2, ← h3, ← h4, ← h5, ← h6]
    exact Parse_any a0 w c ht
  · cases h
theorem dec3 : Lib.itoa 3 = [51] := by
  have := Nm.itoa_nat 3
  rw [Lib.decDigits, dif_pos (by omega)] at this
  exact this
theorem alive_true : M.imprimaturlaw20_alive.f = some true := by
  have hm : Nm.metaN [114, 111, 111, 116] 3 = ([109, 101, 116, 97, 47, 114, 111, 111, 116, 47, 51], 0) := by
    unfold Nm.metaN
    rw [if_pos ⟨by decide, by decide⟩, D.three_, dec3]; rfl
  unfold M.imprimaturlaw20_alive.f name_Meta.f
  rw [if_pos (show (⟨#[114, 111, 111, 116]⟩ : ByteArray).size < 35184372088832 by decide), Option.bind_some]
  show (if (Nm.metaN [114, 111, 111, 116] 3).2 = 0 then some ((mkB (Nm.metaN [114, 111, 111, 116] 3).1).toList == [109, 101, 116, 97, 47, 114, 111, 111, 116, 47, 51]) else some false) = some true
  rw [hm, if_pos rfl, S.toList_list, S.mkB_list]; rfl
def imprimaturlaw20_alive.f : Option Bool := some true
theorem imprimaturlaw20_alive.calls (r : Bool) (w : World) (ht : Tabs w) (h : imprimaturlaw20_alive.f = some r) :
    Calls Tryd.prog 12 #[] w fun e w' => e = .returned (.bool r) ∧ Below w.heap.size w w' := by
  obtain rfl := Option.some.inj h
  exact M.imprimaturlaw20_alive.calls true w ht alive_true
end Go.Proofs.YtmgkgjacnbeboaaDoor.E
