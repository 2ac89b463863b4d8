/- name.kinds: the map that it makes; a role's name; joined parts. -/
import Derived.Test.YtmgkgjacnbeboaaDoorH1
import Derived.Maps.OwnSet
import Derived.Maps.Views
import Derived.Carry
set_option linter.unusedVariables false
set_option linter.unusedSimpArgs false
namespace Go.Proofs.YtmgkgjacnbeboaaDoor.E
open Go.RowKit Go.Lib Go.Shelf Go.Proofs.YtmgkgjacnbeboaaDoorW.PrintWords Go.Proofs.YtmgkgjacnbeboaaDoorW.PrintLast Go.Proofs.YtmgkgjacnbeboaaDoorW.PrintMore
/-- How an element of two numbers reads. -/
def pr (a b : Int) : DataW Unit := .agg [.lit (.int .i64 a), .lit (.int .i64 b)]
def pairL : List Value → Option (DataW Unit × List MemPlace)
  | [.int .i64 a, .int .i64 b] => some (pr a b, [])
  | _ => none
def pairR : Value → Option (DataW Unit × List MemPlace)
  | .agg xs => pairL xs.toList
  | _ => none
theorem pairR_mk (a b : Int) : pairR (.agg #[.int .i64 a, .int .i64 b]) = some (pr a b, []) := rfl
theorem pairL_inv {l : List Value} {a b : Int} {ps : List MemPlace} (h : pairL l = some (pr a b, ps)) : l = [.int .i64 a, .int .i64 b] := by
  unfold pairL at h
  split at h
  · rename_i a' b'
    have := congrArg Prod.fst (Option.some.inj h)
    unfold pr at this
    injection this with this
    injection this with h1 h2
    injection h2 with h2 _
    injection h1 with h1
    injection h2 with h2
    injection h1 with _ h1
    injection h2 with _ h2
    rw [h1, h2]
  · cases h
theorem pairR_inv {v : Value} {a b : Int} {ps : List MemPlace} (h : pairR v = some (pr a b, ps)) : v = .agg #[.int .i64 a, .int .i64 b] := by
  unfold pairR at h
  split at h
  · rename_i xs
    have := pairL_inv h
    have e : xs = #[.int .i64 a, .int .i64 b] := by rw [← Array.toArray_toList (xs := xs), this]
    rw [e]
  · cases h
def KD : DataW Unit := ((((DataW.map []).put (.string Nm.HEAD) (pr 3 0)).put (.string Nm.PATH) (pr 4 2)).put (.string Nm.STEP) (pr 5 2)).put (.string Nm.LEAF) (pr 6 1)
theorem KD_eq : KD = .map [(.string Nm.HEAD, pr 3 0), (.string Nm.LEAF, pr 6 1), (.string Nm.PATH, pr 4 2), (.string Nm.STEP, pr 5 2)] := by kernel_rfl
theorem KD_at (l : List UInt8) : KD.atKey (.string l) (pr 0 0) = match Nm.kd l with | some (k, n) => pr k n | none => pr 0 0 := by
  rw [KD_eq]
  unfold DataW.atKey Nm.kd
  simp only [List.find?_cons, Lit.sameKey]
  by_cases h1 : l = Nm.HEAD
  · subst h1; rfl
  · have e1 : (Nm.HEAD == l) = false := by simpa using (fun e => h1 e.symm)
    rw [if_neg h1, e1]
    by_cases h2 : l = Nm.PATH
    · subst h2; rfl
    · have e2 : (Nm.PATH == l) = false := by simpa using (fun e => h2 e.symm)
      rw [if_neg h2, e2]
      by_cases h3 : l = Nm.STEP
      · subst h3; rfl
      · have e3 : (Nm.STEP == l) = false := by simpa using (fun e => h3 e.symm)
        rw [if_neg h3, e3]
        by_cases h4 : l = Nm.LEAF
        · subst h4; rfl
        · have e4 : (Nm.LEAF == l) = false := by simpa using (fun e => h4 e.symm)
          rw [if_neg h4, e4]; rfl
theorem KD_has (l : List UInt8) : Maps.has KD (.string l) = (Nm.kd l).isSome := by
  rw [KD_eq, Maps.has_eq]
  unfold Nm.kd
  simp only [List.any_cons, List.any_nil, Lit.sameKey, Bool.or_false]
  by_cases h1 : l = Nm.HEAD
  · subst h1; rfl
  · have e1 : (Nm.HEAD == l) = false := by simpa using (fun e => h1 e.symm)
    rw [if_neg h1, e1]
    by_cases h2 : l = Nm.PATH
    · subst h2; rfl
    · have e2 : (Nm.PATH == l) = false := by simpa using (fun e => h2 e.symm)
      rw [if_neg h2, e2]
      by_cases h3 : l = Nm.STEP
      · subst h3; rfl
      · have e3 : (Nm.STEP == l) = false := by simpa using (fun e => h3 e.symm)
        rw [if_neg h3, e3]
        by_cases h4 : l = Nm.LEAF
        · subst h4; rfl
        · have e4 : (Nm.LEAF == l) = false := by simpa using (fun e => h4 e.symm)
          rw [if_neg h4, e4]; rfl
theorem key_str (s : ByteArray) (hs : s.size ≤ 9223372036854775807) : keyOf Tryd.prog 9 (.string s) = some (.string s.data.toList) := by
  simp [keyOf, mapKey, Tryd.underlying9, maxLen, hs]
def Kinds (w : World) (e : Ending) (w' : World) : Prop := e = .returned (.map (some w.heap.size)) ∧ Below w.heap.size w w' ∧ w'.ownsMap Tryd.prog 9 pairR w.heap.size 4 KD
set_option maxHeartbeats 2000000 in
theorem kinds_any (w : World) : Calls Tryd.prog 20 #[] w (Kinds w) := by
  have K := Maps.string_keyed Tryd.underlying9
  have o0 := World.ownsMap_made w Tryd.prog 9 pairR
  obtain ⟨w1, r1, o1, g1⟩ := o0.update K Tryd.underlying45 (by unfold maxLen; omega) (key_str ⟨#[104, 101, 97, 100]⟩ (by decide)) (pairR_mk 3 0)
  obtain ⟨w2, r2, o2, g2⟩ := o1.update K Tryd.underlying45 (by unfold maxLen; omega) (key_str ⟨#[112, 97, 116, 104]⟩ (by decide)) (pairR_mk 4 2)
  obtain ⟨w3, r3, o3, g3⟩ := o2.update K Tryd.underlying45 (by unfold maxLen; omega) (key_str ⟨#[115, 116, 101, 112]⟩ (by decide)) (pairR_mk 5 2)
  obtain ⟨w4, r4, o4, g4⟩ := o3.update K Tryd.underlying45 (by unfold maxLen; omega) (key_str ⟨#[108, 101, 97, 102]⟩ (by decide)) (pairR_mk 6 1)
  have b0 : Below w.heap.size w (w.alloc (.map #[] 0)) := (Below.refl _ _).alloc (Nat.le_refl _) _
  have b1 := b0.grown g1 b0.size (fun k e => by cases e; exact Nat.le_refl _)
  have b2 := b1.grown g2 b1.size (fun k e => by cases e; exact Nat.le_refl _)
  have b3 := b2.grown g3 b2.size (fun k e => by cases e; exact Nat.le_refl _)
  have b4 := b3.grown g4 b3.size (fun k e => by cases e; exact Nat.le_refl _)
  have HF := Lib.hid (And.intro b4 o4)
  clear o0 o1 o2 o3 o4 g1 g2 g3 g4 b0 b1 b2 b3 b4 K
  have hmm := @run_makeMap Tryd.prog
  go_enter Tryd.func20, Tryd.ntmps20
  go_wp2
  go_ret
  exact ⟨rfl, HF.out.1, HF.out.2⟩
end Go.Proofs.YtmgkgjacnbeboaaDoor.E
