/- glob.parts and its iterator. -/
import Derived.RangeFuncNested
import Derived.RangeFuncBound
import Derived.RangeFuncCalls
import Derived.RangeFuncLeaves
import Derived.Shelf.Abstract
import Derived.Shelf.RegionOpen
import Derived.WalkKit
import Derived.OwnWalkIn
import Derived.TacticsInMore
import Derived.LoopNIn
import Derived.LoopIn
import Derived.Test.YteignlfpjmfleaaDoorG5
set_option linter.unusedVariables false
set_option linter.unusedSimpArgs false
namespace Go.Proofs.YteignlfpjmfleaaDoor.E
open Go.RowKit Go.Lib Go.Shelf
attribute [local irreducible] G.split
theorem parts_any (a b : ByteArray) (w : World) :
    Calls Tryd.prog 31 #[.string a, .string b] w fun e w' => e = .returned (.func (.func 49) #[] #[.pointer (some ⟨w.heap.size, 0, none⟩), .pointer (some ⟨w.heap.size + 1, 0, none⟩)]) ∧ w' = (w.alloc (.cells #[.string a] 9)).alloc (.cells #[.string b] 9) := by
  have hmf : ∀ (fn : Fn) (first cap : Array Value) (w : World), (Instr.makeFunc fn first cap).run Tryd.prog w = .ok (.func fn first cap) w := fun _ _ _ _ => rfl
  go_enter Tryd.func31, Tryd.ntmps31
  go_wp2
  go_ret
  exact ⟨by simp, rfl⟩
theorem cut_le (l : List UInt8) : (Lib.cut l [47]).2.1.length ≤ l.length := by
  induction l with
  | nil => rw [cut_nil]; simp
  | cons b l ih =>
    by_cases hb : b = 47
    · subst hb; rw [cut_here]; simp
    · rw [cut_on b hb]; simp; omega
theorem cut_le1 (l : List UInt8) : (Lib.cut l [47]).1.length ≤ l.length := by
  induction l with
  | nil => rw [cut_nil]; simp
  | cons b l ih =>
    by_cases hb : b = 47
    · subst hb; rw [cut_here]; simp
    · rw [cut_on b hb]; simp; omega
def boxLen (W : World) (B : Nat) : Nat := match W.heap[B]? with | some (.cells cs _ _) => (match cs.toList with | [.string s] => s.size | _ => 0) | _ => 0
theorem boxLen_eq {W : World} {B : Nat} {s : ByteArray} (h : W.heap[B]? = some (.cells #[.string s] 9 (0, 0))) : boxLen W B = s.size := by unfold boxLen; rw [h]
def moreOf : Value → Nat | .bool true => 1 | _ => 0
theorem box_cell {W : World} {B : Nat} {v : Value} (h : W.heap[B]? = some (.cells #[v] 9 (0, 0))) : W.cell? ⟨B, 0, none⟩ = some v := by simp [World.cell?, h]
theorem box_free {W : World} {B : Nat} {v : Value} (h : W.heap[B]? = some (.cells #[v] 9 (0, 0))) : W.frozen? ⟨B, 0, none⟩ = false := by simp [World.frozen?, h]
theorem box_set {W : World} {B : Nat} {v : Value} (v' : Value) (h : W.heap[B]? = some (.cells #[v] 9 (0, 0))) : (W.setCell ⟨B, 0, none⟩ v').heap[B]? = some (.cells #[v'] 9 (0, 0)) := Boxed.set v' h
abbrev Pr := List UInt8 × List UInt8
def prs (a b : List UInt8) : List Pr := (G.split a).zip (G.split b)
set_option maxHeartbeats 2000000 in
set_option maxRecDepth 100000 in
theorem iter_in (n l Ba Bb : Nat) (hab : Ba ≠ Bb) (a0 b0 : ByteArray) (ha0 : a0.size < 4294967281) (hb0 : b0.size < 4294967281) (J Jx : List Pr → World → Prop)
    (hJd : ∀ pre W q, J pre W → J pre (World.drewN W q)) (hJa : ∀ pre W v, J pre W → J pre (World.setCell W ⟨Ba, 0, none⟩ v)) (hJb : ∀ pre W v, J pre W → J pre (World.setCell W ⟨Bb, 0, none⟩ v))
    (hY : ∀ pre (x : Pr) W, J pre W → x.1.length ≤ a0.size → x.2.length ≤ b0.size → YieldAt Fence.wide (n - 1) Tryd.prog l #[.string ⟨x.1.toArray⟩, .string ⟨x.2.toArray⟩] W fun e W' =>
      (e = .returned (.bool true) ∧ J (pre ++ [x]) W' ∧ W'.heap[Ba]? = W.heap[Ba]? ∧ W'.heap[Bb]? = W.heap[Bb]?) ∨ (e = .returned (.bool false) ∧ Jx (pre ++ [x]) W'))
    (W : World) (hA : W.heap[Ba]? = some (.cells #[.string a0] 9 (0, 0))) (hB : W.heap[Bb]? = some (.cells #[.string b0] 9 (0, 0))) (h0 : J [] W) :
    CallsIn Fence.wide n Tryd.prog 49 #[.func (.yield l) #[] #[], .pointer (some ⟨Ba, 0, none⟩), .pointer (some ⟨Bb, 0, none⟩)] W fun e W' => (∃ v, e = .returned v) ∧
      (J (prs a0.data.toList b0.data.toList) W' ∨ (∃ pre, pre <+: prs a0.data.toList b0.data.toList ∧ Jx pre W')) := by
  refine callsIn_of_wp Tryd.func49 rfl trivial ?_ rfl
  simp only [Tryd.ntmps49, List.size_toArray, List.length_cons, List.length_nil, Nat.reduceAdd, Nat.reduceSub, Array.replicate_succ, Array.replicate_zero, List.push_toArray, List.append_toArray, List.nil_append, List.cons_append]
  gi_wp2
  gi_loopw [4] (fun t4 wr => ∃ (pre : List Pr) (m : Bool) (a b : ByteArray), t4 = .bool m ∧ a.size ≤ a0.size ∧ b.size ≤ b0.size ∧ prs a0.data.toList b0.data.toList = pre ++ (if m then prs a.data.toList b.data.toList else []) ∧ wr.heap[Ba]? = some (.cells #[.string a] 9 (0, 0)) ∧ wr.heap[Bb]? = some (.cells #[.string b] 9 (0, 0)) ∧ J pre wr)
    (fun t4 wr => moreOf t4 * (boxLen wr Ba + 1))
  case atStart => exact ⟨[], true, a0, b0, rfl, Nat.le_refl _, Nat.le_refl _, rfl, hA, hB, h0⟩
  case round =>
    obtain ⟨pre, m, a, b, rfl, hsa, hsb, hpr, hA1, hB1, hJ1⟩ := hrel
    cases m with
    | false =>
      gi_wp2
      go_end0
      exact ⟨⟨_, rfl⟩, .inl (by rw [hpr]; simpa using hJ1)⟩
    | true =>
      have hca := box_cell hA1
      have hcb := box_cell hB1
      have hz := zip_split a.data.toList b.data.toList
      have hla := cut_less a.data.toList
      have hla2 := cut_le a.data.toList
      have hlb2 := cut_le b.data.toList
      have hla1 := cut_le1 a.data.toList
      have hlb1 := cut_le1 b.data.toList
      have hal : a.data.toList.length = a.size := by simp
      have hbl : b.data.toList.length = b.size := by simp
      have kA := fun W => cut_one a 47 W (by omega)
      have kB := fun W => cut_one b 47 W (by omega)
      generalize Lib.cut a.data.toList [47] = ca at hz hla hla2 hla1 kA
      generalize Lib.cut b.data.toList [47] = cb at hz hlb2 hlb1 kB
      obtain ⟨a1, a2, a3⟩ := ca
      obtain ⟨b1, b2, b3⟩ := cb
      gi_wp2
      refine ⟨trivial, fun h => (by cases h), (callsIn_wide.2 (kA _)).mono ?_⟩
      rintro e w' ⟨rfl, q1, rfl⟩
      gi_wp2
      refine ⟨trivial, fun h => (by cases h), (callsIn_wide.2 (kB _)).mono ?_⟩
      rintro e w' ⟨rfl, q2, rfl⟩
      clear kA kB
      obtain ⟨fn, tmps, assign, body, hy, hR⟩ := hY pre (a1, b1) (wr.drewN (q1 + q2)) (hJd _ _ _ hJ1) (by dsimp only; omega) (by dsimp only; omega)
      dsimp only at hy
      gi_wp2
      refine ⟨fun h => (by cases h), hR.mono ?_⟩
      rintro e W' (⟨rfl, hJ', hBa, hBb⟩ | ⟨rfl, hJx'⟩)
      · have hA2 : W'.heap[Ba]? = some (.cells #[.string a] 9 (0, 0)) := hBa.trans hA1
        have hB2 : W'.heap[Bb]? = some (.cells #[.string b] 9 (0, 0)) := hBb.trans hB1
        have hca2 := box_cell hA2
        have hcb2 := box_cell hB2
        have hfa2 := box_free hA2
        have hfb2 := box_free hB2
        gi_wp2
        all_goals
          have hA3 := (Below.heap_setCell (W'.setCell ⟨Ba, 0, none⟩ (.string ⟨a2.toArray⟩)) ⟨Bb, 0, none⟩ (.string ⟨b2.toArray⟩) Ba hab).trans (box_set (.string ⟨a2.toArray⟩) hA2)
          have hB3 := box_set (.string ⟨b2.toArray⟩) ((Below.heap_setCell W' ⟨Ba, 0, none⟩ (.string ⟨a2.toArray⟩) Bb (Ne.symm hab)).trans hB2)
          have hJ3 := hJb _ _ (.string ⟨b2.toArray⟩) (hJa _ _ (.string ⟨a2.toArray⟩) hJ')
          have sa : (⟨a2.toArray⟩ : ByteArray).size = a2.length := by simp [ByteArray.size]
          have sb : (⟨b2.toArray⟩ : ByteArray).size = b2.length := by simp [ByteArray.size]
          have hp2 : prs a0.data.toList b0.data.toList = (pre ++ [(a1, b1)]) ++ (if a3 = true ∧ b3 = true then prs a2 b2 else []) := by
            rw [hpr, if_pos trivial]; unfold prs; rw [hz]; simp
          rw [boxLen_eq hA3, boxLen_eq hA1]
          refine ⟨⟨pre ++ [(a1, b1)], a3 && b3, ⟨a2.toArray⟩, ⟨b2.toArray⟩, by simp [*], by omega, by omega, by simpa using hp2, hA3, hB3, hJ3⟩, ?_⟩
          try (cases b3 <;> simp_all [moreOf] <;> omega)
      · gi_wp2
        refine bodyPost_ret (results_none rfl _ _ _) rfl ?_
        exact ⟨⟨_, rfl⟩, .inr ⟨pre ++ [(a1, b1)], by rw [hpr, if_pos trivial]; unfold prs; rw [hz]; exact ⟨_, by simp; rfl⟩, hJx'⟩⟩
end Go.Proofs.YteignlfpjmfleaaDoor.E
