/- What the law GlobMatches works with: short, the reference's Right and Match as contracts, what a round tells. -/
import Derived.Test.YteignlfpjmfleaaDoorGa
import Derived.Test.YteignlfpjmfleaaDoorQ1
import Derived.Lib.Hide
set_option linter.unusedVariables false
set_option linter.unusedSimpArgs false
namespace Go.Proofs.YteignlfpjmfleaaDoor.E
open Go.RowKit Go.Lib Go.Shelf Go.Proofs.YteignlfpjmfleaaDoorW.PrintWords Go.Proofs.YteignlfpjmfleaaDoorW.PrintLast Go.Proofs.YteignlfpjmfleaaDoorW.PrintMore
attribute [local go_sem] max2_int min2_int max_two min_two
def cutS (s : ByteArray) : ByteArray := s.extract 0 (min s.size 205)
theorem cutS_size (s : ByteArray) : (cutS s).size ≤ 205 := by unfold cutS; rw [ByteArray.size_extract]; omega
def procS (k : Nat) (l : List ByteArray) : List ByteArray := (l.take k).map cutS ++ l.drop k
theorem procS_length (k : Nat) (l : List ByteArray) : (procS k l).length = l.length := by simp [procS]; omega
theorem procS_get (k : Nat) (l : List ByteArray) (h : k < l.length) : rdOf ByteArray.empty (procS k l) k = l[k] := by
  have e : (List.map cutS (List.take k l)).length = k := by simp; omega
  rw [rdOf, procS, List.getD_eq_getElem?_getD, Int.toNat_natCast, List.getElem?_append_right (by omega), e, Nat.sub_self]
  simp [h]
theorem procS_step (k : Nat) (l : List ByteArray) (h : k < l.length) : (procS k l).set k (cutS (rdOf ByteArray.empty (procS k l) k)) = procS (k + 1) l := by
  rw [procS_get k l h]
  have e : (List.map cutS (List.take k l)).length = k := by simp; omega
  unfold procS
  rw [List.set_append, if_neg (by omega), e, Nat.sub_self, List.drop_eq_getElem_cons h, List.set_cons_zero, List.take_succ_eq_append_getElem h, List.map_append, List.append_assoc]
  rfl
theorem procS_zero (l : List ByteArray) : procS 0 l = l := by simp [procS]
theorem procS_all (l : List ByteArray) (k : Nat) (h : l.length ≤ k) : procS k l = l.map cutS := by
  rw [procS, List.take_of_length_le h, List.drop_of_length_le h, List.append_nil]
set_option maxHeartbeats 1000000 in
theorem short_any (s : ByteArray) (w : World) : Calls Tryd.prog 7 #[.string s] w fun e w' => e = .returned (.string (cutS s)) ∧ w = w' := by
  obtain ⟨n, hn⟩ : ∃ n : Nat, (if (205 : Int) < (s.size : Int) then (205 : Int) else (s.size : Int)) = (n : Int) := by
    split
    · exact ⟨205, rfl⟩
    · exact ⟨_, rfl⟩
  have hn1 : n ≤ s.size := by split at hn <;> omega
  have e : cutS s = s.extract 0 n := by
    unfold cutS
    have : min s.size 205 = n := by split at hn <;> omega
    rw [this]
  rw [e]
  clear e
  go_enter Tryd.func7, Tryd.ntmps7
  go_wp2
  go_ret
  exact ⟨by simp, rfl⟩
theorem rright_any (s : ByteArray) (pat : Bool) (w : World) (hs : s.size ≤ 1000) : Calls Tryd.prog 8 #[.string s, .bool pat] w fun e w' => e = .returned (.bool (G.right pat s.data.toList)) ∧ Below w.heap.size w w' :=
  X.imprimaturref13_Right.calls (2 * s.size + 4) s pat _ w (Q.right_f s pat (by omega) _ (Nat.le_refl _))
theorem rmatch_any (p s : ByteArray) (w : World) (hp : p.size ≤ 1000) (hs : s.size ≤ 1000) : Calls Tryd.prog 9 #[.string p, .string s] w fun e w' => e = .returned (.bool (G.mt p.data.toList s.data.toList)) ∧ Below w.heap.size w w' :=
  X.imprimaturref13_Match.calls (1000 * (1000 + 3) + 2 * 1000 + 4) p s _ w (Q.match_f p s 1000 hp hs (by omega) _ (Nat.le_refl _))
/-- The first of the first k that a path is one of; -1: none yet. -/
def atI (P : List (List UInt8)) (s : List UInt8) (k : Nat) : Int := match (P.take k).findIdx? (fun p => may p s) with | some i => (i : Int) | none => -1
def eB (P : List (List UInt8)) (s : List UInt8) (k : Nat) : Bool := G.right false s && (P.take k).all (G.right true)
theorem atI_zero (P s) : atI P s 0 = -1 := by simp [atI]
theorem eB_zero (P s) : eB P s 0 = G.right false s := by simp [eB]
theorem atI_step (P : List (List UInt8)) (s : List UInt8) (k : Nat) (h : k < P.length) : atI P s (k + 1) = if 0 ≤ atI P s k then atI P s k else if may P[k] s = true then (k : Int) else -1 := by
  unfold atI
  rw [List.take_succ_eq_append_getElem h, List.findIdx?_append]
  cases e : (P.take k).findIdx? (fun p => may p s) with
  | some i => simp
  | none =>
    rw [Option.none_or]
    have hl : (P.take k).length = k := by simp; omega
    rw [hl, List.findIdx?_singleton]
    by_cases hm : may P[k] s = true <;> simp [hm]
theorem atI_lo (P : List (List UInt8)) (s : List UInt8) (k : Nat) : -1 ≤ atI P s k ∧ atI P s k ≤ k := by
  unfold atI
  split
  · rename_i i e
    have := (List.findIdx?_eq_some_iff_getElem.1 e).1
    simp at this; omega
  · omega
theorem eB_step (P : List (List UInt8)) (s : List UInt8) (k : Nat) (h : k < P.length) : eB P s (k + 1) = (eB P s k && G.right true P[k]) := by
  unfold eB
  rw [List.take_succ_eq_append_getElem h, List.all_append]; simp [Bool.and_assoc]
theorem eB_right (P : List (List UInt8)) (s : List UInt8) (k : Nat) (h : eB P s k = true) : G.right false s = true := by
  unfold eB at h; exact (Bool.and_eq_true _ _ ▸ h).1
/-- What Any tells of the row is what the rounds have told. -/
theorem which_rounds (P : List (List UInt8)) (s : List UInt8) (k : Nat) (h : P.length ≤ k) : G.which P s = if eB P s k = true then (if 0 ≤ atI P s k then (atI P s k, 0) else (0, 36)) else (0, 1) := by
  unfold G.which eB
  rw [List.take_of_length_le h]
  by_cases h1 : G.right false s = true
  · by_cases h2 : P.all (G.right true) = true
    · rw [if_pos ⟨h1, h2⟩, if_pos (by rw [h1, h2]; rfl)]
      unfold atI
      rw [List.take_of_length_le h]
      have e : ∀ Q : List (List UInt8), Q.all (G.right true) = true → Q.findIdx? (fun p => may p s) = Q.findIdx? (fun p => G.mt p s) := by
        intro Q
        induction Q with
        | nil => intro _; rfl
        | cons a t ih =>
          intro hq
          rw [List.all_cons, Bool.and_eq_true] at hq
          have hm : may a s = G.mt a s := by unfold may; rw [h1, hq.1]; rfl
          rw [List.findIdx?_cons, List.findIdx?_cons, hm, ih hq.2]
      rw [e P h2]
      cases P.findIdx? (fun p => G.mt p s) with
      | some i => simp
      | none => simp
    · rw [if_neg (fun h => h2 h.2), if_neg (by rw [Bool.and_eq_true]; exact fun h => h2 h.2)]
  · rw [if_neg (fun h => h1 h.1), if_neg (by rw [Bool.and_eq_true]; exact fun h => h1 h.1)]
end Go.Proofs.YteignlfpjmfleaaDoor.E
