/- The law GlobFirst over plain texts: what its printed form computes is true for any text and two rows. -/
import Derived.Test.YteignlfpjmfleaaDoorX10
import Derived.Test.YteignlfpjmfleaaDoorM1
import Derived.Test.YteignlfpjmfleaaDoorPureGlobStars
set_option linter.unusedVariables false
set_option linter.unusedSimpArgs false
namespace Go.Proofs.YteignlfpjmfleaaDoor.Pure
open Go.RowKit Go.Proofs.YteignlfpjmfleaaDoor Go.Proofs.YteignlfpjmfleaaDoor.X Go.Proofs.YteignlfpjmfleaaDoor.E Go.Proofs.YteignlfpjmfleaaDoorW.PrintWords Go.Proofs.YteignlfpjmfleaaDoorW.PrintLast
theorem short_cut (a : ByteArray) : imprimaturlaw13_short.f a = some (cutS a) := by
  unfold imprimaturlaw13_short.f cutS
  rw [show (205 : Int) = ((205 : Nat) : Int) from rfl, mn_nat, if_pos (by omega), if_pos (by omega), Int.toNat_natCast]
theorem wrap_next (j : Nat) (h : j ≤ 100) : wrap64 ((j : Int) + 1) = ((j + 1 : Nat) : Int) := by unfold wrap64; omega
theorem l0_run (s : ByteArray) (L1 x2 : List ByteArray) (h6 : L1.length ≤ 6) (K : Nat) : ∀ n j, j + n = L1.length →
    imprimaturlaw13_GlobFirst.l0 (K + n + 1) s (procS j L1) x2 (L1.length : Int) (j : Int) = imprimaturlaw13_GlobFirst.l1 K s (L1.map cutS) x2 (x2.length : Int) 0 := by
  intro n
  induction n with
  | zero =>
    intro j hj
    rw [imprimaturlaw13_GlobFirst.l0, if_neg (by omega), procS_all L1 j (by omega)]
  | succ n ih =>
    intro j hj
    rw [imprimaturlaw13_GlobFirst.l0, if_pos (by omega), if_pos (by omega), if_pos (by rw [procS_length]; omega), short_cut, Option.bind_some, Int.toNat_natCast, procS_step j L1 (by omega), wrap_next j (by omega)]
    exact ih (j + 1) (by omega)
theorem l1_run (s : ByteArray) (x1 L2 : List ByteArray) (h6 : L2.length ≤ 6) (K : Nat) : ∀ n j, j + n = L2.length →
    imprimaturlaw13_GlobFirst.l1 (K + n) s x1 (procS j L2) (L2.length : Int) (j : Int) = imprimaturlaw13_GlobFirst.l1 K s x1 (L2.map cutS) (L2.length : Int) (L2.length : Int) := by
  intro n
  induction n with
  | zero =>
    intro j hj
    rw [procS_all L2 j (by omega), show j = L2.length from by omega]; rfl
  | succ n ih =>
    intro j hj
    rw [show K + (n + 1) = (K + n) + 1 from rfl, imprimaturlaw13_GlobFirst.l1, if_pos (by omega), if_pos (by omega), if_pos (by rw [procS_length]; omega), short_cut, Option.bind_some, Int.toNat_natCast, procS_step j L2 (by omega), wrap_next j (by omega)]
    exact ih (j + 1) (by omega)
/-- The row's end, where each pattern of the second row may be. -/
def fin (x9 x10 x11 x12 : Int) (n : Nat) : Option Bool := if x10 = 0 then (if x12 = 0 then (some (x11 == x9)) else (some false)) else (if x10 = 1 then (if x12 = 1 then (some true) else (if x10 = 36 then (if x12 = 36 then (some true) else (if x12 = 0 then (some (decide (x11 ≥ (n : Int)))) else (some false))) else (some false))) else (if x10 = 36 then (if x12 = 36 then (some true) else (if x12 = 0 then (some (decide (x11 ≥ (n : Int)))) else (some false))) else (some false)))
theorem l2_run (x1 x2 : List ByteArray) (x9 x10 x11 x12 : Int) (h6 : x2.length ≤ 6) (hz : ∀ z ∈ x2, z.size ≤ 205) (K : Nat) (hK : 1000 ≤ K) : ∀ n j, j + n = x2.length →
    imprimaturlaw13_GlobFirst.l2 (K + n + 1) x1 x9 x10 x11 x12 x2 (x2.length : Int) (j : Int) = if (dat (x2.drop j)).all (G.right true) = true then fin x9 x10 x11 x12 x1.length else some (x12 == 1) := by
  intro n
  induction n with
  | zero =>
    intro j hj
    rw [imprimaturlaw13_GlobFirst.l2, if_neg (by omega), List.drop_of_length_le (by omega)]; rfl
  | succ n ih =>
    intro j hj
    have hlt : j < x2.length := by omega
    have hs := hz _ (List.getElem_mem hlt)
    have hrd : rdOf ByteArray.empty x2 (j : Int) = x2[j] := by rw [rdOf, Int.toNat_natCast, List.getD_eq_getElem?_getD, List.getElem?_eq_getElem hlt]; rfl
    have ih' := ih (j + 1) (by omega)
    rw [Nat.add_assoc] at ih'
    rw [imprimaturlaw13_GlobFirst.l2, if_pos (by omega), if_pos (by omega), if_pos (by omega), hrd, Q.right_f _ true (by omega) _ (by omega), Option.bind_some, wrap_next j (by omega), ih', List.drop_eq_getElem_cons hlt]
    show (if G.right true x2[j].data.toList = true then _ else _) = (if (G.right true x2[j].data.toList && (dat (x2.drop (j + 1))).all (G.right true)) = true then _ else _)
    cases G.right true x2[j].data.toList <;> simp
theorem dat_app (a b : List ByteArray) : dat (a ++ b) = dat a ++ dat b := by simp [dat]
theorem any_f (s : ByteArray) (l : List ByteArray) (hs : s.size ≤ 205) (hz : ∀ z ∈ l, z.size ≤ 205) : glob_Any.f s l = some (G.which (dat l) s.data.toList) := by
  unfold glob_Any.f
  rw [if_pos ⟨by omega, List.all_eq_true.2 fun z h => by have := hz z h; simp; omega⟩]
theorem tail_run (s : ByteArray) (x1 x2 : List ByteArray) (hs : s.size ≤ 205) (h1 : x1.length ≤ 6) (h2 : x2.length ≤ 6) (hz1 : ∀ z ∈ x1, z.size ≤ 205) (hz2 : ∀ z ∈ x2, z.size ≤ 205) (K : Nat) (hK : 2000 ≤ K) :
    imprimaturlaw13_GlobFirst.l1 (K + 1) s x1 x2 (x2.length : Int) (x2.length : Int) = some true := by
  have hL2 := fun x9 x10 x11 x12 => l2_run x1 x2 x9 x10 x11 x12 h2 hz2 (K - 2 - x2.length) (by omega) x2.length 0 (by omega)
  rw [show K - 2 - x2.length + x2.length + 1 = K - 1 from by omega, List.drop_zero] at hL2
  have hJ : ∀ x9 x10 x11 x12, imprimaturlaw13_GlobFirst.j2 K x1 x2 x9 x10 x11 x12 false = if (dat x2).all (G.right true) = true then fin x9 x10 x11 x12 x1.length else some (x12 == 1) := by
    intro x9 x10 x11 x12
    obtain ⟨K', rfl⟩ : ∃ K', K = K' + 1 := ⟨K - 1, by omega⟩
    rw [imprimaturlaw13_GlobFirst.j2, if_neg (by simp)]
    exact hL2 x9 x10 x11 x12
  have hz12 : ∀ z ∈ x1 ++ x2, z.size ≤ 205 := fun z hz => by
    rcases List.mem_append.1 hz with h | h
    · exact hz1 z h
    · exact hz2 z h
  have hd1 : (dat x1).length = x1.length := by simp [dat]
  rw [imprimaturlaw13_GlobFirst.l1, if_neg (by omega), any_f s x1 hs hz1, Option.bind_some, Option.bind_some, if_pos (by simp; omega), Option.bind_some, if_pos (by simp; omega), List.nil_append, any_f s (x1 ++ x2) hs hz12, Option.bind_some, dat_app]
  unfold imprimaturlaw13_alive.f
  simp only [Option.bind_some, Bool.not_true, hJ]
  by_cases hA : G.right false s.data.toList = true ∧ (dat x1).all (G.right true) = true
  · have e1 : G.which (dat x1) s.data.toList = (match (dat x1).findIdx? (fun p => G.mt p s.data.toList) with | some i => ((i : Nat), 0) | none => (0, 36)) := by unfold G.which; rw [if_pos hA]; rfl
    by_cases hB : (dat x2).all (G.right true) = true
    · have e2 : G.which (dat x1 ++ dat x2) s.data.toList = (match (dat x1 ++ dat x2).findIdx? (fun p => G.mt p s.data.toList) with | some i => ((i : Nat), 0) | none => (0, 36)) := by
        unfold G.which; rw [if_pos ⟨hA.1, by rw [List.all_append, hA.2, hB]; rfl⟩]; rfl
      rw [e1, e2, List.findIdx?_append]
      cases hf : (dat x1).findIdx? (fun p => G.mt p s.data.toList) with
      | some i =>
        obtain ⟨hi, hm, _⟩ := List.findIdx?_eq_some_iff_getElem.1 hf
        have hi' : i < x1.length := by omega
        have hrd : rdOf ByteArray.empty x1 (i : Int) = x1[i] := by rw [rdOf, Int.toNat_natCast, List.getD_eq_getElem?_getD, List.getElem?_eq_getElem hi']; rfl
        have hsz := hz1 _ (List.getElem_mem hi')
        have hg : (dat x1)[i] = x1[i].data.toList := by simp [dat]
        have hmay : may x1[i].data.toList s.data.toList = true := by
          unfold may
          rw [hg] at hm
          rw [hA.1, hm]
          have := List.all_eq_true.1 hA.2 _ (List.getElem_mem hi)
          rw [hg] at this; rw [this]; rfl
        have hM : glob_Match.f (rdOf ByteArray.empty x1 (i : Int)) s = some true := by rw [hrd, match_f' _ s (by omega) (by omega), hmay]
        simp only [Option.some_or]
        rw [if_pos trivial, if_neg (by omega), if_neg (by omega), if_pos (by omega), if_pos (by omega), hM, Option.bind_some, if_pos rfl, if_pos hB]
        simp [fin]
      | none =>
        rw [Option.none_or]
        simp only []
        rw [if_neg (by decide), if_pos hB]
        cases (dat x2).findIdx? (fun p => G.mt p s.data.toList) with
        | none => simp [fin]
        | some i =>
          simp only [Option.map_some]
          unfold fin
          rw [if_neg (by decide), if_neg (by decide), if_pos rfl, if_neg (by decide), if_pos rfl, decide_eq_true (by rw [hd1]; omega)]
    · have e2 : G.which (dat x1 ++ dat x2) s.data.toList = (0, 1) := by
        unfold G.which; rw [if_neg (fun h => hB (by have := h.2; rw [List.all_append, Bool.and_eq_true] at this; exact this.2))]
      rw [e1, e2]
      cases hf : (dat x1).findIdx? (fun p => G.mt p s.data.toList) with
      | some i =>
        obtain ⟨hi, hm, _⟩ := List.findIdx?_eq_some_iff_getElem.1 hf
        have hi' : i < x1.length := by omega
        have hrd : rdOf ByteArray.empty x1 (i : Int) = x1[i] := by rw [rdOf, Int.toNat_natCast, List.getD_eq_getElem?_getD, List.getElem?_eq_getElem hi']; rfl
        have hsz := hz1 _ (List.getElem_mem hi')
        have hg : (dat x1)[i] = x1[i].data.toList := by simp [dat]
        have hmay : may x1[i].data.toList s.data.toList = true := by
          unfold may
          rw [hg] at hm
          rw [hA.1, hm]
          have := List.all_eq_true.1 hA.2 _ (List.getElem_mem hi)
          rw [hg] at this; rw [this]; rfl
        have hM : glob_Match.f (rdOf ByteArray.empty x1 (i : Int)) s = some true := by rw [hrd, match_f' _ s (by omega) (by omega), hmay]
        simp only []
        rw [if_pos trivial, if_neg (by omega), if_neg (by omega), if_pos (by omega), if_pos (by omega), hM, Option.bind_some, if_pos rfl, if_neg hB]
        rfl
      | none =>
        simp only []
        rw [if_neg (by decide), if_neg hB]
        rfl
  · have e1 : G.which (dat x1) s.data.toList = (0, 1) := by unfold G.which; rw [if_neg hA]
    have e2 : G.which (dat x1 ++ dat x2) s.data.toList = (0, 1) := by
      unfold G.which; rw [if_neg (fun h => hA ⟨h.1, by have := h.2; rw [List.all_append, Bool.and_eq_true] at this; exact this.1⟩)]
    rw [e1, e2]
    simp only []
    rw [if_neg (by decide)]
    split
    · simp [fin]
    · rfl
theorem GlobFirst (a0 : ByteArray) (l1 l2 : List ByteArray) : ∃ k, imprimaturlaw13_GlobFirst.f k a0 l1 l2 = some true := by
  have hz : ∀ l : List ByteArray, ∀ z ∈ l.map cutS, z.size ≤ 205 := fun l z hz => by
    obtain ⟨z0, _, rfl⟩ := List.mem_map.1 hz
    exact cutS_size z0
  have t1 : (l1.take (min l1.length 6)).length ≤ 6 := by rw [List.length_take]; omega
  have t2 : (l2.take (min l2.length 6)).length ≤ 6 := by rw [List.length_take]; omega
  refine ⟨(2001 + (l2.take (min l2.length 6)).length) + (l1.take (min l1.length 6)).length + 1, ?_⟩
  unfold imprimaturlaw13_GlobFirst.f
  rw [short_cut, Option.bind_some, Option.bind_some, show (6 : Int) = ((6 : Nat) : Int) from rfl, mn_nat, mn_nat, if_pos (by omega), if_pos (by omega), Int.toNat_natCast, Int.toNat_natCast, List.nil_append]
  generalize l1.take (min l1.length 6) = L1 at t1
  generalize l2.take (min l2.length 6) = L2 at t2
  rw [if_pos (by simp; omega), Option.bind_some, Option.bind_some, if_pos (by omega), if_pos (by omega), if_pos (by simp; omega), List.nil_append]
  have h0 := l0_run (cutS a0) L1 L2 t1 (2001 + L2.length) L1.length 0 (by omega)
  rw [procS_zero] at h0
  have h1 := l1_run (cutS a0) (L1.map cutS) L2 t2 2001 L2.length 0 (by omega)
  rw [procS_zero] at h1
  have h3 := tail_run (cutS a0) (L1.map cutS) (L2.map cutS) (cutS_size _) (by simpa using t1) (by simpa using t2) (hz _) (hz _) 2000 (by omega)
  rw [List.length_map] at h3
  exact h0.trans (h1.trans h3)
theorem first_row {w : World} (a0 : ByteArray) (w0 : a0.size ≤ 140737488351232) (A1 : Option Addr) (c1 : Nat) (l1 : List ByteArray) (hr1 : Kd.C Kd.string w A1 l1.length l1) (hc1 : l1.length ≤ c1) (hb1 : l1.length * 16 ≤ 140737488351232) (A2 : Option Addr) (c2 : Nat) (l2 : List ByteArray) (hr2 : Kd.C Kd.string w A2 l2.length l2) (hc2 : l2.length ≤ c2) (hb2 : l2.length * 16 ≤ 140737488351232) :
    Calls Tryd.prog 4 #[.string a0, .slice A1 l1.length c1, .slice A2 l2.length c2] w fun e w' => e = .returned (.bool true) ∧ Below w.heap.size w w' := by
  obtain ⟨k, hk⟩ := GlobFirst a0 l1 l2
  exact imprimaturlaw13_GlobFirst.calls k a0 A1 c1 l1 A2 c2 l2 true w hr1 hc1 hr2 hc2 hk
end Go.Proofs.YteignlfpjmfleaaDoor.Pure
