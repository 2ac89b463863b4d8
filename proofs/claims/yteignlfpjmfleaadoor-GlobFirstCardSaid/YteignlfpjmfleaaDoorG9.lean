/- glob.Match for any two; glob.Any for any row; the law's alive. -/
import Derived.Test.YteignlfpjmfleaaDoorG8
set_option linter.unusedVariables false
set_option linter.unusedSimpArgs false
namespace Go.Proofs.YteignlfpjmfleaaDoor.E
open Go.RowKit Go.Lib Go.Shelf Go.Proofs.YteignlfpjmfleaaDoorW.PrintWords Go.Proofs.YteignlfpjmfleaaDoorW.PrintLast Go.Proofs.YteignlfpjmfleaaDoorW.PrintMore
/-- Whether a path is one of a pattern, both of which must be such as may be. -/
def may (p s : List UInt8) : Bool := G.right true p && G.right false s && G.mt p s
theorem alive_1 : may [97, 47, 42, 46, 116, 120, 116] [97, 47, 98, 46, 116, 120, 116] = true := by
  simp [may, G.right, G.mt, G.split, G.bad, G.byt, G.patB, G.plainB, G.pm_nil, G.pm_one_cons, G.pm_star_cons, G.pm_one_nil, G.pm_star_nil]
theorem alive_2 : may [97, 47, 42, 46, 116, 120, 116] [97, 47, 98, 47, 99, 46, 116, 120, 116] = false := by
  simp [may, G.right, G.mt, G.split]
attribute [local irreducible] G.split G.right
theorem mt_prs (p s : List UInt8) (h : p.count 47 = s.count 47) : G.mt p s = (prs p s).all (fun x => G.pm x.1 x.2) := by
  unfold G.mt prs; rw [split_count, split_count, h]; simp
theorem mt_ne (p s : List UInt8) (h : ¬ p.count 47 = s.count 47) : G.mt p s = false := by
  unfold G.mt; rw [split_count, split_count]; simp [h]
theorem Match_any (p s : ByteArray) (w : World) (hp : p.size < 4294967281) (hs : s.size < 4294967281) :
    Calls Tryd.prog 13 #[.string p, .string s] w fun e w' => e = .returned (.bool (may p.data.toList s.data.toList)) ∧ Below w.heap.size w w' := by
  by_cases h : G.right true p.data.toList = true ∧ G.right false s.data.toList = true ∧ p.data.toList.count 47 = s.data.toList.count 47
  · obtain ⟨h1, h2, h3⟩ := h
    have e : may p.data.toList s.data.toList = (prs p.data.toList s.data.toList).all (fun x => G.pm x.1 x.2) := by
      unfold may; rw [h1, h2, mt_prs _ _ h3]; rfl
    rw [e]
    exact Match_yes p s w hp hs h1 h2 h3
  · have e : may p.data.toList s.data.toList = false := by
      unfold may
      by_cases h1 : G.right true p.data.toList = true
      · by_cases h2 : G.right false s.data.toList = true
        · rw [mt_ne _ _ (fun h3 => h ⟨h1, h2, h3⟩), Bool.and_false]
        · rw [Bool.eq_false_iff.2 h2]; simp
      · rw [Bool.eq_false_iff.2 h1]; simp
    rw [e]
    exact Match_not p s w hp hs h
attribute [local irreducible] may
set_option maxHeartbeats 2000000 in
theorem alive_any (w : World) : Calls Tryd.prog 14 #[] w fun e w' => e = .returned (.bool true) ∧ Below w.heap.size w w' := by
  have h1 := fun W => Match_any ⟨#[97, 47, 42, 46, 116, 120, 116]⟩ ⟨#[97, 47, 98, 46, 116, 120, 116]⟩ W (by decide) (by decide)
  have h2 := fun W => Match_any ⟨#[97, 47, 42, 46, 116, 120, 116]⟩ ⟨#[97, 47, 98, 47, 99, 46, 116, 120, 116]⟩ W (by decide) (by decide)
  have e1 := alive_1
  have e2 := alive_2
  simp only [] at h1 h2
  rw [e1] at h1
  rw [e2] at h2
  clear e1 e2
  go_enter Tryd.func14, Tryd.ntmps14
  go_wp2_with (first
    | (go_at_call 13; refine (h1 _).mono ?_; clear h1; rintro e w' ⟨rfl, hb⟩; have HC := Aside0.mk hb; clear hb)
    | (go_at_call 13; refine (h2 _).mono ?_; clear h2; rintro e w' ⟨rfl, hb⟩; have HD := Aside0.mk (below_step HC.out hb); clear hb HC))
  go_ret
  exact ⟨rfl, HD.out⟩
set_option maxHeartbeats 2000000 in
theorem any1 (p : ByteArray) (w : World) (hp : p.size < 4294967281) : Calls Tryd.prog 25 #[.string p] w fun e w' => e = .returned (.bool (!G.right true p.data.toList)) ∧ Below w.heap.size w w' := by
  have h1 := fun W => Right_any p W hp
  generalize G.right true p.data.toList = r at h1
  go_enter Tryd.func25, Tryd.ntmps25
  go_wp2_with (go_at_call 11; refine (h1 _).mono ?_; clear h1; rintro e w' ⟨rfl, hb⟩; have HC := Aside0.mk hb; clear hb)
  go_ret
  exact ⟨rfl, HC.out⟩
set_option maxHeartbeats 2000000 in
theorem any2 (p s : ByteArray) (B : Nat) (w : World) (hc : w.cell? ⟨B, 0, none⟩ = some (.string s)) (hp : p.size < 4294967281) (hs : s.size < 4294967281) : Calls Tryd.prog 27 (#[.string p] ++ #[.pointer (some ⟨B, 0, none⟩)]) w fun e w' => e = .returned (.bool (may p.data.toList s.data.toList)) ∧ Below w.heap.size w w' := by
  have h1 := fun W => Match_any p s W hp hs
  generalize may p.data.toList s.data.toList = r at h1
  show Calls Tryd.prog 27 #[.string p, .pointer (some ⟨B, 0, none⟩)] w _
  go_enter Tryd.func27, Tryd.ntmps27
  go_wp2_with (go_at_call 13; refine (h1 _).mono ?_; clear h1; rintro e w' ⟨rfl, hb⟩; have HC := Aside0.mk hb; clear hb)
  go_ret
  exact ⟨rfl, HC.out⟩
end Go.Proofs.YteignlfpjmfleaaDoor.E
