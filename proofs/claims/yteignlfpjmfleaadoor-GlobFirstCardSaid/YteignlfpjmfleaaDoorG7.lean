/- glob.Match where the two don't belong together. -/
import Derived.Test.YteignlfpjmfleaaDoorG6
set_option linter.unusedVariables false
set_option linter.unusedSimpArgs false
namespace Go.Proofs.YteignlfpjmfleaaDoor.E
open Go.RowKit Go.Lib Go.Shelf Go.Proofs.YteignlfpjmfleaaDoorW.PrintWords Go.Proofs.YteignlfpjmfleaaDoorW.PrintLast Go.Proofs.YteignlfpjmfleaaDoorW.PrintMore
attribute [local irreducible] G.split G.right
/-- The world behind the result's new cell, and what lies above it. -/
def Res (w W : World) : Prop := Below (w.heap.size + 1) (w.alloc (.cells #[.bool false] 4)) W
theorem Res.start (w : World) : Res w (w.alloc (.cells #[.bool false] 4)) := Below.refl _ _
theorem Res.step {w W W' : World} (h : Res w W) (k : Below W.heap.size W W') : Res w W' :=
  below_then h (by have := h.size; simpa using this) k
theorem Res.boxed {w W : World} (h : Res w W) : Boxed W w.heap.size 4 (.bool false) :=
  (h.block w.heap.size (by omega)).trans (Boxed.new w 4 (.bool false))
theorem Res.lt {w W : World} (h : Res w W) : w.heap.size < W.heap.size := by have := h.size; simp at this; omega
theorem Res.below {w W : World} (h : Res w W) : Below w.heap.size w W :=
  below_step (below_alloc (Below.refl w.heap.size w) (.cells #[.bool false] 4)) (by simpa [Res] using h)
theorem Res.set {w W : World} (h : Res w W) (v : Value) : Below w.heap.size w (W.setCell ⟨w.heap.size, 0, none⟩ v) := below_set h.below (Nat.le_refl _)
theorem setcell_same {W : World} {B : Nat} {v0 : Value} (b : Bool) (h : W.cell? ⟨B, 0, none⟩ = some v0) : (W.setCell ⟨B, 0, none⟩ (.bool b)).cell? ⟨B, 0, none⟩ = some (.bool b) := World.cell?_setCell_same' _ _ _ (by rw [h]; rfl)
attribute [local irreducible] Res
set_option maxHeartbeats 2000000 in
set_option maxRecDepth 100000 in
theorem Match_not (p s : ByteArray) (w : World) (hp : p.size < 4294967281) (hs : s.size < 4294967281) (h : ¬ (G.right true p.data.toList = true ∧ G.right false s.data.toList = true ∧ p.data.toList.count 47 = s.data.toList.count 47)) :
    Calls Tryd.prog 13 #[.string p, .string s] w fun e w' => e = .returned (.bool false) ∧ Below w.heap.size w w' := by
  have hR := fun W => Right_any p W hp
  have hP := fun W => Path_any s W hs
  have hC1 := fun W => Tryd.strings_Count_one p 47 W
  have hC2 := fun W => Tryd.strings_Count_one s 47 W
  simp only [Lib.countByte] at hC1 hC2
  generalize G.right true p.data.toList = r1 at hR h
  generalize G.right false s.data.toList = r2 at hP h
  generalize p.data.toList.count 47 = c1 at hC1 h
  generalize s.data.toList.count 47 = c2 at hC2 h
  have HB := Aside0.mk (Res.start w)
  cases r1 with
  | false =>
    clear h
    go_enter Tryd.func13, Tryd.ntmps13
    go_wp2_with (first
      | (go_at_call 11; refine (hR _).mono ?_; clear hR; rintro e w' ⟨rfl, hb⟩; have HC := Aside0.mk (HB.out.step hb); clear hb HB; have hc := HC.out.boxed.cell; have hf := HC.out.boxed.frozen))
    have hc5 := setcell_same false hc
    refine bodyPost_ret (v := .bool false) (by simp [results, Tryd.f13, go_sem, hc5]) rfl ⟨rfl, HC.out.set _⟩
  | true =>
    cases r2 with
    | false =>
      clear h
      go_enter Tryd.func13, Tryd.ntmps13
      go_wp2_with (first
        | (go_at_call 11; refine (hR _).mono ?_; clear hR; rintro e w' ⟨rfl, hb⟩; have HC := Aside0.mk (HB.out.step hb); clear hb HB)
        | (go_at_call 12; refine (hP _).mono ?_; clear hP; rintro e w' ⟨rfl, hb⟩; have HD := Aside0.mk (HC.out.step hb); clear hb HC; have hc := HD.out.boxed.cell; have hf := HD.out.boxed.frozen))
      have hc5 := setcell_same false hc
      refine bodyPost_ret (v := .bool false) (by simp [results, Tryd.f13, go_sem, hc5]) rfl ⟨rfl, HD.out.set _⟩
    | true =>
      have hne : ¬ (c1 : Int) = (c2 : Int) := fun e => h ⟨rfl, rfl, by omega⟩
      have hbq : ((c1 : Int) != (c2 : Int)) = true := by simpa using hne
      have hbq2 : ((c1 : Int) == (c2 : Int)) = false := by simpa using hne
      have hnn : ¬ c1 = c2 := fun e => h ⟨rfl, rfl, e⟩
      clear h
      go_enter Tryd.func13, Tryd.ntmps13
      go_wp2_with (first
        | (go_at_call 11; refine (hR _).mono ?_; clear hR; rintro e w' ⟨rfl, hb⟩; have HC := Aside0.mk (HB.out.step hb); clear hb HB)
        | (go_at_call 12; refine (hP _).mono ?_; clear hP; rintro e w' ⟨rfl, hb⟩; have HD := Aside0.mk (HC.out.step hb); clear hb HC; have hc := HD.out.boxed.cell; have hf := HD.out.boxed.frozen)
        | (go_at_call 17; refine (hC1 _).mono ?_; clear hC1; rintro e w' ⟨rfl, rfl⟩)
        | (go_at_call 17; refine (hC2 _).mono ?_; clear hC2; rintro e w' ⟨rfl, rfl⟩))
      have hc5 := setcell_same false hc
      refine bodyPost_ret (v := .bool false) (by simp [results, Tryd.f13, go_sem, hc5]) rfl ⟨rfl, HD.out.set _⟩
end Go.Proofs.YteignlfpjmfleaaDoor.E
