/- Which patterns and paths may be, however long; a region's operation behind a guard that is a letter. -/
import Derived.Test.YtgcflmhlegagbaaGreatDoorQ4
import Derived.Test.YtgcflmhlegagbaaGreatDoorQ5
import Derived.Deep.RegionHeld3
import Derived.IntWalk
section
set_option linter.unusedVariables false
set_option linter.unusedSimpArgs false
namespace Go.Proofs.YtgcflmhlegagbaaGreatDoor.E
open Go.RowKit Go.Lib Go.Shelf Go.Proofs.YtgcflmhlegagbaaGreatDoorW.PrintWords Go.Proofs.YtgcflmhlegagbaaGreatDoorW.PrintLast Go.Proofs.YtgcflmhlegagbaaGreatDoorW.PrintMore
attribute [local irreducible] G.right G.split G.bad G.byt parts
set_option maxHeartbeats 2000000 in
set_option maxRecDepth 100000 in
theorem right_big (pat : Bool) (s : ByteArray) (w : World) (hl : 200 < s.size) :
    Calls Tryz.prog 45 #[.string s, tst pat] w fun e w' => e = .returned (.bool false) ∧ Below w.heap.size w w' := by
  have hmf : ∀ (fn : Fn) (first cap : Array Value) (w : World), (Instr.makeFunc fn first cap).run Tryz.prog w = .ok (.func fn first cap) w := fun _ _ _ _ => rfl
  have hbt : Below w.heap.size w (w.alloc (.cells #[tst pat] 87)) := below_alloc (Below.refl _ _) _
  obtain ⟨g, hg⟩ : ∃ g, tst pat = .func (.func g) #[] #[] := ⟨_, rfl⟩
  rw [hg] at hbt ⊢
  clear hg
  have HT := Aside0.mk hbt
  clear hbt
  have hlz : (200 : Int) < (s.size : Int) := by omega
  clear hmf
  go_enter Tryz.func45, Tryz.ntmps45
  go_wp2
  go_ret
  exact ⟨rfl, HT.out⟩
theorem G_big (pat : Bool) (s : ByteArray) (hl : 200 < s.size) : G.right pat s.data.toList = false := by
  unfold G.right
  have hll : s.data.toList.length = s.size := by simp
  rw [hll, show decide (s.size ≤ 200) = false from by simp; omega]; rfl
set_option maxHeartbeats 2000000 in
theorem Right_all (s : ByteArray) (w : World) : Calls Tryz.prog 41 #[.string s] w fun e w' => e = .returned (.bool (G.right true s.data.toList)) ∧ Below w.heap.size w w' := by
  by_cases hl : 200 < s.size
  · have h := right_big true s w hl
    rw [G_big true s hl]
    change Calls Tryz.prog 45 #[.string s, .func (.func 67) #[] #[]] w _ at h
    go_enter Tryz.func41, Tryz.ntmps41
    go_wp2_with (go_at_call 45; refine h.mono ?_; rintro e w' ⟨rfl, hb⟩)
    go_ret
    exact ⟨rfl, hb⟩
  · exact Right_any s w (by omega)
set_option maxHeartbeats 2000000 in
theorem Path_all (s : ByteArray) (w : World) : Calls Tryz.prog 18 #[.string s] w fun e w' => e = .returned (.bool (G.right false s.data.toList)) ∧ Below w.heap.size w w' := by
  by_cases hl : 200 < s.size
  · have h := right_big false s w hl
    rw [G_big false s hl]
    change Calls Tryz.prog 45 #[.string s, .func (.func 46) #[] #[]] w _ at h
    go_enter Tryz.func18, Tryz.ntmps18
    go_wp2_with (go_at_call 45; refine h.mono ?_; rintro e w' ⟨rfl, hb⟩)
    go_ret
    exact ⟨rfl, hb⟩
  · exact Path_any s w (by omega)
theorem yi_guard {P : Program} {ops : Array Oper} {S : World → Prop} {o : Oper} {a : Act} {v : Value} (g : Bool) (hw : Region.wanted o (yielded ops a.tmps) = g) (hv : g = true → ∀ w, S w → (execOp a.eval o).run P w = .ok (.value v) w) : YieldsIf P ops S o (bif g then v else undef) a := by
  cases g
  · exact .inr ⟨hw, rfl⟩
  · exact .inl ⟨hw, hv rfl⟩
end Go.Proofs.YtgcflmhlegagbaaGreatDoor.E
end
section
set_option linter.unusedVariables false
set_option linter.unusedSimpArgs false
namespace Go.Proofs.YtgcflmhlegagbaaGreatDoor.E
open Go.RowKit Go.Lib Go.Shelf Go.Proofs.YtgcflmhlegagbaaGreatDoorW.PrintWords Go.Proofs.YtgcflmhlegagbaaGreatDoorW.PrintLast Go.Proofs.YtgcflmhlegagbaaGreatDoorW.PrintMore
attribute [local irreducible] G.right
/-- May a file be, but for its place? -/
def fileB (nm sm : ByteArray) (ver sz : Int) : Bool := (((((G.right false nm.data.toList && decide (0 ≤ sz)) && decide (sz ≤ 65536)) && ((sm.size : Int) == 32)) && decide (0 ≤ ver)) && decide (ver ≤ 1000000)) && (decide (0 < ver) == false)
set_option maxHeartbeats 8000000 in
set_option maxRecDepth 100000 in
theorem file_first (nm sm : ByteArray) (ver sz : Int) (bn bv bl : Nat) (w : World) (hn : w.cell? ⟨bn, 0, none⟩ = some (.func (.func 18) #[] #[])) (hv : w.cell? ⟨bv, 0, none⟩ = some (.bool false)) :
    Calls Tryz.prog 61 #[.int .i64 0, .agg #[.string nm, .int .i64 ver, .int .i64 sz, .string sm], .pointer (some ⟨bn, 0, none⟩), .pointer (some ⟨bv, 0, none⟩), .pointer (some ⟨bl, 0, none⟩)] w
      fun e w' => e = .returned (.bool (fileB nm sm ver sz)) ∧ Below w.heap.size w w' := by
  have hP := fun W => Path_all nm W
  unfold fileB
  generalize G.right false nm.data.toList = g1 at *
  go_enter Tryz.func61, Tryz.ntmps61
  go_upto_region 1 with (fail)
  have hbA : Below w.heap.size w (w.alloc (.cells #[.string nm, .int .i64 ver, .int .i64 sz, .string sm] 25)) := below_alloc (Below.refl _ _) _
  obtain ⟨W0, hW0⟩ : ∃ W, W = w.alloc (.cells #[.string nm, .int .i64 ver, .int .i64 sz, .string sm] 25) := ⟨_, rfl⟩
  rw [← hW0] at hbA ⊢
  have F0 : W0.cell? ⟨w.heap.size, 0, none⟩ = some (.string nm) := by rw [hW0]; simp
  have F1 : W0.cell? ⟨w.heap.size, 1, none⟩ = some (.int .i64 ver) := by rw [hW0]; simp
  have F2 : W0.cell? ⟨w.heap.size, 2, none⟩ = some (.int .i64 sz) := by rw [hW0]; simp
  have F3 : W0.cell? ⟨w.heap.size, 3, none⟩ = some (.string sm) := by rw [hW0]; simp
  have Fn := (hbA.cell (World.block_lt_of_cell? _ _ hn)).trans hn
  have Fv := (hbA.cell (World.block_lt_of_cell? _ _ hv)).trans hv
  clear hn hv hW0
  have HBA := Lib.hid hbA
  clear hbA
  refine wp_region_noPanic ?_
  refine wp_region_held_drew (S := fun W_ => Below W0.heap.size W0 W_) (by kernel_rfl) (Below.refl _ _).drew (fun hHeld => ?_)
  refine wpAnyH_take (i := 0) (v := ?_) rfl (by kernel_rfl) (by kernel_rfl) (by kernel_rfl) (fun _ _ _ h => h) (Or.inl ⟨by rfl, ?_⟩) (by with_reducible assumption) ?_
  rotate_left
  · (intro w hSw; have c_0 := (hSw.cell (World.block_lt_of_cell? _ _ Fn)).trans Fn; clear hSw; go_simp); all_goals with_reducible rfl
  (try simp only [List.getElem_toArray, List.getElem_cons_succ, List.getElem_cons_zero, Act.put, List.setIfInBounds_toArray, List.set_cons_zero, List.set_cons_succ])
  refine wpAnyH_take (i := 1) (v := ?_) rfl (by kernel_rfl) (by kernel_rfl) (by kernel_rfl) (fun _ _ _ h => h) (Or.inl ⟨by rfl, ?_⟩) (by with_reducible assumption) ?_
  rotate_left
  · (intro w hSw; clear hSw; go_simp); all_goals with_reducible rfl
  (try simp only [List.getElem_toArray, List.getElem_cons_succ, List.getElem_cons_zero, Act.put, List.setIfInBounds_toArray, List.set_cons_zero, List.set_cons_succ])
  refine wpAnyH_take (i := 2) (v := ?_) rfl (by kernel_rfl) (by kernel_rfl) (by kernel_rfl) (fun _ _ _ h => h) (Or.inl ⟨by rfl, ?_⟩) (by with_reducible assumption) ?_
  rotate_left
  · (intro w hSw; have c_0 := (hSw.cell (World.block_lt_of_cell? _ _ F0)).trans F0; clear hSw; go_simp); all_goals with_reducible rfl
  (try simp only [List.getElem_toArray, List.getElem_cons_succ, List.getElem_cons_zero, Act.put, List.setIfInBounds_toArray, List.set_cons_zero, List.set_cons_succ])
  refine wpAnyH_ready (rs := [3]) (by kernel_rfl) (by simp) (AllReadyH.cons rfl (fun K hK => ?_) AllReadyH.nil)
  go_simp
  go_at_call 18
  refine (hP _).mono ?_
  rintro e w1 ⟨rfl, hb1⟩
  refine hK.out _ _ ?_ (fun hHeld2 => ?_)
  · exact below_step hHeld hb1
  clear hK K hP hHeld hb1
  (try simp only [List.getElem_toArray, List.getElem_cons_succ, List.getElem_cons_zero, Act.put, List.setIfInBounds_toArray, List.set_cons_zero, List.set_cons_succ])
  refine wpAnyH_take (i := 4) (v := ?_) rfl (by kernel_rfl) (by kernel_rfl) (by kernel_rfl) (fun _ _ _ h => h) (Or.inl ⟨by rfl, ?_⟩) (by with_reducible assumption) ?_
  rotate_left
  · (intro w hSw; clear hSw; go_simp); all_goals with_reducible rfl
  (try simp only [List.getElem_toArray, List.getElem_cons_succ, List.getElem_cons_zero, Act.put, List.setIfInBounds_toArray, List.set_cons_zero, List.set_cons_succ])
  refine wpAnyH_take (i := 5) (v := bif g1 then ?_ else undef) rfl (by kernel_rfl) (by kernel_rfl) (by kernel_rfl) (fun _ _ _ h => h) (yi_guard g1 (by cases g1 <;> rfl) ?_) (by with_reducible assumption) ?_
  rotate_left
  · (intro hg w hSw; clear hSw; simp only [hg, cond_true]; go_simp); all_goals with_reducible rfl
  (try simp only [List.getElem_toArray, List.getElem_cons_succ, List.getElem_cons_zero, Act.put, List.setIfInBounds_toArray, List.set_cons_zero, List.set_cons_succ])
  refine wpAnyH_take (i := 6) (v := bif g1 then ?_ else undef) rfl (by kernel_rfl) (by kernel_rfl) (by kernel_rfl) (fun _ _ _ h => h) (yi_guard g1 (by cases g1 <;> rfl) ?_) (by with_reducible assumption) ?_
  rotate_left
  · (intro hg w hSw; have c_0 := (hSw.cell (World.block_lt_of_cell? _ _ F2)).trans F2; clear hSw; simp only [hg, cond_true]; go_simp); all_goals with_reducible rfl
  (try simp only [List.getElem_toArray, List.getElem_cons_succ, List.getElem_cons_zero, Act.put, List.setIfInBounds_toArray, List.set_cons_zero, List.set_cons_succ])
  refine wpAnyH_take (i := 7) (v := bif g1 then ?_ else undef) rfl (by kernel_rfl) (by kernel_rfl) (by kernel_rfl) (fun _ _ _ h => h) (yi_guard g1 (by cases g1 <;> rfl) ?_) (by with_reducible assumption) ?_
  rotate_left
  · (intro hg w hSw; clear hSw; simp only [hg, cond_true]; go_simp); all_goals with_reducible rfl
  (try simp only [List.getElem_toArray, List.getElem_cons_succ, List.getElem_cons_zero, Act.put, List.setIfInBounds_toArray, List.set_cons_zero, List.set_cons_succ])
  refine wpAnyH_take (i := 8) (v := .bool (g1 && decide (0 ≤ sz))) rfl (by kernel_rfl) (by kernel_rfl) (by kernel_rfl) (fun _ _ _ h => h) (Or.inl ⟨by rfl, ?_⟩) (by with_reducible assumption) ?_
  · (intro w hSw; clear hSw; cases g1 <;> (go_simp); all_goals (try with_reducible rfl))
  (try simp only [List.getElem_toArray, List.getElem_cons_succ, List.getElem_cons_zero, Act.put, List.setIfInBounds_toArray, List.set_cons_zero, List.set_cons_succ])
  obtain ⟨g2, hg2⟩ : ∃ x, x = (g1 && decide (0 ≤ sz)) := ⟨_, rfl⟩
  rw [← hg2]
  have Hg2 := Lib.hid hg2
  clear hg2
  refine wpAnyH_take (i := 9) (v := ?_) rfl (by kernel_rfl) (by kernel_rfl) (by kernel_rfl) (fun _ _ _ h => h) (Or.inl ⟨by rfl, ?_⟩) (by with_reducible assumption) ?_
  rotate_left
  · (intro w hSw; clear hSw; go_simp); all_goals with_reducible rfl
  (try simp only [List.getElem_toArray, List.getElem_cons_succ, List.getElem_cons_zero, Act.put, List.setIfInBounds_toArray, List.set_cons_zero, List.set_cons_succ])
  refine wpAnyH_take (i := 10) (v := bif g2 then ?_ else undef) rfl (by kernel_rfl) (by kernel_rfl) (by kernel_rfl) (fun _ _ _ h => h) (yi_guard g2 (by cases g2 <;> rfl) ?_) (by with_reducible assumption) ?_
  rotate_left
  · (intro hg w hSw; clear hSw; simp only [hg, cond_true]; go_simp); all_goals with_reducible rfl
  (try simp only [List.getElem_toArray, List.getElem_cons_succ, List.getElem_cons_zero, Act.put, List.setIfInBounds_toArray, List.set_cons_zero, List.set_cons_succ])
  refine wpAnyH_take (i := 11) (v := bif g2 then ?_ else undef) rfl (by kernel_rfl) (by kernel_rfl) (by kernel_rfl) (fun _ _ _ h => h) (yi_guard g2 (by cases g2 <;> rfl) ?_) (by with_reducible assumption) ?_
  rotate_left
  · (intro hg w hSw; have c_0 := (hSw.cell (World.block_lt_of_cell? _ _ F2)).trans F2; clear hSw; simp only [hg, cond_true]; go_simp); all_goals with_reducible rfl
  (try simp only [List.getElem_toArray, List.getElem_cons_succ, List.getElem_cons_zero, Act.put, List.setIfInBounds_toArray, List.set_cons_zero, List.set_cons_succ])
  refine wpAnyH_take (i := 12) (v := bif g2 then ?_ else undef) rfl (by kernel_rfl) (by kernel_rfl) (by kernel_rfl) (fun _ _ _ h => h) (yi_guard g2 (by cases g2 <;> rfl) ?_) (by with_reducible assumption) ?_
  rotate_left
  · (intro hg w hSw; clear hSw; simp only [hg, cond_true]; go_simp); all_goals with_reducible rfl
  (try simp only [List.getElem_toArray, List.getElem_cons_succ, List.getElem_cons_zero, Act.put, List.setIfInBounds_toArray, List.set_cons_zero, List.set_cons_succ])
  refine wpAnyH_take (i := 13) (v := .bool (g2 && decide (sz ≤ 65536))) rfl (by kernel_rfl) (by kernel_rfl) (by kernel_rfl) (fun _ _ _ h => h) (Or.inl ⟨by rfl, ?_⟩) (by with_reducible assumption) ?_
  · (intro w hSw; clear hSw; cases g2 <;> (go_simp); all_goals (try with_reducible rfl))
  (try simp only [List.getElem_toArray, List.getElem_cons_succ, List.getElem_cons_zero, Act.put, List.setIfInBounds_toArray, List.set_cons_zero, List.set_cons_succ])
  obtain ⟨g3, hg3⟩ : ∃ x, x = (g2 && decide (sz ≤ 65536)) := ⟨_, rfl⟩
  rw [← hg3]
  have Hg3 := Lib.hid hg3
  clear hg3
  refine wpAnyH_take (i := 14) (v := ?_) rfl (by kernel_rfl) (by kernel_rfl) (by kernel_rfl) (fun _ _ _ h => h) (Or.inl ⟨by rfl, ?_⟩) (by with_reducible assumption) ?_
  rotate_left
  · (intro w hSw; clear hSw; go_simp); all_goals with_reducible rfl
  (try simp only [List.getElem_toArray, List.getElem_cons_succ, List.getElem_cons_zero, Act.put, List.setIfInBounds_toArray, List.set_cons_zero, List.set_cons_succ])
  refine wpAnyH_take (i := 15) (v := bif g3 then ?_ else undef) rfl (by kernel_rfl) (by kernel_rfl) (by kernel_rfl) (fun _ _ _ h => h) (yi_guard g3 (by cases g3 <;> rfl) ?_) (by with_reducible assumption) ?_
  rotate_left
  · (intro hg w hSw; clear hSw; simp only [hg, cond_true]; go_simp); all_goals with_reducible rfl
  (try simp only [List.getElem_toArray, List.getElem_cons_succ, List.getElem_cons_zero, Act.put, List.setIfInBounds_toArray, List.set_cons_zero, List.set_cons_succ])
  refine wpAnyH_take (i := 16) (v := bif g3 then ?_ else undef) rfl (by kernel_rfl) (by kernel_rfl) (by kernel_rfl) (fun _ _ _ h => h) (yi_guard g3 (by cases g3 <;> rfl) ?_) (by with_reducible assumption) ?_
  rotate_left
  · (intro hg w hSw; have c_0 := (hSw.cell (World.block_lt_of_cell? _ _ F3)).trans F3; clear hSw; simp only [hg, cond_true]; go_simp); all_goals with_reducible rfl
  (try simp only [List.getElem_toArray, List.getElem_cons_succ, List.getElem_cons_zero, Act.put, List.setIfInBounds_toArray, List.set_cons_zero, List.set_cons_succ])
  refine wpAnyH_take (i := 17) (v := bif g3 then ?_ else undef) rfl (by kernel_rfl) (by kernel_rfl) (by kernel_rfl) (fun _ _ _ h => h) (yi_guard g3 (by cases g3 <;> rfl) ?_) (by with_reducible assumption) ?_
  rotate_left
  · (intro hg w hSw; clear hSw; simp only [hg, cond_true]; go_simp); all_goals with_reducible rfl
  (try simp only [List.getElem_toArray, List.getElem_cons_succ, List.getElem_cons_zero, Act.put, List.setIfInBounds_toArray, List.set_cons_zero, List.set_cons_succ])
  refine wpAnyH_take (i := 18) (v := bif g3 then ?_ else undef) rfl (by kernel_rfl) (by kernel_rfl) (by kernel_rfl) (fun _ _ _ h => h) (yi_guard g3 (by cases g3 <;> rfl) ?_) (by with_reducible assumption) ?_
  rotate_left
  · (intro hg w hSw; clear hSw; simp only [hg, cond_true]; go_simp); all_goals with_reducible rfl
  (try simp only [List.getElem_toArray, List.getElem_cons_succ, List.getElem_cons_zero, Act.put, List.setIfInBounds_toArray, List.set_cons_zero, List.set_cons_succ])
  refine wpAnyH_take (i := 19) (v := .bool (g3 && ((sm.size : Int) == 32))) rfl (by kernel_rfl) (by kernel_rfl) (by kernel_rfl) (fun _ _ _ h => h) (Or.inl ⟨by rfl, ?_⟩) (by with_reducible assumption) ?_
  · (intro w hSw; clear hSw; cases g3 <;> (go_simp); all_goals (try with_reducible rfl))
  (try simp only [List.getElem_toArray, List.getElem_cons_succ, List.getElem_cons_zero, Act.put, List.setIfInBounds_toArray, List.set_cons_zero, List.set_cons_succ])
  obtain ⟨g4, hg4⟩ : ∃ x, x = (g3 && ((sm.size : Int) == 32)) := ⟨_, rfl⟩
  rw [← hg4]
  have Hg4 := Lib.hid hg4
  clear hg4
  refine wpAnyH_take (i := 20) (v := ?_) rfl (by kernel_rfl) (by kernel_rfl) (by kernel_rfl) (fun _ _ _ h => h) (Or.inl ⟨by rfl, ?_⟩) (by with_reducible assumption) ?_
  rotate_left
  · (intro w hSw; clear hSw; go_simp); all_goals with_reducible rfl
  (try simp only [List.getElem_toArray, List.getElem_cons_succ, List.getElem_cons_zero, Act.put, List.setIfInBounds_toArray, List.set_cons_zero, List.set_cons_succ])
  refine wpAnyH_take (i := 21) (v := bif g4 then ?_ else undef) rfl (by kernel_rfl) (by kernel_rfl) (by kernel_rfl) (fun _ _ _ h => h) (yi_guard g4 (by cases g4 <;> rfl) ?_) (by with_reducible assumption) ?_
  rotate_left
  · (intro hg w hSw; clear hSw; simp only [hg, cond_true]; go_simp); all_goals with_reducible rfl
  (try simp only [List.getElem_toArray, List.getElem_cons_succ, List.getElem_cons_zero, Act.put, List.setIfInBounds_toArray, List.set_cons_zero, List.set_cons_succ])
  refine wpAnyH_take (i := 22) (v := bif g4 then ?_ else undef) rfl (by kernel_rfl) (by kernel_rfl) (by kernel_rfl) (fun _ _ _ h => h) (yi_guard g4 (by cases g4 <;> rfl) ?_) (by with_reducible assumption) ?_
  rotate_left
  · (intro hg w hSw; have c_0 := (hSw.cell (World.block_lt_of_cell? _ _ F1)).trans F1; clear hSw; simp only [hg, cond_true]; go_simp); all_goals with_reducible rfl
  (try simp only [List.getElem_toArray, List.getElem_cons_succ, List.getElem_cons_zero, Act.put, List.setIfInBounds_toArray, List.set_cons_zero, List.set_cons_succ])
  refine wpAnyH_take (i := 23) (v := bif g4 then ?_ else undef) rfl (by kernel_rfl) (by kernel_rfl) (by kernel_rfl) (fun _ _ _ h => h) (yi_guard g4 (by cases g4 <;> rfl) ?_) (by with_reducible assumption) ?_
  rotate_left
  · (intro hg w hSw; clear hSw; simp only [hg, cond_true]; go_simp); all_goals with_reducible rfl
  (try simp only [List.getElem_toArray, List.getElem_cons_succ, List.getElem_cons_zero, Act.put, List.setIfInBounds_toArray, List.set_cons_zero, List.set_cons_succ])
  refine wpAnyH_take (i := 24) (v := .bool (g4 && decide (0 ≤ ver))) rfl (by kernel_rfl) (by kernel_rfl) (by kernel_rfl) (fun _ _ _ h => h) (Or.inl ⟨by rfl, ?_⟩) (by with_reducible assumption) ?_
  · (intro w hSw; clear hSw; cases g4 <;> (go_simp); all_goals (try with_reducible rfl))
  (try simp only [List.getElem_toArray, List.getElem_cons_succ, List.getElem_cons_zero, Act.put, List.setIfInBounds_toArray, List.set_cons_zero, List.set_cons_succ])
  obtain ⟨g5, hg5⟩ : ∃ x, x = (g4 && decide (0 ≤ ver)) := ⟨_, rfl⟩
  rw [← hg5]
  have Hg5 := Lib.hid hg5
  clear hg5
  refine wpAnyH_take (i := 25) (v := ?_) rfl (by kernel_rfl) (by kernel_rfl) (by kernel_rfl) (fun _ _ _ h => h) (Or.inl ⟨by rfl, ?_⟩) (by with_reducible assumption) ?_
  rotate_left
  · (intro w hSw; clear hSw; go_simp); all_goals with_reducible rfl
  (try simp only [List.getElem_toArray, List.getElem_cons_succ, List.getElem_cons_zero, Act.put, List.setIfInBounds_toArray, List.set_cons_zero, List.set_cons_succ])
  refine wpAnyH_take (i := 26) (v := bif g5 then ?_ else undef) rfl (by kernel_rfl) (by kernel_rfl) (by kernel_rfl) (fun _ _ _ h => h) (yi_guard g5 (by cases g5 <;> rfl) ?_) (by with_reducible assumption) ?_
  rotate_left
  · (intro hg w hSw; clear hSw; simp only [hg, cond_true]; go_simp); all_goals with_reducible rfl
  (try simp only [List.getElem_toArray, List.getElem_cons_succ, List.getElem_cons_zero, Act.put, List.setIfInBounds_toArray, List.set_cons_zero, List.set_cons_succ])
  refine wpAnyH_take (i := 27) (v := bif g5 then ?_ else undef) rfl (by kernel_rfl) (by kernel_rfl) (by kernel_rfl) (fun _ _ _ h => h) (yi_guard g5 (by cases g5 <;> rfl) ?_) (by with_reducible assumption) ?_
  rotate_left
  · (intro hg w hSw; have c_0 := (hSw.cell (World.block_lt_of_cell? _ _ F1)).trans F1; clear hSw; simp only [hg, cond_true]; go_simp); all_goals with_reducible rfl
  (try simp only [List.getElem_toArray, List.getElem_cons_succ, List.getElem_cons_zero, Act.put, List.setIfInBounds_toArray, List.set_cons_zero, List.set_cons_succ])
  refine wpAnyH_take (i := 28) (v := bif g5 then ?_ else undef) rfl (by kernel_rfl) (by kernel_rfl) (by kernel_rfl) (fun _ _ _ h => h) (yi_guard g5 (by cases g5 <;> rfl) ?_) (by with_reducible assumption) ?_
  rotate_left
  · (intro hg w hSw; clear hSw; simp only [hg, cond_true]; go_simp); all_goals with_reducible rfl
  (try simp only [List.getElem_toArray, List.getElem_cons_succ, List.getElem_cons_zero, Act.put, List.setIfInBounds_toArray, List.set_cons_zero, List.set_cons_succ])
  refine wpAnyH_take (i := 29) (v := .bool (g5 && decide (ver ≤ 1000000))) rfl (by kernel_rfl) (by kernel_rfl) (by kernel_rfl) (fun _ _ _ h => h) (Or.inl ⟨by rfl, ?_⟩) (by with_reducible assumption) ?_
  · (intro w hSw; clear hSw; cases g5 <;> (go_simp); all_goals (try with_reducible rfl))
  (try simp only [List.getElem_toArray, List.getElem_cons_succ, List.getElem_cons_zero, Act.put, List.setIfInBounds_toArray, List.set_cons_zero, List.set_cons_succ])
  obtain ⟨g6, hg6⟩ : ∃ x, x = (g5 && decide (ver ≤ 1000000)) := ⟨_, rfl⟩
  rw [← hg6]
  have Hg6 := Lib.hid hg6
  clear hg6
  refine wpAnyH_take (i := 30) (v := ?_) rfl (by kernel_rfl) (by kernel_rfl) (by kernel_rfl) (fun _ _ _ h => h) (Or.inl ⟨by rfl, ?_⟩) (by with_reducible assumption) ?_
  rotate_left
  · (intro w hSw; clear hSw; go_simp); all_goals with_reducible rfl
  (try simp only [List.getElem_toArray, List.getElem_cons_succ, List.getElem_cons_zero, Act.put, List.setIfInBounds_toArray, List.set_cons_zero, List.set_cons_succ])
  refine wpAnyH_take (i := 31) (v := bif g6 then ?_ else undef) rfl (by kernel_rfl) (by kernel_rfl) (by kernel_rfl) (fun _ _ _ h => h) (yi_guard g6 (by cases g6 <;> rfl) ?_) (by with_reducible assumption) ?_
  rotate_left
  · (intro hg w hSw; clear hSw; simp only [hg, cond_true]; go_simp); all_goals with_reducible rfl
  (try simp only [List.getElem_toArray, List.getElem_cons_succ, List.getElem_cons_zero, Act.put, List.setIfInBounds_toArray, List.set_cons_zero, List.set_cons_succ])
  refine wpAnyH_take (i := 32) (v := bif g6 then ?_ else undef) rfl (by kernel_rfl) (by kernel_rfl) (by kernel_rfl) (fun _ _ _ h => h) (yi_guard g6 (by cases g6 <;> rfl) ?_) (by with_reducible assumption) ?_
  rotate_left
  · (intro hg w hSw; have c_0 := (hSw.cell (World.block_lt_of_cell? _ _ F1)).trans F1; clear hSw; simp only [hg, cond_true]; go_simp); all_goals with_reducible rfl
  (try simp only [List.getElem_toArray, List.getElem_cons_succ, List.getElem_cons_zero, Act.put, List.setIfInBounds_toArray, List.set_cons_zero, List.set_cons_succ])
  refine wpAnyH_take (i := 33) (v := bif g6 then ?_ else undef) rfl (by kernel_rfl) (by kernel_rfl) (by kernel_rfl) (fun _ _ _ h => h) (yi_guard g6 (by cases g6 <;> rfl) ?_) (by with_reducible assumption) ?_
  rotate_left
  · (intro hg w hSw; clear hSw; simp only [hg, cond_true]; go_simp); all_goals with_reducible rfl
  (try simp only [List.getElem_toArray, List.getElem_cons_succ, List.getElem_cons_zero, Act.put, List.setIfInBounds_toArray, List.set_cons_zero, List.set_cons_succ])
  refine wpAnyH_take (i := 34) (v := bif g6 then ?_ else undef) rfl (by kernel_rfl) (by kernel_rfl) (by kernel_rfl) (fun _ _ _ h => h) (yi_guard g6 (by cases g6 <;> rfl) ?_) (by with_reducible assumption) ?_
  rotate_left
  · (intro hg w hSw; have c_0 := (hSw.cell (World.block_lt_of_cell? _ _ Fv)).trans Fv; clear hSw; simp only [hg, cond_true]; go_simp); all_goals with_reducible rfl
  (try simp only [List.getElem_toArray, List.getElem_cons_succ, List.getElem_cons_zero, Act.put, List.setIfInBounds_toArray, List.set_cons_zero, List.set_cons_succ])
  refine wpAnyH_take (i := 35) (v := bif g6 then ?_ else undef) rfl (by kernel_rfl) (by kernel_rfl) (by kernel_rfl) (fun _ _ _ h => h) (yi_guard g6 (by cases g6 <;> rfl) ?_) (by with_reducible assumption) ?_
  rotate_left
  · (intro hg w hSw; clear hSw; simp only [hg, cond_true]; go_simp); all_goals with_reducible rfl
  (try simp only [List.getElem_toArray, List.getElem_cons_succ, List.getElem_cons_zero, Act.put, List.setIfInBounds_toArray, List.set_cons_zero, List.set_cons_succ])
  refine wpAnyH_take (i := 36) (v := .bool (g6 && (decide (0 < ver) == false))) rfl (by kernel_rfl) (by kernel_rfl) (by kernel_rfl) (fun _ _ _ h => h) (Or.inl ⟨by rfl, ?_⟩) (by with_reducible assumption) ?_
  · (intro w hSw; clear hSw; cases g6 <;> (go_simp); all_goals (try with_reducible rfl))
  (try simp only [List.getElem_toArray, List.getElem_cons_succ, List.getElem_cons_zero, Act.put, List.setIfInBounds_toArray, List.set_cons_zero, List.set_cons_succ])
  obtain ⟨g7, hg7⟩ : ∃ x, x = (g6 && (decide (0 < ver) == false)) := ⟨_, rfl⟩
  rw [← hg7]
  have Hg7 := Lib.hid hg7
  clear hg7
  refine wpAnyH_take (i := 37) (v := ?_) rfl (by kernel_rfl) (by kernel_rfl) (by kernel_rfl) (fun _ _ _ h => h) (Or.inl ⟨by rfl, ?_⟩) (by with_reducible assumption) ?_
  rotate_left
  · (intro w hSw; clear hSw; go_simp); all_goals with_reducible rfl
  (try simp only [List.getElem_toArray, List.getElem_cons_succ, List.getElem_cons_zero, Act.put, List.setIfInBounds_toArray, List.set_cons_zero, List.set_cons_succ])
  refine wpAnyH_take (i := 38) (v := bif g7 then ?_ else undef) rfl (by kernel_rfl) (by kernel_rfl) (by kernel_rfl) (fun _ _ _ h => h) (yi_guard g7 (by cases g7 <;> rfl) ?_) (by with_reducible assumption) ?_
  rotate_left
  · (intro hg w hSw; clear hSw; simp only [hg, cond_true]; go_simp); all_goals with_reducible rfl
  (try simp only [List.getElem_toArray, List.getElem_cons_succ, List.getElem_cons_zero, Act.put, List.setIfInBounds_toArray, List.set_cons_zero, List.set_cons_succ])
  refine wpAnyH_take (i := 39) (v := bif g7 then ?_ else undef) rfl (by kernel_rfl) (by kernel_rfl) (by kernel_rfl) (fun _ _ _ h => h) (yi_guard g7 (by cases g7 <;> rfl) ?_) (by with_reducible assumption) ?_
  rotate_left
  · (intro hg w hSw; clear hSw; simp only [hg, cond_true]; go_simp); all_goals with_reducible rfl
  (try simp only [List.getElem_toArray, List.getElem_cons_succ, List.getElem_cons_zero, Act.put, List.setIfInBounds_toArray, List.set_cons_zero, List.set_cons_succ])
  refine wpAnyH_take (i := 40) (v := bif g7 then ?_ else undef) rfl (by kernel_rfl) (by kernel_rfl) (by kernel_rfl) (fun _ _ _ h => h) (yi_guard g7 (by cases g7 <;> rfl) ?_) (by with_reducible assumption) ?_
  rotate_left
  · (intro hg w hSw; clear hSw; simp only [hg, cond_true]; go_simp); all_goals with_reducible rfl
  (try simp only [List.getElem_toArray, List.getElem_cons_succ, List.getElem_cons_zero, Act.put, List.setIfInBounds_toArray, List.set_cons_zero, List.set_cons_succ])
  refine wpAnyH_take (i := 41) (v := undef) rfl (by kernel_rfl) (by kernel_rfl) (by kernel_rfl) (fun _ _ _ h => h) (Or.inr ⟨by cases g7 <;> rfl, rfl⟩) (by with_reducible assumption) ?_
  (try simp only [List.getElem_toArray, List.getElem_cons_succ, List.getElem_cons_zero, Act.put, List.setIfInBounds_toArray, List.set_cons_zero, List.set_cons_succ])
  refine wpAnyH_take (i := 42) (v := undef) rfl (by kernel_rfl) (by kernel_rfl) (by kernel_rfl) (fun _ _ _ h => h) (Or.inr ⟨by cases g7 <;> rfl, rfl⟩) (by with_reducible assumption) ?_
  (try simp only [List.getElem_toArray, List.getElem_cons_succ, List.getElem_cons_zero, Act.put, List.setIfInBounds_toArray, List.set_cons_zero, List.set_cons_succ])
  refine wpAnyH_take (i := 43) (v := undef) rfl (by kernel_rfl) (by kernel_rfl) (by kernel_rfl) (fun _ _ _ h => h) (Or.inr ⟨by cases g7 <;> rfl, rfl⟩) (by with_reducible assumption) ?_
  (try simp only [List.getElem_toArray, List.getElem_cons_succ, List.getElem_cons_zero, Act.put, List.setIfInBounds_toArray, List.set_cons_zero, List.set_cons_succ])
  refine wpAnyH_take (i := 44) (v := undef) rfl (by kernel_rfl) (by kernel_rfl) (by kernel_rfl) (fun _ _ _ h => h) (Or.inr ⟨by cases g7 <;> rfl, rfl⟩) (by with_reducible assumption) ?_
  (try simp only [List.getElem_toArray, List.getElem_cons_succ, List.getElem_cons_zero, Act.put, List.setIfInBounds_toArray, List.set_cons_zero, List.set_cons_succ])
  refine wpAnyH_take (i := 45) (v := undef) rfl (by kernel_rfl) (by kernel_rfl) (by kernel_rfl) (fun _ _ _ h => h) (Or.inr ⟨by cases g7 <;> rfl, rfl⟩) (by with_reducible assumption) ?_
  (try simp only [List.getElem_toArray, List.getElem_cons_succ, List.getElem_cons_zero, Act.put, List.setIfInBounds_toArray, List.set_cons_zero, List.set_cons_succ])
  refine wpAnyH_take (i := 46) (v := undef) rfl (by kernel_rfl) (by kernel_rfl) (by kernel_rfl) (fun _ _ _ h => h) (Or.inr ⟨by cases g7 <;> rfl, rfl⟩) (by with_reducible assumption) ?_
  (try simp only [List.getElem_toArray, List.getElem_cons_succ, List.getElem_cons_zero, Act.put, List.setIfInBounds_toArray, List.set_cons_zero, List.set_cons_succ])
  refine wpAnyH_take (i := 47) (v := undef) rfl (by kernel_rfl) (by kernel_rfl) (by kernel_rfl) (fun _ _ _ h => h) (Or.inr ⟨by cases g7 <;> rfl, rfl⟩) (by with_reducible assumption) ?_
  (try simp only [List.getElem_toArray, List.getElem_cons_succ, List.getElem_cons_zero, Act.put, List.setIfInBounds_toArray, List.set_cons_zero, List.set_cons_succ])
  refine wpAnyH_take (i := 48) (v := undef) rfl (by kernel_rfl) (by kernel_rfl) (by kernel_rfl) (fun _ _ _ h => h) (Or.inr ⟨by cases g7 <;> rfl, rfl⟩) (by with_reducible assumption) ?_
  (try simp only [List.getElem_toArray, List.getElem_cons_succ, List.getElem_cons_zero, Act.put, List.setIfInBounds_toArray, List.set_cons_zero, List.set_cons_succ])
  refine wpAnyH_take (i := 49) (v := undef) rfl (by kernel_rfl) (by kernel_rfl) (by kernel_rfl) (fun _ _ _ h => h) (Or.inr ⟨by cases g7 <;> rfl, rfl⟩) (by with_reducible assumption) ?_
  (try simp only [List.getElem_toArray, List.getElem_cons_succ, List.getElem_cons_zero, Act.put, List.setIfInBounds_toArray, List.set_cons_zero, List.set_cons_succ])
  refine wpAnyH_take (i := 50) (v := bif g7 then ?_ else undef) rfl (by kernel_rfl) (by kernel_rfl) (by kernel_rfl) (fun _ _ _ h => h) (yi_guard g7 (by cases g7 <;> rfl) ?_) (by with_reducible assumption) ?_
  rotate_left
  · (intro hg w hSw; clear hSw; simp only [hg, cond_true]; go_simp); all_goals with_reducible rfl
  (try simp only [List.getElem_toArray, List.getElem_cons_succ, List.getElem_cons_zero, Act.put, List.setIfInBounds_toArray, List.set_cons_zero, List.set_cons_succ])
  refine wpAnyH_take (i := 51) (v := .bool g7) rfl (by kernel_rfl) (by kernel_rfl) (by kernel_rfl) (fun _ _ _ h => h) (Or.inl ⟨by rfl, ?_⟩) (by with_reducible assumption) ?_
  · (intro w hSw; clear hSw; cases g7 <;> (go_simp); all_goals (try with_reducible rfl))
  (try simp only [List.getElem_toArray, List.getElem_cons_succ, List.getElem_cons_zero, Act.put, List.setIfInBounds_toArray, List.set_cons_zero, List.set_cons_succ])
  refine wpAnyH_take (i := 52) (v := ?_) rfl (by kernel_rfl) (by kernel_rfl) (by kernel_rfl) (fun _ _ _ h => h) (Or.inl ⟨by rfl, ?_⟩) (by with_reducible assumption) ?_
  rotate_left
  · (intro w hSw; clear hSw; go_simp); all_goals with_reducible rfl
  (try simp only [List.getElem_toArray, List.getElem_cons_succ, List.getElem_cons_zero, Act.put, List.setIfInBounds_toArray, List.set_cons_zero, List.set_cons_succ])
  refine wpAnyH_done (by kernel_rfl) ?_ _
  refine NoPanic.normal ?_
  go_wp2
  go_ret
  refine ⟨?_, below_step HBA.out hHeld2⟩
  show Ending.returned (.bool (g7)) = Ending.returned (.bool _)
  rw [Hg7.out, Hg6.out, Hg5.out, Hg4.out, Hg3.out, Hg2.out]
set_option maxHeartbeats 8000000 in
set_option maxRecDepth 100000 in
theorem file_next (nm sm pv : ByteArray) (ver sz i p : Int) (bn bv bl n c : Nat) (ad : Addr) (w : World) (hn : w.cell? ⟨bn, 0, none⟩ = some (.func (.func 18) #[] #[])) (hv : w.cell? ⟨bv, 0, none⟩ = some (.bool false))
    (hl : w.cell? ⟨bl, 0, none⟩ = some (.slice (some ad) n c)) (hi : (i == 0) = false) (hw : IntKind.i64.wrap (i - 1) = p) (h0 : 0 ≤ p) (h1 : p < (n : Int)) (hp : w.cell? (ad.add (p.toNat * 4)) = some (.string pv)) :
    Calls Tryz.prog 61 #[.int .i64 i, .agg #[.string nm, .int .i64 ver, .int .i64 sz, .string sm], .pointer (some ⟨bn, 0, none⟩), .pointer (some ⟨bv, 0, none⟩), .pointer (some ⟨bl, 0, none⟩)] w
      fun e w' => e = .returned (.bool (fileB nm sm ver sz && Op.bytesLess pv.toList nm.toList)) ∧ Below w.heap.size w w' := by
  have hP := fun W => Path_all nm W
  unfold fileB
  generalize G.right false nm.data.toList = g1 at *
  go_enter Tryz.func61, Tryz.ntmps61
  go_upto_region 1 with (fail)
  have hbA : Below w.heap.size w (w.alloc (.cells #[.string nm, .int .i64 ver, .int .i64 sz, .string sm] 25)) := below_alloc (Below.refl _ _) _
  obtain ⟨W0, hW0⟩ : ∃ W, W = w.alloc (.cells #[.string nm, .int .i64 ver, .int .i64 sz, .string sm] 25) := ⟨_, rfl⟩
  rw [← hW0] at hbA ⊢
  have F0 : W0.cell? ⟨w.heap.size, 0, none⟩ = some (.string nm) := by rw [hW0]; simp
  have F1 : W0.cell? ⟨w.heap.size, 1, none⟩ = some (.int .i64 ver) := by rw [hW0]; simp
  have F2 : W0.cell? ⟨w.heap.size, 2, none⟩ = some (.int .i64 sz) := by rw [hW0]; simp
  have F3 : W0.cell? ⟨w.heap.size, 3, none⟩ = some (.string sm) := by rw [hW0]; simp
  have Fn := (hbA.cell (World.block_lt_of_cell? _ _ hn)).trans hn
  have Fv := (hbA.cell (World.block_lt_of_cell? _ _ hv)).trans hv
  have Fl := (hbA.cell (World.block_lt_of_cell? _ _ hl)).trans hl
  have Fp := (hbA.cell (World.block_lt_of_cell? _ _ hp)).trans hp
  clear hl hp
  clear hn hv hW0
  have HBA := Lib.hid hbA
  clear hbA
  refine wp_region_noPanic ?_
  refine wp_region_held_drew (S := fun W_ => Below W0.heap.size W0 W_) (by kernel_rfl) (Below.refl _ _).drew (fun hHeld => ?_)
  refine wpAnyH_take (i := 0) (v := ?_) rfl (by kernel_rfl) (by kernel_rfl) (by kernel_rfl) (fun _ _ _ h => h) (Or.inl ⟨by rfl, ?_⟩) (by with_reducible assumption) ?_
  rotate_left
  · (intro w hSw; have c_0 := (hSw.cell (World.block_lt_of_cell? _ _ Fn)).trans Fn; clear hSw; go_simp); all_goals with_reducible rfl
  (try simp only [List.getElem_toArray, List.getElem_cons_succ, List.getElem_cons_zero, Act.put, List.setIfInBounds_toArray, List.set_cons_zero, List.set_cons_succ])
  refine wpAnyH_take (i := 1) (v := ?_) rfl (by kernel_rfl) (by kernel_rfl) (by kernel_rfl) (fun _ _ _ h => h) (Or.inl ⟨by rfl, ?_⟩) (by with_reducible assumption) ?_
  rotate_left
  · (intro w hSw; clear hSw; go_simp); all_goals with_reducible rfl
  (try simp only [List.getElem_toArray, List.getElem_cons_succ, List.getElem_cons_zero, Act.put, List.setIfInBounds_toArray, List.set_cons_zero, List.set_cons_succ])
  refine wpAnyH_take (i := 2) (v := ?_) rfl (by kernel_rfl) (by kernel_rfl) (by kernel_rfl) (fun _ _ _ h => h) (Or.inl ⟨by rfl, ?_⟩) (by with_reducible assumption) ?_
  rotate_left
  · (intro w hSw; have c_0 := (hSw.cell (World.block_lt_of_cell? _ _ F0)).trans F0; clear hSw; go_simp); all_goals with_reducible rfl
  (try simp only [List.getElem_toArray, List.getElem_cons_succ, List.getElem_cons_zero, Act.put, List.setIfInBounds_toArray, List.set_cons_zero, List.set_cons_succ])
  refine wpAnyH_ready (rs := [3]) (by kernel_rfl) (by simp) (AllReadyH.cons rfl (fun K hK => ?_) AllReadyH.nil)
  go_simp
  go_at_call 18
  refine (hP _).mono ?_
  rintro e w1 ⟨rfl, hb1⟩
  refine hK.out _ _ ?_ (fun hHeld2 => ?_)
  · exact below_step hHeld hb1
  clear hK K hP hHeld hb1
  (try simp only [List.getElem_toArray, List.getElem_cons_succ, List.getElem_cons_zero, Act.put, List.setIfInBounds_toArray, List.set_cons_zero, List.set_cons_succ])
  refine wpAnyH_take (i := 4) (v := ?_) rfl (by kernel_rfl) (by kernel_rfl) (by kernel_rfl) (fun _ _ _ h => h) (Or.inl ⟨by rfl, ?_⟩) (by with_reducible assumption) ?_
  rotate_left
  · (intro w hSw; clear hSw; go_simp); all_goals with_reducible rfl
  (try simp only [List.getElem_toArray, List.getElem_cons_succ, List.getElem_cons_zero, Act.put, List.setIfInBounds_toArray, List.set_cons_zero, List.set_cons_succ])
  refine wpAnyH_take (i := 5) (v := bif g1 then ?_ else undef) rfl (by kernel_rfl) (by kernel_rfl) (by kernel_rfl) (fun _ _ _ h => h) (yi_guard g1 (by cases g1 <;> rfl) ?_) (by with_reducible assumption) ?_
  rotate_left
  · (intro hg w hSw; clear hSw; simp only [hg, cond_true]; go_simp); all_goals with_reducible rfl
  (try simp only [List.getElem_toArray, List.getElem_cons_succ, List.getElem_cons_zero, Act.put, List.setIfInBounds_toArray, List.set_cons_zero, List.set_cons_succ])
  refine wpAnyH_take (i := 6) (v := bif g1 then ?_ else undef) rfl (by kernel_rfl) (by kernel_rfl) (by kernel_rfl) (fun _ _ _ h => h) (yi_guard g1 (by cases g1 <;> rfl) ?_) (by with_reducible assumption) ?_
  rotate_left
  · (intro hg w hSw; have c_0 := (hSw.cell (World.block_lt_of_cell? _ _ F2)).trans F2; clear hSw; simp only [hg, cond_true]; go_simp); all_goals with_reducible rfl
  (try simp only [List.getElem_toArray, List.getElem_cons_succ, List.getElem_cons_zero, Act.put, List.setIfInBounds_toArray, List.set_cons_zero, List.set_cons_succ])
  refine wpAnyH_take (i := 7) (v := bif g1 then ?_ else undef) rfl (by kernel_rfl) (by kernel_rfl) (by kernel_rfl) (fun _ _ _ h => h) (yi_guard g1 (by cases g1 <;> rfl) ?_) (by with_reducible assumption) ?_
  rotate_left
  · (intro hg w hSw; clear hSw; simp only [hg, cond_true]; go_simp); all_goals with_reducible rfl
  (try simp only [List.getElem_toArray, List.getElem_cons_succ, List.getElem_cons_zero, Act.put, List.setIfInBounds_toArray, List.set_cons_zero, List.set_cons_succ])
  refine wpAnyH_take (i := 8) (v := .bool (g1 && decide (0 ≤ sz))) rfl (by kernel_rfl) (by kernel_rfl) (by kernel_rfl) (fun _ _ _ h => h) (Or.inl ⟨by rfl, ?_⟩) (by with_reducible assumption) ?_
  · (intro w hSw; clear hSw; cases g1 <;> (go_simp); all_goals (try with_reducible rfl))
  (try simp only [List.getElem_toArray, List.getElem_cons_succ, List.getElem_cons_zero, Act.put, List.setIfInBounds_toArray, List.set_cons_zero, List.set_cons_succ])
  obtain ⟨g2, hg2⟩ : ∃ x, x = (g1 && decide (0 ≤ sz)) := ⟨_, rfl⟩
  rw [← hg2]
  have Hg2 := Lib.hid hg2
  clear hg2
  refine wpAnyH_take (i := 9) (v := ?_) rfl (by kernel_rfl) (by kernel_rfl) (by kernel_rfl) (fun _ _ _ h => h) (Or.inl ⟨by rfl, ?_⟩) (by with_reducible assumption) ?_
  rotate_left
  · (intro w hSw; clear hSw; go_simp); all_goals with_reducible rfl
  (try simp only [List.getElem_toArray, List.getElem_cons_succ, List.getElem_cons_zero, Act.put, List.setIfInBounds_toArray, List.set_cons_zero, List.set_cons_succ])
  refine wpAnyH_take (i := 10) (v := bif g2 then ?_ else undef) rfl (by kernel_rfl) (by kernel_rfl) (by kernel_rfl) (fun _ _ _ h => h) (yi_guard g2 (by cases g2 <;> rfl) ?_) (by with_reducible assumption) ?_
  rotate_left
  · (intro hg w hSw; clear hSw; simp only [hg, cond_true]; go_simp); all_goals with_reducible rfl
  (try simp only [List.getElem_toArray, List.getElem_cons_succ, List.getElem_cons_zero, Act.put, List.setIfInBounds_toArray, List.set_cons_zero, List.set_cons_succ])
  refine wpAnyH_take (i := 11) (v := bif g2 then ?_ else undef) rfl (by kernel_rfl) (by kernel_rfl) (by kernel_rfl) (fun _ _ _ h => h) (yi_guard g2 (by cases g2 <;> rfl) ?_) (by with_reducible assumption) ?_
  rotate_left
  · (intro hg w hSw; have c_0 := (hSw.cell (World.block_lt_of_cell? _ _ F2)).trans F2; clear hSw; simp only [hg, cond_true]; go_simp); all_goals with_reducible rfl
  (try simp only [List.getElem_toArray, List.getElem_cons_succ, List.getElem_cons_zero, Act.put, List.setIfInBounds_toArray, List.set_cons_zero, List.set_cons_succ])
  refine wpAnyH_take (i := 12) (v := bif g2 then ?_ else undef) rfl (by kernel_rfl) (by kernel_rfl) (by kernel_rfl) (fun _ _ _ h => h) (yi_guard g2 (by cases g2 <;> rfl) ?_) (by with_reducible assumption) ?_
  rotate_left
  · (intro hg w hSw; clear hSw; simp only [hg, cond_true]; go_simp); all_goals with_reducible rfl
  (try simp only [List.getElem_toArray, List.getElem_cons_succ, List.getElem_cons_zero, Act.put, List.setIfInBounds_toArray, List.set_cons_zero, List.set_cons_succ])
  refine wpAnyH_take (i := 13) (v := .bool (g2 && decide (sz ≤ 65536))) rfl (by kernel_rfl) (by kernel_rfl) (by kernel_rfl) (fun _ _ _ h => h) (Or.inl ⟨by rfl, ?_⟩) (by with_reducible assumption) ?_
  · (intro w hSw; clear hSw; cases g2 <;> (go_simp); all_goals (try with_reducible rfl))
  (try simp only [List.getElem_toArray, List.getElem_cons_succ, List.getElem_cons_zero, Act.put, List.setIfInBounds_toArray, List.set_cons_zero, List.set_cons_succ])
  obtain ⟨g3, hg3⟩ : ∃ x, x = (g2 && decide (sz ≤ 65536)) := ⟨_, rfl⟩
  rw [← hg3]
  have Hg3 := Lib.hid hg3
  clear hg3
  refine wpAnyH_take (i := 14) (v := ?_) rfl (by kernel_rfl) (by kernel_rfl) (by kernel_rfl) (fun _ _ _ h => h) (Or.inl ⟨by rfl, ?_⟩) (by with_reducible assumption) ?_
  rotate_left
  · (intro w hSw; clear hSw; go_simp); all_goals with_reducible rfl
  (try simp only [List.getElem_toArray, List.getElem_cons_succ, List.getElem_cons_zero, Act.put, List.setIfInBounds_toArray, List.set_cons_zero, List.set_cons_succ])
  refine wpAnyH_take (i := 15) (v := bif g3 then ?_ else undef) rfl (by kernel_rfl) (by kernel_rfl) (by kernel_rfl) (fun _ _ _ h => h) (yi_guard g3 (by cases g3 <;> rfl) ?_) (by with_reducible assumption) ?_
  rotate_left
  · (intro hg w hSw; clear hSw; simp only [hg, cond_true]; go_simp); all_goals with_reducible rfl
  (try simp only [List.getElem_toArray, List.getElem_cons_succ, List.getElem_cons_zero, Act.put, List.setIfInBounds_toArray, List.set_cons_zero, List.set_cons_succ])
  refine wpAnyH_take (i := 16) (v := bif g3 then ?_ else undef) rfl (by kernel_rfl) (by kernel_rfl) (by kernel_rfl) (fun _ _ _ h => h) (yi_guard g3 (by cases g3 <;> rfl) ?_) (by with_reducible assumption) ?_
  rotate_left
  · (intro hg w hSw; have c_0 := (hSw.cell (World.block_lt_of_cell? _ _ F3)).trans F3; clear hSw; simp only [hg, cond_true]; go_simp); all_goals with_reducible rfl
  (try simp only [List.getElem_toArray, List.getElem_cons_succ, List.getElem_cons_zero, Act.put, List.setIfInBounds_toArray, List.set_cons_zero, List.set_cons_succ])
  refine wpAnyH_take (i := 17) (v := bif g3 then ?_ else undef) rfl (by kernel_rfl) (by kernel_rfl) (by kernel_rfl) (fun _ _ _ h => h) (yi_guard g3 (by cases g3 <;> rfl) ?_) (by with_reducible assumption) ?_
  rotate_left
  · (intro hg w hSw; clear hSw; simp only [hg, cond_true]; go_simp); all_goals with_reducible rfl
  (try simp only [List.getElem_toArray, List.getElem_cons_succ, List.getElem_cons_zero, Act.put, List.setIfInBounds_toArray, List.set_cons_zero, List.set_cons_succ])
  refine wpAnyH_take (i := 18) (v := bif g3 then ?_ else undef) rfl (by kernel_rfl) (by kernel_rfl) (by kernel_rfl) (fun _ _ _ h => h) (yi_guard g3 (by cases g3 <;> rfl) ?_) (by with_reducible assumption) ?_
  rotate_left
  · (intro hg w hSw; clear hSw; simp only [hg, cond_true]; go_simp); all_goals with_reducible rfl
  (try simp only [List.getElem_toArray, List.getElem_cons_succ, List.getElem_cons_zero, Act.put, List.setIfInBounds_toArray, List.set_cons_zero, List.set_cons_succ])
  refine wpAnyH_take (i := 19) (v := .bool (g3 && ((sm.size : Int) == 32))) rfl (by kernel_rfl) (by kernel_rfl) (by kernel_rfl) (fun _ _ _ h => h) (Or.inl ⟨by rfl, ?_⟩) (by with_reducible assumption) ?_
  · (intro w hSw; clear hSw; cases g3 <;> (go_simp); all_goals (try with_reducible rfl))
  (try simp only [List.getElem_toArray, List.getElem_cons_succ, List.getElem_cons_zero, Act.put, List.setIfInBounds_toArray, List.set_cons_zero, List.set_cons_succ])
  obtain ⟨g4, hg4⟩ : ∃ x, x = (g3 && ((sm.size : Int) == 32)) := ⟨_, rfl⟩
  rw [← hg4]
  have Hg4 := Lib.hid hg4
  clear hg4
  refine wpAnyH_take (i := 20) (v := ?_) rfl (by kernel_rfl) (by kernel_rfl) (by kernel_rfl) (fun _ _ _ h => h) (Or.inl ⟨by rfl, ?_⟩) (by with_reducible assumption) ?_
  rotate_left
  · (intro w hSw; clear hSw; go_simp); all_goals with_reducible rfl
  (try simp only [List.getElem_toArray, List.getElem_cons_succ, List.getElem_cons_zero, Act.put, List.setIfInBounds_toArray, List.set_cons_zero, List.set_cons_succ])
  refine wpAnyH_take (i := 21) (v := bif g4 then ?_ else undef) rfl (by kernel_rfl) (by kernel_rfl) (by kernel_rfl) (fun _ _ _ h => h) (yi_guard g4 (by cases g4 <;> rfl) ?_) (by with_reducible assumption) ?_
  rotate_left
  · (intro hg w hSw; clear hSw; simp only [hg, cond_true]; go_simp); all_goals with_reducible rfl
  (try simp only [List.getElem_toArray, List.getElem_cons_succ, List.getElem_cons_zero, Act.put, List.setIfInBounds_toArray, List.set_cons_zero, List.set_cons_succ])
  refine wpAnyH_take (i := 22) (v := bif g4 then ?_ else undef) rfl (by kernel_rfl) (by kernel_rfl) (by kernel_rfl) (fun _ _ _ h => h) (yi_guard g4 (by cases g4 <;> rfl) ?_) (by with_reducible assumption) ?_
  rotate_left
  · (intro hg w hSw; have c_0 := (hSw.cell (World.block_lt_of_cell? _ _ F1)).trans F1; clear hSw; simp only [hg, cond_true]; go_simp); all_goals with_reducible rfl
  (try simp only [List.getElem_toArray, List.getElem_cons_succ, List.getElem_cons_zero, Act.put, List.setIfInBounds_toArray, List.set_cons_zero, List.set_cons_succ])
  refine wpAnyH_take (i := 23) (v := bif g4 then ?_ else undef) rfl (by kernel_rfl) (by kernel_rfl) (by kernel_rfl) (fun _ _ _ h => h) (yi_guard g4 (by cases g4 <;> rfl) ?_) (by with_reducible assumption) ?_
  rotate_left
  · (intro hg w hSw; clear hSw; simp only [hg, cond_true]; go_simp); all_goals with_reducible rfl
  (try simp only [List.getElem_toArray, List.getElem_cons_succ, List.getElem_cons_zero, Act.put, List.setIfInBounds_toArray, List.set_cons_zero, List.set_cons_succ])
  refine wpAnyH_take (i := 24) (v := .bool (g4 && decide (0 ≤ ver))) rfl (by kernel_rfl) (by kernel_rfl) (by kernel_rfl) (fun _ _ _ h => h) (Or.inl ⟨by rfl, ?_⟩) (by with_reducible assumption) ?_
  · (intro w hSw; clear hSw; cases g4 <;> (go_simp); all_goals (try with_reducible rfl))
  (try simp only [List.getElem_toArray, List.getElem_cons_succ, List.getElem_cons_zero, Act.put, List.setIfInBounds_toArray, List.set_cons_zero, List.set_cons_succ])
  obtain ⟨g5, hg5⟩ : ∃ x, x = (g4 && decide (0 ≤ ver)) := ⟨_, rfl⟩
  rw [← hg5]
  have Hg5 := Lib.hid hg5
  clear hg5
  refine wpAnyH_take (i := 25) (v := ?_) rfl (by kernel_rfl) (by kernel_rfl) (by kernel_rfl) (fun _ _ _ h => h) (Or.inl ⟨by rfl, ?_⟩) (by with_reducible assumption) ?_
  rotate_left
  · (intro w hSw; clear hSw; go_simp); all_goals with_reducible rfl
  (try simp only [List.getElem_toArray, List.getElem_cons_succ, List.getElem_cons_zero, Act.put, List.setIfInBounds_toArray, List.set_cons_zero, List.set_cons_succ])
  refine wpAnyH_take (i := 26) (v := bif g5 then ?_ else undef) rfl (by kernel_rfl) (by kernel_rfl) (by kernel_rfl) (fun _ _ _ h => h) (yi_guard g5 (by cases g5 <;> rfl) ?_) (by with_reducible assumption) ?_
  rotate_left
  · (intro hg w hSw; clear hSw; simp only [hg, cond_true]; go_simp); all_goals with_reducible rfl
  (try simp only [List.getElem_toArray, List.getElem_cons_succ, List.getElem_cons_zero, Act.put, List.setIfInBounds_toArray, List.set_cons_zero, List.set_cons_succ])
  refine wpAnyH_take (i := 27) (v := bif g5 then ?_ else undef) rfl (by kernel_rfl) (by kernel_rfl) (by kernel_rfl) (fun _ _ _ h => h) (yi_guard g5 (by cases g5 <;> rfl) ?_) (by with_reducible assumption) ?_
  rotate_left
  · (intro hg w hSw; have c_0 := (hSw.cell (World.block_lt_of_cell? _ _ F1)).trans F1; clear hSw; simp only [hg, cond_true]; go_simp); all_goals with_reducible rfl
  (try simp only [List.getElem_toArray, List.getElem_cons_succ, List.getElem_cons_zero, Act.put, List.setIfInBounds_toArray, List.set_cons_zero, List.set_cons_succ])
  refine wpAnyH_take (i := 28) (v := bif g5 then ?_ else undef) rfl (by kernel_rfl) (by kernel_rfl) (by kernel_rfl) (fun _ _ _ h => h) (yi_guard g5 (by cases g5 <;> rfl) ?_) (by with_reducible assumption) ?_
  rotate_left
  · (intro hg w hSw; clear hSw; simp only [hg, cond_true]; go_simp); all_goals with_reducible rfl
  (try simp only [List.getElem_toArray, List.getElem_cons_succ, List.getElem_cons_zero, Act.put, List.setIfInBounds_toArray, List.set_cons_zero, List.set_cons_succ])
  refine wpAnyH_take (i := 29) (v := .bool (g5 && decide (ver ≤ 1000000))) rfl (by kernel_rfl) (by kernel_rfl) (by kernel_rfl) (fun _ _ _ h => h) (Or.inl ⟨by rfl, ?_⟩) (by with_reducible assumption) ?_
  · (intro w hSw; clear hSw; cases g5 <;> (go_simp); all_goals (try with_reducible rfl))
  (try simp only [List.getElem_toArray, List.getElem_cons_succ, List.getElem_cons_zero, Act.put, List.setIfInBounds_toArray, List.set_cons_zero, List.set_cons_succ])
  obtain ⟨g6, hg6⟩ : ∃ x, x = (g5 && decide (ver ≤ 1000000)) := ⟨_, rfl⟩
  rw [← hg6]
  have Hg6 := Lib.hid hg6
  clear hg6
  refine wpAnyH_take (i := 30) (v := ?_) rfl (by kernel_rfl) (by kernel_rfl) (by kernel_rfl) (fun _ _ _ h => h) (Or.inl ⟨by rfl, ?_⟩) (by with_reducible assumption) ?_
  rotate_left
  · (intro w hSw; clear hSw; go_simp); all_goals with_reducible rfl
  (try simp only [List.getElem_toArray, List.getElem_cons_succ, List.getElem_cons_zero, Act.put, List.setIfInBounds_toArray, List.set_cons_zero, List.set_cons_succ])
  refine wpAnyH_take (i := 31) (v := bif g6 then ?_ else undef) rfl (by kernel_rfl) (by kernel_rfl) (by kernel_rfl) (fun _ _ _ h => h) (yi_guard g6 (by cases g6 <;> rfl) ?_) (by with_reducible assumption) ?_
  rotate_left
  · (intro hg w hSw; clear hSw; simp only [hg, cond_true]; go_simp); all_goals with_reducible rfl
  (try simp only [List.getElem_toArray, List.getElem_cons_succ, List.getElem_cons_zero, Act.put, List.setIfInBounds_toArray, List.set_cons_zero, List.set_cons_succ])
  refine wpAnyH_take (i := 32) (v := bif g6 then ?_ else undef) rfl (by kernel_rfl) (by kernel_rfl) (by kernel_rfl) (fun _ _ _ h => h) (yi_guard g6 (by cases g6 <;> rfl) ?_) (by with_reducible assumption) ?_
  rotate_left
  · (intro hg w hSw; have c_0 := (hSw.cell (World.block_lt_of_cell? _ _ F1)).trans F1; clear hSw; simp only [hg, cond_true]; go_simp); all_goals with_reducible rfl
  (try simp only [List.getElem_toArray, List.getElem_cons_succ, List.getElem_cons_zero, Act.put, List.setIfInBounds_toArray, List.set_cons_zero, List.set_cons_succ])
  refine wpAnyH_take (i := 33) (v := bif g6 then ?_ else undef) rfl (by kernel_rfl) (by kernel_rfl) (by kernel_rfl) (fun _ _ _ h => h) (yi_guard g6 (by cases g6 <;> rfl) ?_) (by with_reducible assumption) ?_
  rotate_left
  · (intro hg w hSw; clear hSw; simp only [hg, cond_true]; go_simp); all_goals with_reducible rfl
  (try simp only [List.getElem_toArray, List.getElem_cons_succ, List.getElem_cons_zero, Act.put, List.setIfInBounds_toArray, List.set_cons_zero, List.set_cons_succ])
  refine wpAnyH_take (i := 34) (v := bif g6 then ?_ else undef) rfl (by kernel_rfl) (by kernel_rfl) (by kernel_rfl) (fun _ _ _ h => h) (yi_guard g6 (by cases g6 <;> rfl) ?_) (by with_reducible assumption) ?_
  rotate_left
  · (intro hg w hSw; have c_0 := (hSw.cell (World.block_lt_of_cell? _ _ Fv)).trans Fv; clear hSw; simp only [hg, cond_true]; go_simp); all_goals with_reducible rfl
  (try simp only [List.getElem_toArray, List.getElem_cons_succ, List.getElem_cons_zero, Act.put, List.setIfInBounds_toArray, List.set_cons_zero, List.set_cons_succ])
  refine wpAnyH_take (i := 35) (v := bif g6 then ?_ else undef) rfl (by kernel_rfl) (by kernel_rfl) (by kernel_rfl) (fun _ _ _ h => h) (yi_guard g6 (by cases g6 <;> rfl) ?_) (by with_reducible assumption) ?_
  rotate_left
  · (intro hg w hSw; clear hSw; simp only [hg, cond_true]; go_simp); all_goals with_reducible rfl
  (try simp only [List.getElem_toArray, List.getElem_cons_succ, List.getElem_cons_zero, Act.put, List.setIfInBounds_toArray, List.set_cons_zero, List.set_cons_succ])
  refine wpAnyH_take (i := 36) (v := .bool (g6 && (decide (0 < ver) == false))) rfl (by kernel_rfl) (by kernel_rfl) (by kernel_rfl) (fun _ _ _ h => h) (Or.inl ⟨by rfl, ?_⟩) (by with_reducible assumption) ?_
  · (intro w hSw; clear hSw; cases g6 <;> (go_simp); all_goals (try with_reducible rfl))
  (try simp only [List.getElem_toArray, List.getElem_cons_succ, List.getElem_cons_zero, Act.put, List.setIfInBounds_toArray, List.set_cons_zero, List.set_cons_succ])
  obtain ⟨g7, hg7⟩ : ∃ x, x = (g6 && (decide (0 < ver) == false)) := ⟨_, rfl⟩
  rw [← hg7]
  have Hg7 := Lib.hid hg7
  clear hg7
  refine wpAnyH_take (i := 37) (v := ?_) rfl (by kernel_rfl) (by kernel_rfl) (by kernel_rfl) (fun _ _ _ h => h) (Or.inl ⟨by rfl, ?_⟩) (by with_reducible assumption) ?_
  rotate_left
  · (intro w hSw; clear hSw; go_simp); all_goals with_reducible rfl
  (try simp only [List.getElem_toArray, List.getElem_cons_succ, List.getElem_cons_zero, Act.put, List.setIfInBounds_toArray, List.set_cons_zero, List.set_cons_succ])
  refine wpAnyH_take (i := 38) (v := bif g7 then ?_ else undef) rfl (by kernel_rfl) (by kernel_rfl) (by kernel_rfl) (fun _ _ _ h => h) (yi_guard g7 (by cases g7 <;> rfl) ?_) (by with_reducible assumption) ?_
  rotate_left
  · (intro hg w hSw; clear hSw; simp only [hg, cond_true]; go_simp); all_goals with_reducible rfl
  (try simp only [List.getElem_toArray, List.getElem_cons_succ, List.getElem_cons_zero, Act.put, List.setIfInBounds_toArray, List.set_cons_zero, List.set_cons_succ])
  refine wpAnyH_take (i := 39) (v := bif g7 then ?_ else undef) rfl (by kernel_rfl) (by kernel_rfl) (by kernel_rfl) (fun _ _ _ h => h) (yi_guard g7 (by cases g7 <;> rfl) ?_) (by with_reducible assumption) ?_
  rotate_left
  · (intro hg w hSw; clear hSw; simp only [hg, cond_true]; go_simp); all_goals with_reducible rfl
  (try simp only [List.getElem_toArray, List.getElem_cons_succ, List.getElem_cons_zero, Act.put, List.setIfInBounds_toArray, List.set_cons_zero, List.set_cons_succ])
  refine wpAnyH_take (i := 40) (v := bif g7 then ?_ else undef) rfl (by kernel_rfl) (by kernel_rfl) (by kernel_rfl) (fun _ _ _ h => h) (yi_guard g7 (by cases g7 <;> rfl) ?_) (by with_reducible assumption) ?_
  rotate_left
  · (intro hg w hSw; clear hSw; simp only [hg, cond_true]; go_simp); all_goals with_reducible rfl
  (try simp only [List.getElem_toArray, List.getElem_cons_succ, List.getElem_cons_zero, Act.put, List.setIfInBounds_toArray, List.set_cons_zero, List.set_cons_succ])
  refine wpAnyH_take (i := 41) (v := bif g7 then ?_ else undef) rfl (by kernel_rfl) (by kernel_rfl) (by kernel_rfl) (fun _ _ _ h => h) (yi_guard g7 (by cases g7 <;> rfl) ?_) (by with_reducible assumption) ?_
  rotate_left
  · (intro hg w hSw; have c_0 := (hSw.cell (World.block_lt_of_cell? _ _ Fl)).trans Fl; clear hSw; simp only [hg, cond_true]; go_simp); all_goals with_reducible rfl
  (try simp only [List.getElem_toArray, List.getElem_cons_succ, List.getElem_cons_zero, Act.put, List.setIfInBounds_toArray, List.set_cons_zero, List.set_cons_succ])
  refine wpAnyH_take (i := 42) (v := bif g7 then ?_ else undef) rfl (by kernel_rfl) (by kernel_rfl) (by kernel_rfl) (fun _ _ _ h => h) (yi_guard g7 (by cases g7 <;> rfl) ?_) (by with_reducible assumption) ?_
  rotate_left
  · (intro hg w hSw; clear hSw; simp only [hg, cond_true]; go_simp); all_goals with_reducible rfl
  (try simp only [List.getElem_toArray, List.getElem_cons_succ, List.getElem_cons_zero, Act.put, List.setIfInBounds_toArray, List.set_cons_zero, List.set_cons_succ])
  refine wpAnyH_take (i := 43) (v := bif g7 then ?_ else undef) rfl (by kernel_rfl) (by kernel_rfl) (by kernel_rfl) (fun _ _ _ h => h) (yi_guard g7 (by cases g7 <;> rfl) ?_) (by with_reducible assumption) ?_
  rotate_left
  · (intro hg w hSw; clear hSw; simp only [hg, cond_true]; go_simp); all_goals with_reducible rfl
  (try simp only [List.getElem_toArray, List.getElem_cons_succ, List.getElem_cons_zero, Act.put, List.setIfInBounds_toArray, List.set_cons_zero, List.set_cons_succ])
  refine wpAnyH_take (i := 44) (v := bif g7 then ?_ else undef) rfl (by kernel_rfl) (by kernel_rfl) (by kernel_rfl) (fun _ _ _ h => h) (yi_guard g7 (by cases g7 <;> rfl) ?_) (by with_reducible assumption) ?_
  rotate_left
  · (intro hg w hSw; clear hSw; simp only [hg, cond_true]; go_simp); all_goals with_reducible rfl
  (try simp only [List.getElem_toArray, List.getElem_cons_succ, List.getElem_cons_zero, Act.put, List.setIfInBounds_toArray, List.set_cons_zero, List.set_cons_succ])
  refine wpAnyH_take (i := 45) (v := bif g7 then ?_ else undef) rfl (by kernel_rfl) (by kernel_rfl) (by kernel_rfl) (fun _ _ _ h => h) (yi_guard g7 (by cases g7 <;> rfl) ?_) (by with_reducible assumption) ?_
  rotate_left
  · (intro hg w hSw; clear hSw; simp only [hg, cond_true]; go_simp); all_goals with_reducible rfl
  (try simp only [List.getElem_toArray, List.getElem_cons_succ, List.getElem_cons_zero, Act.put, List.setIfInBounds_toArray, List.set_cons_zero, List.set_cons_succ])
  refine wpAnyH_take (i := 46) (v := bif g7 then ?_ else undef) rfl (by kernel_rfl) (by kernel_rfl) (by kernel_rfl) (fun _ _ _ h => h) (yi_guard g7 (by cases g7 <;> rfl) ?_) (by with_reducible assumption) ?_
  rotate_left
  · (intro hg w hSw; have c_0 := (hSw.cell (World.block_lt_of_cell? _ _ Fp)).trans Fp; clear hSw; simp only [hg, cond_true]; go_simp); all_goals with_reducible rfl
  (try simp only [List.getElem_toArray, List.getElem_cons_succ, List.getElem_cons_zero, Act.put, List.setIfInBounds_toArray, List.set_cons_zero, List.set_cons_succ])
  refine wpAnyH_take (i := 47) (v := bif g7 then ?_ else undef) rfl (by kernel_rfl) (by kernel_rfl) (by kernel_rfl) (fun _ _ _ h => h) (yi_guard g7 (by cases g7 <;> rfl) ?_) (by with_reducible assumption) ?_
  rotate_left
  · (intro hg w hSw; clear hSw; simp only [hg, cond_true]; go_simp); all_goals with_reducible rfl
  (try simp only [List.getElem_toArray, List.getElem_cons_succ, List.getElem_cons_zero, Act.put, List.setIfInBounds_toArray, List.set_cons_zero, List.set_cons_succ])
  refine wpAnyH_take (i := 48) (v := bif g7 then ?_ else undef) rfl (by kernel_rfl) (by kernel_rfl) (by kernel_rfl) (fun _ _ _ h => h) (yi_guard g7 (by cases g7 <;> rfl) ?_) (by with_reducible assumption) ?_
  rotate_left
  · (intro hg w hSw; have c_0 := (hSw.cell (World.block_lt_of_cell? _ _ F0)).trans F0; clear hSw; simp only [hg, cond_true]; go_simp); all_goals with_reducible rfl
  (try simp only [List.getElem_toArray, List.getElem_cons_succ, List.getElem_cons_zero, Act.put, List.setIfInBounds_toArray, List.set_cons_zero, List.set_cons_succ])
  refine wpAnyH_take (i := 49) (v := bif g7 then ?_ else undef) rfl (by kernel_rfl) (by kernel_rfl) (by kernel_rfl) (fun _ _ _ h => h) (yi_guard g7 (by cases g7 <;> rfl) ?_) (by with_reducible assumption) ?_
  rotate_left
  · (intro hg w hSw; clear hSw; simp only [hg, cond_true]; go_simp); all_goals with_reducible rfl
  (try simp only [List.getElem_toArray, List.getElem_cons_succ, List.getElem_cons_zero, Act.put, List.setIfInBounds_toArray, List.set_cons_zero, List.set_cons_succ])
  refine wpAnyH_take (i := 50) (v := bif g7 then ?_ else undef) rfl (by kernel_rfl) (by kernel_rfl) (by kernel_rfl) (fun _ _ _ h => h) (yi_guard g7 (by cases g7 <;> rfl) ?_) (by with_reducible assumption) ?_
  rotate_left
  · (intro hg w hSw; clear hSw; simp only [hg, cond_true]; go_simp); all_goals with_reducible rfl
  (try simp only [List.getElem_toArray, List.getElem_cons_succ, List.getElem_cons_zero, Act.put, List.setIfInBounds_toArray, List.set_cons_zero, List.set_cons_succ])
  refine wpAnyH_take (i := 51) (v := .bool (g7 && Op.bytesLess pv.toList nm.toList)) rfl (by kernel_rfl) (by kernel_rfl) (by kernel_rfl) (fun _ _ _ h => h) (Or.inl ⟨by rfl, ?_⟩) (by with_reducible assumption) ?_
  · (intro w hSw; clear hSw; cases g7 <;> (go_simp); all_goals (try with_reducible rfl))
  (try simp only [List.getElem_toArray, List.getElem_cons_succ, List.getElem_cons_zero, Act.put, List.setIfInBounds_toArray, List.set_cons_zero, List.set_cons_succ])
  refine wpAnyH_take (i := 52) (v := ?_) rfl (by kernel_rfl) (by kernel_rfl) (by kernel_rfl) (fun _ _ _ h => h) (Or.inl ⟨by rfl, ?_⟩) (by with_reducible assumption) ?_
  rotate_left
  · (intro w hSw; clear hSw; go_simp); all_goals with_reducible rfl
  (try simp only [List.getElem_toArray, List.getElem_cons_succ, List.getElem_cons_zero, Act.put, List.setIfInBounds_toArray, List.set_cons_zero, List.set_cons_succ])
  refine wpAnyH_done (by kernel_rfl) ?_ _
  refine NoPanic.normal ?_
  go_wp2
  go_ret
  refine ⟨?_, below_step HBA.out hHeld2⟩
  show Ending.returned (.bool (g7 && Op.bytesLess pv.toList nm.toList)) = Ending.returned (.bool _)
  rw [Hg7.out, Hg6.out, Hg5.out, Hg4.out, Hg3.out, Hg2.out]
end Go.Proofs.YtgcflmhlegagbaaGreatDoor.E
end
section
set_option linter.unusedVariables false
set_option linter.unusedSimpArgs false
namespace Go.Proofs.YtgcflmhlegagbaaGreatDoor.E
open Go.RowKit Go.Lib Go.Shelf Go.Proofs.YtgcflmhlegagbaaGreatDoorW.PrintWords Go.Proofs.YtgcflmhlegagbaaGreatDoorW.PrintLast Go.Proofs.YtgcflmhlegagbaaGreatDoorW.PrintMore
open X (S25 k25 z25 rd_T25 at_T25 S28 k28 z28 S53 k53 z53 rd_T53 at_T53 S46 S48 S70 k70 z70)
def fileV (x : S25) : Value := .agg #[.string x.f0, .int .i64 x.f1, .int .i64 x.f2, .string x.f3]
/-- Are all of a row so, by their places? -/
def allK {α : Type} (p : Nat → α → Bool) (d : α) (l : List α) : Bool := (List.range l.length).all fun k => p k (l.getD k d)
theorem allK_false {α : Type} (p : Nat → α → Bool) (d : α) (l : List α) (k : Nat) (hk : k < l.length) (h : p k (l.getD k d) = false) : allK p d l = false := by
  unfold allK
  rw [Bool.eq_false_iff]
  intro ha
  have := List.all_eq_true.1 ha k (List.mem_range.2 hk)
  rw [h] at this; cases this
theorem allK_true {α : Type} (p : Nat → α → Bool) (d : α) (l : List α) (h : ∀ k, k < l.length → p k (l.getD k d) = true) : allK p d l = true := by
  unfold allK
  exact List.all_eq_true.2 fun k hk => h k (List.mem_range.1 hk)
def fileTest (g : Nat) (lb : Array Value) (p : Nat → S25 → Bool) (l : List S25) (w : World) : Prop :=
  ∀ (W : World) (k : Nat), k < l.length → Below w.heap.size w W → Calls Tryz.prog g (#[.int .i64 k, fileV (l.getD k z25)] ++ lb) W fun e w' => e = .returned (.bool (p k (l.getD k z25))) ∧ Below W.heap.size W w'
set_option maxHeartbeats 4000000 in
set_option maxRecDepth 100000 in
theorem allFiles (p : Nat → S25 → Bool) (g : Nat) (lb : Array Value) (eg : ∀ args w, (callFunc g args).run Tryz.prog w = .ok (.enter g args) w) (A : Option Addr) (c : Nat) (l : List S25) (w : World)
    (hp : fileTest g lb p l w) (hbig : l.length ≤ 1000) (hA : Kd.C k25 w A l.length l) :
    Calls Tryz.prog 60 #[.slice A l.length c, .func (.func g) #[] lb] w fun e w' => e = .returned (.bool (allK p z25 l)) ∧ Below w.heap.size w w' := by
  go_enter Tryz.func60, Tryz.ntmps60
  go_wp2
  have HP := Aside0.mk hp
  have HA := Aside0.mk hA
  clear hp hA
  go_loopg [9] l.length (fun gg s9 wr => ∃ kk : Nat, kk ≤ l.length ∧ l.length - kk ≤ gg ∧ s9 = .int .i64 kk ∧ Aside (Below w.heap.size w wr) ∧ Aside (∀ j, j < kk → p j (l.getD j z25) = true))
  case atStart => exact ⟨0, Nat.zero_le _, by omega, rfl, Below.refl _ w, fun j hj => absurd hj (Nat.not_lt_zero _)⟩
  case round =>
    obtain ⟨kk, hkk, hg, rfl, BW, A1⟩ := hrel
    by_cases hlt : kk < l.length
    · have hltz : (kk : Int) < (l.length : Int) := by omega
      obtain ⟨ad, rfl, c0, c1, c2, c3⟩ := at_T25 HA.out (kk : Int) (by omega) (by omega)
      have er : rd_T25 l kk = l.getD kk z25 := by unfold rd_T25; rw [Int.toNat_natCast]
      rw [er, Int.toNat_natCast] at c0 c1 c2 c3
      replace c0 := (BW.out.cell (World.block_lt_of_cell? w _ c0)).trans c0
      replace c1 := (BW.out.cell (World.block_lt_of_cell? w _ c1)).trans c1
      replace c2 := (BW.out.cell (World.block_lt_of_cell? w _ c2)).trans c2
      replace c3 := (BW.out.cell (World.block_lt_of_cell? w _ c3)).trans c3
      have hcall := fun (x : S25) (hx : l.getD kk z25 = x) => (show Calls Tryz.prog g (#[.int .i64 kk, fileV x] ++ lb) (wr.alloc (.cells #[.string x.f0, .int .i64 x.f1, .int .i64 x.f2, .string x.f3] 25)) fun e w' => e = .returned (.bool (p kk x)) ∧ Below w.heap.size w w' from
        (by have h := HP.out (wr.alloc (.cells #[.string x.f0, .int .i64 x.f1, .int .i64 x.f2, .string x.f3] 25)) kk hlt (below_alloc BW.out _)
            rw [hx] at h
            exact h.mono fun e w' ⟨h1, h2⟩ => ⟨h1, below_step (below_alloc BW.out _) h2⟩))
      obtain ⟨x, hx⟩ : ∃ x, l.getD kk z25 = x := ⟨_, rfl⟩
      have hc := hcall x hx
      rw [hx] at c0 c1 c2 c3
      have HX := Lib.hid hx
      clear hcall er hx
      unfold fileV at hc
      cases hq : p kk x with
      | false =>
        rw [hq] at hc
        have hF : allK p z25 l = false := allK_false p z25 l kk hlt (by rw [HX.out]; exact hq)
        go_wp2_with (go_at_fn g; refine hc.mono ?_; rintro e w' ⟨rfl, hb'⟩)
        go_ret
        exact ⟨by first | rfl | (rw [hF]; rfl), hb'⟩
      | true =>
        rw [hq] at hc
        go_wp2_with (go_at_fn g; refine hc.mono ?_; rintro e w' ⟨rfl, hb'⟩)
        go_roundg (l.length - (kk + 1))
        case measure => omega
        case rel =>
          refine ⟨kk + 1, by omega, by omega, by go_num, hb', (show Aside _ from fun j hj => ?_)⟩
          by_cases e : j = kk
          · subst e
            rw [HX.out]; exact hq
          · exact A1.out j (by omega)
    · have hltz : ¬ (kk : Int) < (l.length : Int) := by omega
      have hT : allK p z25 l = true := allK_true p z25 l (fun k hk => A1.out k (by omega))
      go_wp2
      go_ret
      exact ⟨by first | rfl | (rw [hT]; rfl), BW.out⟩
/-- May a file be at its place? -/
def fileP (l : List S25) (k : Nat) (x : S25) : Bool := fileB x.f0 x.f3 x.f1 x.f2 && (decide (k = 0) || Op.bytesLess (l.getD (k - 1) z25).f0.toList x.f0.toList)
def filesOk (l : List S25) : Bool := decide (l.length ≤ 32) && allK (fileP l) z25 l
attribute [local irreducible] fileB allK
theorem fileTest_any (A : Option Addr) (c : Nat) (l : List S25) (bn bv bl : Nat) (w : World) (hA : Kd.C k25 w A l.length l) (hlen : l.length ≤ 1000) (hn : w.cell? ⟨bn, 0, none⟩ = some (.func (.func 18) #[] #[])) (hv : w.cell? ⟨bv, 0, none⟩ = some (.bool false))
    (hl : w.cell? ⟨bl, 0, none⟩ = some (.slice A l.length c)) : fileTest 61 #[.pointer (some ⟨bn, 0, none⟩), .pointer (some ⟨bv, 0, none⟩), .pointer (some ⟨bl, 0, none⟩)] (fileP l) l w := by
  intro W k hk hb
  have hn' := (hb.cell (World.block_lt_of_cell? _ _ hn)).trans hn
  have hv' := (hb.cell (World.block_lt_of_cell? _ _ hv)).trans hv
  have hl' := (hb.cell (World.block_lt_of_cell? _ _ hl)).trans hl
  unfold fileP fileV
  generalize l.getD k z25 = x
  cases k with
  | zero =>
    rw [show (decide ((0 : Nat) = 0) || Op.bytesLess (l.getD (0 - 1) z25).f0.toList x.f0.toList) = true from rfl, Bool.and_true]
    exact file_first x.f0 x.f3 x.f1 x.f2 bn bv bl W hn' hv'
  | succ k =>
    rw [show (decide (k + 1 = 0) || Op.bytesLess (l.getD (k + 1 - 1) z25).f0.toList x.f0.toList) = Op.bytesLess (l.getD k z25).f0.toList x.f0.toList from by simp]
    obtain ⟨ad, rfl, c0, _⟩ := at_T25 hA (k : Int) (by omega) (by omega)
    have er : rd_T25 l k = l.getD k z25 := by unfold rd_T25; rw [Int.toNat_natCast]
    rw [er, Int.toNat_natCast] at c0
    have c0' := (hb.cell (World.block_lt_of_cell? _ _ c0)).trans c0
    exact file_next x.f0 x.f3 (l.getD k z25).f0 x.f1 x.f2 ((k + 1 : Nat) : Int) k bn bv bl l.length c ad W hn' hv' hl' (beq_eq_false_iff_ne.mpr (by omega)) (by rw [show (((k + 1 : Nat) : Int) - 1) = (k : Int) by omega]; exact Go.IntWalk.i64_in _ (by omega)) (by omega) (by omega) (by rw [Int.toNat_natCast]; exact c0')
set_option maxHeartbeats 2000000 in
set_option maxRecDepth 100000 in
theorem files_any (A : Option Addr) (c : Nat) (l : List S25) (w : World) (hA : Kd.C k25 w A l.length l) :
    Calls Tryz.prog 35 #[.slice A l.length c, .func (.func 18) #[] #[], .bool false] w fun e w' => e = .returned (.bool (filesOk l)) ∧ Below w.heap.size w w' := by
  have hmf : ∀ (fn : Fn) (first cap : Array Value) (w : World), (Instr.makeFunc fn first cap).run Tryz.prog w = .ok (.func fn first cap) w := fun _ _ _ _ => rfl
  obtain ⟨W1, hW1⟩ : ∃ W, W = w.alloc (.cells #[.slice A l.length c] 43) := ⟨_, rfl⟩
  obtain ⟨W2, hW2⟩ : ∃ W, W = W1.alloc (.cells #[.func (.func 18) #[] #[]] 37) := ⟨_, rfl⟩
  obtain ⟨W3, hW3⟩ : ∃ W, W = W2.alloc (.cells #[.bool false] 4) := ⟨_, rfl⟩
  have b1 : Below w.heap.size w W1 := hW1 ▸ below_alloc (Below.refl _ _) _
  have b2 : Below W1.heap.size W1 W2 := hW2 ▸ below_alloc (Below.refl _ _) _
  have b3 : Below W2.heap.size W2 W3 := hW3 ▸ below_alloc (Below.refl _ _) _
  have hb : Below w.heap.size w W3 := below_step (below_step b1 b2) b3
  have q1 : W1.cell? ⟨w.heap.size, 0, none⟩ = some (.slice A l.length c) := by rw [hW1]; simp
  have q2 : W2.cell? ⟨W1.heap.size, 0, none⟩ = some (.func (.func 18) #[] #[]) := by rw [hW2]; simp
  have q3 : W3.cell? ⟨W2.heap.size, 0, none⟩ = some (.bool false) := by rw [hW3]; simp
  have q1' := ((below_step b2 b3).cell (World.block_lt_of_cell? _ _ q1)).trans q1
  have q2' := (b3.cell (World.block_lt_of_cell? _ _ q2)).trans q2
  have s1 : W1.heap.size = w.heap.size + 1 := by rw [hW1]; simp
  have s2 : W2.heap.size = w.heap.size + 2 := by rw [hW2]; simp [s1]
  rw [s1] at q2'
  rw [s2] at q3
  by_cases h32 : l.length ≤ 32
  · have hA3 : Kd.C k25 W3 A l.length l := Kd.C_below hA hb
    have hT := fileTest_any A c l (w.heap.size + 1) (w.heap.size + 2) w.heap.size W3 hA3 (by omega) q2' q3 q1'
    have hAll := allFiles (fileP l) 61 _ (fun a w => enters_of Tryz.func61 (by kernel_rfl) rfl a w) A c l W3 hT (by omega) hA3
    have er : filesOk l = allK (fileP l) z25 l := by unfold filesOk; rw [decide_eq_true h32]; rfl
    rw [er]
    generalize allK (fileP l) z25 l = r at *
    rw [hW3, hW2, hW1] at hAll
    have HC := Aside0.mk hAll
    have HB := Aside0.mk hb
    have hz : (l.length : Int) ≤ 32 := by omega
    rw [hW3, hW2, hW1] at q1'
    have k1 := q1'
    clear hAll hT hA hA3 er q1 q2 q3 q2' b1 b2 b3 s1 s2 h32
    go_enter Tryz.func35, Tryz.ntmps35
    go_wp2_with (go_at_call 60; (with_reducible refine HC.out.mono ?_); rintro e w' ⟨rfl, hb'⟩)
    go_ret
    refine ⟨by first | rfl | (simp; done), below_step HB.out ?_⟩
    rw [hW3, hW2, hW1]; exact hb'
  · have er : filesOk l = false := by unfold filesOk; rw [decide_eq_false h32]; rfl
    have hz : ¬ (l.length : Int) ≤ 32 := by omega
    rw [er]
    rw [hW3, hW2, hW1] at q1' hb
    have HB := Aside0.mk hb
    clear hA er q1 q2 q3 q2' b1 b2 b3 s1 s2 h32 hb
    go_enter Tryz.func35, Tryz.ntmps35
    go_wp2
    go_ret
    exact ⟨rfl, HB.out⟩
end Go.Proofs.YtgcflmhlegagbaaGreatDoor.E
end
section
set_option linter.unusedVariables false
set_option linter.unusedSimpArgs false
namespace Go.Proofs.YtgcflmhlegagbaaGreatDoor.E
open Go.RowKit Go.Lib Go.Shelf Go.Proofs.YtgcflmhlegagbaaGreatDoorW.PrintWords Go.Proofs.YtgcflmhlegagbaaGreatDoorW.PrintLast Go.Proofs.YtgcflmhlegagbaaGreatDoorW.PrintMore
theorem wrap_nat (m : Nat) (h : m ≤ 1000000) : wrap64 ((m : Int) + 1) = ((m + 1 : Nat) : Int) := by unfold wrap64; omega
theorem rd_nat (l : List ByteArray) (m : Nat) (h : m < l.length) : rdOf ByteArray.empty l (m : Int) = l[m] := by
  rw [rdOf, Int.toNat_natCast, List.getD_eq_getElem?_getD, List.getElem?_eq_getElem h]; rfl
theorem idx_some (l : List ByteArray) (x : ByteArray) (hl : l.length ≤ 1000000) : ∀ (k m : Nat), m ≤ l.length → l.length - m < k →
    ∃ t, X.slices_Index_string_string.l0 k l x (l.length : Int) (m : Int) = some t ∧ (0 ≤ t ↔ (l.drop m).any (fun y => x.toList == y.toList) = true) := by
  intro k
  induction k with
  | zero => intro m _ h; omega
  | succ k ih =>
    intro m hm hk
    rw [X.slices_Index_string_string.l0]
    by_cases hlt : m < l.length
    · rw [if_pos (by omega), if_pos (by omega), if_pos (by omega), rd_nat l m hlt, List.drop_eq_getElem_cons hlt, List.any_cons]
      by_cases he : x.toList = l[m].toList
      · rw [if_pos he]
        exact ⟨_, rfl, by simp [he]⟩
      · rw [if_neg he, wrap_nat m (by omega)]
        obtain ⟨t, h1, h2⟩ := ih (m + 1) (by omega) (by omega)
        refine ⟨t, h1, ?_⟩
        rw [h2]
        simp [he]
    · rw [if_neg (by omega), List.drop_eq_nil_of_le (by omega)]
      exact ⟨-1, rfl, by simp⟩
theorem contains_any (A : Option Addr) (c : Nat) (l : List ByteArray) (x : ByteArray) (w : World) (hl : l.length ≤ 1000000) (hA : Kd.C Kd.string w A l.length l) (hc : l.length ≤ c) :
    Calls Tryz.prog 19 #[.slice A l.length c, .string x] w fun e w' => e = .returned (.bool (l.any (fun y => x.toList == y.toList))) ∧ Below w.heap.size w w' := by
  obtain ⟨t, h1, h2⟩ := idx_some l x hl (l.length + 1) 0 (by omega) (by omega)
  refine (X.slices_Contains_string_string.calls (l.length + 1) A c l x (l.any (fun y => x.toList == y.toList)) w hA hc ?_).mono fun e w' ⟨he, hd⟩ => ⟨he, hd.below⟩
  unfold X.slices_Contains_string_string.f X.slices_Index_string_string.f
  rw [show (0 : Int) = ((0 : Nat) : Int) from rfl, h1, Option.bind_some]
  congr 1
  rw [Bool.eq_iff_iff]
  rw [List.drop_zero] at h2
  simp only [decide_eq_true_eq]
  exact h2
/-- May a role's id be at its place? -/
def roleAt (ids : List ByteArray) (i : Nat) : Bool := idOk (ids.getD i ByteArray.empty).data.toList && (decide (i = 0) || Op.bytesLess (ids.getD (i - 1) ByteArray.empty).toList (ids.getD i ByteArray.empty).toList)
def roleOk (ids : List ByteArray) (need : Int) : Bool := decide (ids.length ≤ 16) && decide (1 ≤ need) && decide (need ≤ (ids.length : Int)) && (List.range ids.length).all (roleAt ids)
theorem getD_at (l : List ByteArray) (m : Nat) (h : m < l.length) : l.getD m ByteArray.empty = l[m] := by rw [List.getD_eq_getElem?_getD, List.getElem?_eq_getElem h]; rfl
theorem range_drop (n m : Nat) (h : m < n) : (List.range n).drop m = m :: (List.range n).drop (m + 1) := by
  rw [List.drop_eq_getElem_cons (by simpa using h)]; simp
theorem role_l0 (ids : List ByteArray) (need : Int) (hl : ids.length ≤ 16) : ∀ (k m : Nat), m ≤ ids.length → ids.length - m < k →
    X.role_Right.l0 k ids (ids.length : Int) (m : Int) ids need = some (((List.range ids.length).drop m).all (roleAt ids)) := by
  intro k
  induction k with
  | zero => intro m _ h; omega
  | succ k ih =>
    intro m hm hk
    rw [X.role_Right.l0]
    by_cases hlt : m < ids.length
    · rw [if_pos (by omega), if_pos (by omega), if_pos (by omega), rd_nat ids m hlt, range_drop _ _ hlt, List.all_cons]
      unfold role_id.f
      rw [Option.bind_some]
      have eR : roleAt ids m = (idOk ids[m].data.toList && (decide (m = 0) || Op.bytesLess (ids.getD (m - 1) ByteArray.empty).toList ids[m].toList)) := by unfold roleAt; rw [getD_at ids m hlt]
      rw [eR]
      cases hid : idOk ids[m].data.toList with
      | false => rw [if_neg (by decide)]; rfl
      | true =>
        rw [if_pos rfl, Bool.true_and]
        by_cases h0 : m = 0
        · subst h0
          rw [if_neg (by decide)]
          rw [wrap_nat 0 (by omega)]
          rw [ih (0 + 1) (by omega) (by omega)]
          simp
        · rw [if_pos (by omega), show wrap64 ((m : Int) - 1) = ((m - 1 : Nat) : Int) from by unfold wrap64; omega, if_pos (by omega), if_pos (by omega), rd_nat ids (m - 1) (by omega), ← getD_at ids (m - 1) (by omega), decide_eq_false h0, Bool.false_or]
          cases hb : Op.bytesLess (ids.getD (m - 1) ByteArray.empty).toList ids[m].toList with
          | true => rw [if_pos rfl, wrap_nat m (by omega), ih (m + 1) (by omega) (by omega), Bool.true_and]
          | false => rw [if_neg (by decide)]; rfl
    · rw [if_neg (by omega), List.drop_eq_nil_of_le (by simp; omega)]; rfl
theorem role_any (A : Option Addr) (c : Nat) (ids : List ByteArray) (need : Int) (w : World) (hA : Kd.C Kd.string w A ids.length ids) (hc : ids.length ≤ c) :
    Calls Tryz.prog 34 #[.agg #[.slice A ids.length c, .int .i64 need]] w fun e w' => e = .returned (.bool (roleOk ids need)) ∧ Below w.heap.size w w' := by
  refine X.role_Right.calls (ids.length + 2) A c ids need (roleOk ids need) w hA hc ?_
  unfold X.role_Right.f roleOk
  by_cases h1 : ids.length ≤ 16
  · rw [if_neg (by omega), decide_eq_true h1, Bool.true_and]
    by_cases h2 : 1 ≤ need
    · rw [if_neg (by omega), decide_eq_true h2, Bool.true_and, X.role_Right.j0]
      by_cases h3 : need ≤ (ids.length : Int)
      · rw [if_neg (by simpa using h3), decide_eq_true h3, Bool.true_and]
        exact (role_l0 ids need h1 (ids.length + 1) 0 (by omega) (by omega)).trans (by rw [List.drop_zero])
      · rw [if_pos (by simpa using h3), decide_eq_false h3]; rfl
    · rw [if_pos (by omega), decide_eq_false h2, X.role_Right.j0, if_pos rfl]; rfl
  · rw [if_pos (by omega), decide_eq_false h1, X.role_Right.j0, if_pos rfl]; rfl
def wordsL : List ByteArray := [⟨#[114, 111, 111, 116]⟩, ⟨#[116, 105, 109, 101, 115, 116, 97, 109, 112]⟩, ⟨#[115, 110, 97, 112, 115, 104, 111, 116]⟩, ⟨#[116, 97, 114, 103, 101, 116, 115]⟩]
theorem words_any (w : World) : Calls Tryz.prog 37 #[] w fun e w' => e = .returned (.slice (some ⟨w.heap.size, 0, none⟩) 4 4) ∧ Kd.C Kd.string w' (some ⟨w.heap.size, 0, none⟩) 4 wordsL ∧ Below w.heap.size w w' := by
  go_enter Tryz.func37, Tryz.ntmps37
  go_wp2
  go_ret
  refine ⟨rfl, ?_, below_alloc (Below.refl _ _) _⟩
  exact str_mk (zs := wordsL) (by decide) (fun j hj => by
    have : j = 0 ∨ j = 1 ∨ j = 2 ∨ j = 3 := by have : j < 4 := hj; omega
    rcases this with rfl | rfl | rfl | rfl <;> (simp; rfl))
end Go.Proofs.YtgcflmhlegagbaaGreatDoor.E
end
section
set_option linter.unusedVariables false
set_option linter.unusedSimpArgs false
namespace Go.Proofs.YtgcflmhlegagbaaGreatDoor.E
open Go.RowKit Go.Lib Go.Shelf Go.Proofs.YtgcflmhlegagbaaGreatDoorW.PrintWords Go.Proofs.YtgcflmhlegagbaaGreatDoorW.PrintLast Go.Proofs.YtgcflmhlegagbaaGreatDoorW.PrintMore
open X (S25 k25 z25 rd_T25 at_T25 S28 k28 z28 S53 k53 z53 rd_T53 at_T53 S46 S48 S70 k70 z70)
def dgV (nm : ByteArray) (A1 : Option Addr) (n1 c1 : Nat) (need : Int) (A3 : Option Addr) (n3 c3 : Nat) (last : Bool) : Value := .agg #[.string nm, .slice A1 n1 c1, .int .i64 need, .slice A3 n3 c3, .bool last]
/-- A test of one by its name alone. -/
def dgTest (g : Nat) (lb : Array Value) (p : ByteArray → Bool) (w : World) : Prop :=
  ∀ (W : World) nm A1 n1 c1 need A3 n3 c3 last, Below w.heap.size w W → Calls Tryz.prog g (#[dgV nm A1 n1 c1 need A3 n3 c3 last] ++ lb) W fun e w' => e = .returned (.bool (p nm)) ∧ Below W.heap.size W w'
theorem take_any_false (p : S53 → Bool) (l : List S53) (k : Nat) (hk : k ≤ l.length) (h : ∀ j, j < k → p (l.getD j z53) = false) : (l.take k).any p = false := by
  rw [List.any_eq_false]
  intro x hx
  obtain ⟨j, hj, rfl⟩ := List.mem_iff_getElem.1 hx
  rw [List.length_take] at hj
  have := h j (by omega)
  rw [List.getD_eq_getElem?_getD, List.getElem?_eq_getElem (by omega)] at this
  rw [List.getElem_take]
  simpa using this
set_option maxHeartbeats 4000000 in
set_option maxRecDepth 100000 in
theorem dgIndex (p : ByteArray → Bool) (g : Nat) (lb : Array Value) (eg : ∀ args w, (callFunc g args).run Tryz.prog w = .ok (.enter g args) w) (A : Option Addr) (c : Nat) (l : List S53) (w : World)
    (hp : dgTest g lb p w) (hbig : l.length ≤ 1000) (hA : Kd.C k53 w A l.length l) :
    Calls Tryz.prog 94 #[.slice A l.length c, .func (.func g) #[] lb] w fun e w' => (∃ t : Int, e = .returned (.int .i64 t) ∧ decide (0 ≤ t) = l.any (fun x => p x.f0)) ∧ Below w.heap.size w w' := by
  go_enter Tryz.func94, Tryz.ntmps94
  go_wp2
  have HP := Aside0.mk hp
  have HA := Aside0.mk hA
  clear hp hA
  go_loopg [5, 8] l.length (fun gg _ s8 wr => ∃ kk : Nat, kk ≤ l.length ∧ l.length - kk ≤ gg ∧ s8 = .int .i64 kk ∧ Aside (Below w.heap.size w wr) ∧ Aside (∀ j, j < kk → p (l.getD j z53).f0 = false))
  case atStart => exact ⟨0, Nat.zero_le _, by omega, rfl, Below.refl _ w, fun j hj => absurd hj (Nat.not_lt_zero _)⟩
  case round =>
    obtain ⟨kk, hkk, hg, rfl, BW, A1⟩ := hrel
    by_cases hlt : kk < l.length
    · have hltz : (kk : Int) < (l.length : Int) := by omega
      obtain ⟨ad, a1, k1, a3, k3, rfl, c0, c1, c2, c3, c4, _⟩ := at_T53 HA.out (kk : Int) (by omega) (by omega)
      have er : rd_T53 l kk = l.getD kk z53 := by unfold rd_T53; rw [Int.toNat_natCast]
      rw [er, Int.toNat_natCast] at c0 c1 c2 c3 c4
      replace c0 := (BW.out.cell (World.block_lt_of_cell? w _ c0)).trans c0
      replace c1 := (BW.out.cell (World.block_lt_of_cell? w _ c1)).trans c1
      replace c2 := (BW.out.cell (World.block_lt_of_cell? w _ c2)).trans c2
      replace c3 := (BW.out.cell (World.block_lt_of_cell? w _ c3)).trans c3
      replace c4 := (BW.out.cell (World.block_lt_of_cell? w _ c4)).trans c4
      obtain ⟨x, hx⟩ : ∃ x, l.getD kk z53 = x := ⟨_, rfl⟩
      rw [hx] at c0 c1 c2 c3 c4
      have HX := Lib.hid hx
      have hc : Calls Tryz.prog g (#[dgV x.f0 a1 x.f1.f0.length k1 x.f1.f1 a3 x.f2.length k3 x.f3] ++ lb) wr fun e w' => e = .returned (.bool (p x.f0)) ∧ Below w.heap.size w w' := (HP.out wr x.f0 a1 x.f1.f0.length k1 x.f1.f1 a3 x.f2.length k3 x.f3 BW.out).mono fun e w' ⟨h1, h2⟩ => ⟨h1, below_step BW.out h2⟩
      clear er hx
      unfold dgV at hc
      cases hq : p x.f0 with
      | true =>
        rw [hq] at hc
        have hT : l.any (fun x => p x.f0) = true := List.any_eq_true.2 ⟨x, by rw [← HX.out, List.getD_eq_getElem?_getD, List.getElem?_eq_getElem hlt]; exact List.getElem_mem hlt, hq⟩
        go_wp2_with (go_at_fn g; refine hc.mono ?_; rintro e w' ⟨rfl, hb'⟩)
        go_ret
        exact ⟨⟨_, rfl, by first | omega | (rw [hT]; simp)⟩, hb'⟩
      | false =>
        rw [hq] at hc
        go_wp2_with (go_at_fn g; refine hc.mono ?_; rintro e w' ⟨rfl, hb'⟩)
        go_roundg (l.length - (kk + 1))
        case measure => omega
        case rel =>
          refine ⟨kk + 1, by omega, by omega, by go_num, hb', (show Aside _ from fun j hj => ?_)⟩
          by_cases e : j = kk
          · subst e
            rw [HX.out]; exact hq
          · exact A1.out j (by omega)
    · have hltz : ¬ (kk : Int) < (l.length : Int) := by omega
      have hF : l.any (fun x => p x.f0) = false := by
        have := take_any_false (fun x => p x.f0) l l.length (Nat.le_refl _) (fun j hj => A1.out j (by omega))
        rwa [List.take_length] at this
      go_wp2
      go_ret
      exact ⟨⟨_, rfl, by first | decide | (rw [hF]; rfl)⟩, BW.out⟩
set_option maxHeartbeats 2000000 in
theorem dgContains (p : ByteArray → Bool) (g : Nat) (lb : Array Value) (eg : ∀ args w, (callFunc g args).run Tryz.prog w = .ok (.enter g args) w) (A : Option Addr) (c : Nat) (l : List S53) (w : World)
    (hp : dgTest g lb p w) (hbig : l.length ≤ 1000) (hA : Kd.C k53 w A l.length l) :
    Calls Tryz.prog 66 #[.slice A l.length c, .func (.func g) #[] lb] w fun e w' => e = .returned (.bool (l.any (fun x => p x.f0))) ∧ Below w.heap.size w w' := by
  have H := dgIndex p g lb eg A c l w hp hbig hA
  clear hp hA
  generalize l.any (fun x => p x.f0) = bb at H ⊢
  go_enter Tryz.func66, Tryz.ntmps66
  go_wp2_with (go_at_call 94; refine H.mono ?_; rintro e w' ⟨⟨k, rfl, hk⟩, hb'⟩)
  go_ret
  refine ⟨?_, hb'⟩
  rw [← hk]; rfl
set_option maxHeartbeats 2000000 in
/-- Has another one the same name? -/
theorem same_any (d : ByteArray) (B : Nat) (w : World) (hd : w.cell? ⟨B, 0, none⟩ = some (.string d)) : dgTest 64 #[.pointer (some ⟨B, 0, none⟩)] (fun nm => nm.toList == d.toList) w := by
  intro W nm A1 n1 c1 need A3 n3 c3 last hb
  have hd' := (hb.cell (World.block_lt_of_cell? _ _ hd)).trans hd
  unfold dgV
  show Calls Tryz.prog 64 #[.agg #[.string nm, .slice A1 n1 c1, .int .i64 need, .slice A3 n3 c3, .bool last], .pointer (some ⟨B, 0, none⟩)] W _
  have hd2 := ((below_alloc (Below.refl W.heap.size W) (.cells #[.string nm, .slice A1 n1 c1, .int .i64 need, .slice A3 n3 c3, .bool last] 53)).cell (World.block_lt_of_cell? _ _ hd')).trans hd'
  go_enter Tryz.func64, Tryz.ntmps64
  go_wp2
  go_ret
  exact ⟨rfl, below_alloc (Below.refl _ _) _⟩
set_option maxHeartbeats 2000000 in
theorem badPath_any (s : ByteArray) (w : World) : Calls Tryz.prog 65 #[.string s] w fun e w' => e = .returned (.bool (!G.right true s.data.toList)) ∧ Below w.heap.size w w' := by
  have h1 := fun W => Right_all s W
  generalize G.right true s.data.toList = r at h1
  go_enter Tryz.func65, Tryz.ntmps65
  go_wp2_with (go_at_call 41; refine (h1 _).mono ?_; clear h1; rintro e w' ⟨rfl, hb⟩; have HC := Aside0.mk hb; clear hb)
  go_ret
  exact ⟨rfl, HC.out⟩
end Go.Proofs.YtgcflmhlegagbaaGreatDoor.E
end
