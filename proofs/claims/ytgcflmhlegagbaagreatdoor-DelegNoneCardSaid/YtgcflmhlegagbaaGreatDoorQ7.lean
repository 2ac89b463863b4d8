/- meta.delegs's test of one that is handed paths on to. -/
import Derived.Test.YtgcflmhlegagbaaGreatDoorQ6
import Derived.Deep.RegionHeld3
import Derived.Laws.Cover1
section
set_option linter.unusedVariables false
set_option linter.unusedSimpArgs false
namespace Go.Proofs.YtgcflmhlegagbaaGreatDoor.E
open Go.RowKit Go.Lib Go.Shelf Go.Proofs.YtgcflmhlegagbaaGreatDoorW.PrintWords Go.Proofs.YtgcflmhlegagbaaGreatDoorW.PrintLast Go.Proofs.YtgcflmhlegagbaaGreatDoorW.PrintMore
open X (S25 k25 z25 rd_T25 at_T25 S28 k28 z28 S53 k53 z53 rd_T53 at_T53 S46 S48 S70 k70 z70)
theorem call_guard {P : Program} {md : Region.Mode} {ops : Array Oper} {Q : Exit → Act → World → Prop} {S F : World → Prop} {i : Nat} {oi : Oper} {f : FuncId} {args : Array Value} {v : Value} {fuel : Nat} {listed : Array Bool} {a : Act} {w : World} (g : Bool)
    (hi : ops[i]? = some oi) (hr : Region.ready md ops listed = [i]) (hw : Region.wanted oi (yielded ops a.tmps) = g) (hrun : g = true → (execOp a.eval oi).run P w = .ok (.enter f args) w)
    (hc : g = true → Calls P f args w fun e w' => e = .returned v ∧ F w') (hF0 : g = false → F w) (hFS : ∀ w', F w' → S w')
    (rest : ∀ w', F w' → S w' → wpAnyH P md ops Q S fuel (listed.setIfInBounds i true) (a.put oi.dst (bif g then v else undef)) w') : wpAnyH P md ops Q S (fuel + 1) listed a w := by
  refine wpAnyH_ready hr (by simp) (AllReadyH.cons hi (fun K hK => ?_) AllReadyH.nil)
  cases g with
  | false =>
    rw [if_neg (by rw [hw]; decide)]
    exact hK.out _ _ (hFS _ (hF0 rfl)) (fun hS => rest w (hF0 rfl) hS)
  | true =>
    rw [if_pos hw]
    unfold Oper.wp
    rw [hrun rfl]
    exact (hc rfl).mono fun e w' h => by
      obtain ⟨rfl, hF⟩ := h
      exact hK.out _ _ (hFS _ hF) (fun hS => rest w' hF hS)
/-- May one be that is handed paths on to, behind others? -/
def dgB (l : List S53) (i : Nat) (nm : ByteArray) (ids : List ByteArray) (need : Int) (paths : List ByteArray) : Bool :=
  ((((((Nm.nameOk nm.data.toList && !(wordsL.any (fun y => nm.toList == y.toList))) && !((l.take i).any (fun x => x.f0.toList == nm.toList))) && roleOk ids need) && decide (1 ≤ (paths.length : Int))) && decide ((paths.length : Int) ≤ 8)) && !(paths.any (fun p => !G.right true p.data.toList)))
theorem words_in (x : ByteArray) (A : Option Addr) (w : World) (hA : Kd.C Kd.string w A 4 wordsL) : Calls Tryz.prog 19 #[.slice A 4 4, .string x] w fun e w' => e = .returned (.bool (wordsL.any (fun y => x.toList == y.toList))) ∧ Below w.heap.size w w' :=
  contains_any A 4 wordsL x w (by decide) hA (by decide)
attribute [local irreducible] G.right Nm.nameOk roleOk wordsL
set_option maxHeartbeats 8000000 in
set_option maxRecDepth 100000 in
theorem dg_any (nm : ByteArray) (A1 A3 : Option Addr) (c1 c3 : Nat) (ids paths : List ByteArray) (need : Int) (last : Bool) (bl c i : Nat) (ad : Addr) (l : List S53) (w : World) (ht : Tabs w) (hl : w.cell? ⟨bl, 0, none⟩ = some (.slice (some ad) l.length c))
    (hrow : Kd.C k53 w (some ad) l.length l) (hids : Kd.C Kd.string w A1 ids.length ids) (hc1 : ids.length ≤ c1) (hpaths : Kd.C Kd.string w A3 paths.length paths) (hc3 : paths.length ≤ c3) (hpl : paths.length ≤ 9223372036854775807) (hi : i < l.length) (hlc : l.length ≤ c) (hln : l.length ≤ 1000) :
    Calls Tryz.prog 63 #[.int .i64 i, .agg #[.string nm, .slice A1 ids.length c1, .int .i64 need, .slice A3 paths.length c3, .bool last], .pointer (some ⟨bl, 0, none⟩)] w fun e w' => e = .returned (.bool (dgB l i nm ids need paths)) ∧ Below w.heap.size w w' := by
  have hmf : ∀ (fn : Fn) (first cap : Array Value) (w : World), (Instr.makeFunc fn first cap).run Tryz.prog w = .ok (.func fn first cap) w := fun _ _ _ _ => rfl
  have hN := fun W hw => metaName_any nm W hw
  have hi0 : (0 : Int) ≤ (i : Int) := by omega
  have hi1 : (i : Int) ≤ (c : Int) := by omega
  have hSame : ∀ {W0 : World}, W0.cell? ⟨w.heap.size, 0, none⟩ = some (.string nm) → Kd.C k53 W0 (some ad) l.length l → ∀ W, Below W0.heap.size W0 W → Calls Tryz.prog 66 #[.slice (some ad) i c, .func (.func 64) #[] #[.pointer (some ⟨w.heap.size, 0, none⟩)]] W fun e w' => e = .returned (.bool ((l.take i).any (fun x => x.f0.toList == nm.toList))) ∧ Below W.heap.size W w' := by
    intro W0 f0 hr W hb
    have hln2 : (l.take i).length = i := by rw [List.length_take]; omega
    have h := dgContains (fun nm' => nm'.toList == nm.toList) 64 #[.pointer (some ⟨w.heap.size, 0, none⟩)] (fun a w => enters_of Tryz.func64 (by kernel_rfl) rfl a w) (some ad) c (l.take i) W (same_any nm w.heap.size W ((hb.cell (World.block_lt_of_cell? _ _ f0)).trans f0)) (by omega) (Kd.C_take (Kd.C_below hr hb) (by omega))
    rw [hln2] at h
    exact h
  have hBad : ∀ {W0 : World}, Kd.C Kd.string W0 A3 paths.length paths → ∀ W, Below W0.heap.size W0 W → Calls Tryz.prog 39 #[.slice A3 paths.length c3, .func (.func 65) #[] #[]] W fun e w' => e = .returned (.bool (paths.any (fun p => !G.right true p.data.toList))) ∧ Below W.heap.size W w' := by
    intro W0 hr W hb
    exact strContains (fun p => !G.right true p.data.toList) 65 #[] (fun a w => enters_of Tryz.func65 (by kernel_rfl) rfl a w) A3 paths.length c3 paths W (fun W' x hx hb' => (badPath_any x W').mono fun e w' h => ⟨h.1, below_step hb' h.2⟩) rfl hpl (Kd.C_below hr hb)
  have hCW := fun A W h => words_in nm A W h
  have hRole := fun W h => role_any A1 c1 ids need W h hc1
  unfold dgB
  generalize Nm.nameOk nm.data.toList = g1 at *
  generalize wordsL.any (fun y => nm.toList == y.toList) = b2 at *
  generalize (l.take i).any (fun x => x.f0.toList == nm.toList) = b3 at *
  generalize roleOk ids need = b4 at *
  generalize paths.any (fun p => !G.right true p.data.toList) = b7 at *
  go_enter Tryz.func63, Tryz.ntmps63
  go_upto_region 3 with (fail)
  have hbA : Below w.heap.size w (w.alloc (.cells #[.string nm, .slice A1 ids.length c1, .int .i64 need, .slice A3 paths.length c3, .bool last] 53)) := below_alloc (Below.refl _ _) _
  obtain ⟨W0, hW0⟩ : ∃ W, W = w.alloc (.cells #[.string nm, .slice A1 ids.length c1, .int .i64 need, .slice A3 paths.length c3, .bool last] 53) := ⟨_, rfl⟩
  rw [← hW0] at hbA ⊢
  have F0 : W0.cell? ⟨w.heap.size, 0, none⟩ = some (.string nm) := by rw [hW0]; simp
  have F1 : W0.cell? ⟨w.heap.size, 1, none⟩ = some (.slice A1 ids.length c1) := by rw [hW0]; simp
  have F2 : W0.cell? ⟨w.heap.size, 2, none⟩ = some (.int .i64 need) := by rw [hW0]; simp
  have F3 : W0.cell? ⟨w.heap.size, 3, none⟩ = some (.slice A3 paths.length c3) := by rw [hW0]; simp
  have Fl := (hbA.cell (World.block_lt_of_cell? _ _ hl)).trans hl
  have HC1 := Aside0.mk (Kd.C_below hids hbA)
  have HC3 := Aside0.mk (Kd.C_below hpaths hbA)
  have HCl := Aside0.mk (Kd.C_below hrow hbA)
  have HT := Aside0.mk (ht.below hbA)
  clear hl hids hpaths hrow ht hW0
  have HBA := Lib.hid hbA
  clear hbA
  refine wp_region_noPanic ?_
  refine wp_region_held_drew (S := fun W_ => Below W0.heap.size W0 W_) (by kernel_rfl) (Below.refl _ _).drew (fun hHeld => ?_)
  refine wpAnyH_take (i := 0) (v := ?_) rfl (by kernel_rfl) (by kernel_rfl) (by kernel_rfl) (fun _ _ _ h => h) (Or.inl ⟨by rfl, ?_⟩) (by with_reducible assumption) ?_
  rotate_left
  · (intro w hSw; clear hSw; go_simp); all_goals with_reducible rfl
  (try simp only [List.getElem_toArray, List.getElem_cons_succ, List.getElem_cons_zero, Act.put, List.setIfInBounds_toArray, List.set_cons_zero, List.set_cons_succ])
  refine wpAnyH_take (i := 1) (v := ?_) rfl (by kernel_rfl) (by kernel_rfl) (by kernel_rfl) (fun _ _ _ h => h) (Or.inl ⟨by rfl, ?_⟩) (by with_reducible assumption) ?_
  rotate_left
  · (intro w hSw; have c_0 := (hSw.cell (World.block_lt_of_cell? _ _ F0)).trans F0; clear hSw; go_simp); all_goals with_reducible rfl
  (try simp only [List.getElem_toArray, List.getElem_cons_succ, List.getElem_cons_zero, Act.put, List.setIfInBounds_toArray, List.set_cons_zero, List.set_cons_succ])
  refine wpAnyH_ready (rs := [2]) (by kernel_rfl) (by simp) (AllReadyH.cons rfl (fun K hK => ?_) AllReadyH.nil)
  go_simp
  go_at_call 26
  refine (hN _ (HT.out.below hHeld)).mono ?_
  rintro e w1 ⟨rfl, hb1⟩
  refine hK.out _ _ ?_ (fun h1 => ?_)
  · exact below_step hHeld hb1
  clear hK K hHeld hb1 hN
  (try simp only [List.getElem_toArray, List.getElem_cons_succ, List.getElem_cons_zero, Act.put, List.setIfInBounds_toArray, List.set_cons_zero, List.set_cons_succ])
  refine wpAnyH_take (i := 3) (v := ?_) rfl (by kernel_rfl) (by kernel_rfl) (by kernel_rfl) (fun _ _ _ h => h) (Or.inl ⟨by rfl, ?_⟩) (by with_reducible assumption) ?_
  rotate_left
  · (intro w hSw; clear hSw; go_simp); all_goals with_reducible rfl
  (try simp only [List.getElem_toArray, List.getElem_cons_succ, List.getElem_cons_zero, Act.put, List.setIfInBounds_toArray, List.set_cons_zero, List.set_cons_succ])
  refine wpAnyH_take (i := 5) (v := bif g1 then ?_ else undef) rfl (by kernel_rfl) (by kernel_rfl) (by kernel_rfl) (fun _ _ _ h => h) (yi_guard g1 (by cases g1 <;> rfl) ?_) (by with_reducible assumption) ?_
  rotate_left
  · (intro hg w hSw; clear hSw; simp only [hg, cond_true]; go_simp); all_goals with_reducible rfl
  (try simp only [List.getElem_toArray, List.getElem_cons_succ, List.getElem_cons_zero, Act.put, List.setIfInBounds_toArray, List.set_cons_zero, List.set_cons_succ])
  refine wpAnyH_take (i := 6) (v := bif g1 then ?_ else undef) rfl (by kernel_rfl) (by kernel_rfl) (by kernel_rfl) (fun _ _ _ h => h) (yi_guard g1 (by cases g1 <;> rfl) ?_) (by with_reducible assumption) ?_
  rotate_left
  · (intro hg w hSw; have c_0 := (hSw.cell (World.block_lt_of_cell? _ _ F0)).trans F0; clear hSw; simp only [hg, cond_true]; go_simp); all_goals with_reducible rfl
  (try simp only [List.getElem_toArray, List.getElem_cons_succ, List.getElem_cons_zero, Act.put, List.setIfInBounds_toArray, List.set_cons_zero, List.set_cons_succ])
  refine call_guard (i := 4) (f := 37) (args := #[]) (v := .slice (some ⟨w1.heap.size, 0, none⟩) 4 4) (F := fun w' => Below W0.heap.size W0 w' ∧ (g1 = true → Kd.C Kd.string w' (some ⟨w1.heap.size, 0, none⟩) 4 wordsL)) g1 rfl (by kernel_rfl) (by cases g1 <;> rfl) (fun hg => by simp only [hg, cond_true]; go_simp) (fun hg => (words_any w1).mono fun e w' h => ⟨h.1, below_step h1 h.2.2, fun _ => h.2.1⟩) (fun hg => ⟨h1, fun h => absurd (hg.symm.trans h) (by decide)⟩) (fun _ h => h.1) (fun w2 hF2 _ => ?_)
  obtain ⟨h2, hKw⟩ := hF2
  (try simp only [List.getElem_toArray, List.getElem_cons_succ, List.getElem_cons_zero, Act.put, List.setIfInBounds_toArray, List.set_cons_zero, List.set_cons_succ])
  refine call_guard (i := 7) (f := 19) (args := #[.slice (some ⟨w1.heap.size, 0, none⟩) 4 4, .string nm]) (v := .bool b2) (F := fun w' => Below W0.heap.size W0 w') g1 rfl (by kernel_rfl) (by cases g1 <;> rfl) (fun hg => by simp only [hg, cond_true]; go_simp) (fun hg => (hCW _ w2 (hKw hg)).mono fun e w' h => ⟨h.1, below_step h2 h.2⟩) (fun _ => h2) (fun _ h => h) (fun w3 h3 _ => ?_)
  (try simp only [List.getElem_toArray, List.getElem_cons_succ, List.getElem_cons_zero, Act.put, List.setIfInBounds_toArray, List.set_cons_zero, List.set_cons_succ])
  clear hKw
  refine wpAnyH_take (i := 8) (v := bif g1 then ?_ else undef) rfl (by kernel_rfl) (by kernel_rfl) (by kernel_rfl) (fun _ _ _ h => h) (yi_guard g1 (by cases g1 <;> rfl) ?_) (by with_reducible assumption) ?_
  rotate_left
  · (intro hg w hSw; clear hSw; simp only [hg, cond_true]; go_simp); all_goals with_reducible rfl
  (try simp only [List.getElem_toArray, List.getElem_cons_succ, List.getElem_cons_zero, Act.put, List.setIfInBounds_toArray, List.set_cons_zero, List.set_cons_succ])
  refine wpAnyH_take (i := 9) (v := .bool (g1 && !b2)) rfl (by kernel_rfl) (by kernel_rfl) (by kernel_rfl) (fun _ _ _ h => h) (Or.inl ⟨by rfl, ?_⟩) (by with_reducible assumption) ?_
  · (intro w hSw; clear hSw; cases g1 <;> (go_simp); all_goals (try with_reducible rfl))
  (try simp only [List.getElem_toArray, List.getElem_cons_succ, List.getElem_cons_zero, Act.put, List.setIfInBounds_toArray, List.set_cons_zero, List.set_cons_succ])
  obtain ⟨g2, hg2⟩ : ∃ x, x = (g1 && !b2) := ⟨_, rfl⟩
  rw [← hg2]
  have Hg2 := Lib.hid hg2
  clear hg2
  refine wpAnyH_take (i := 10) (v := ?_) rfl (by kernel_rfl) (by kernel_rfl) (by kernel_rfl) (fun _ _ _ h => h) (Or.inl ⟨by rfl, ?_⟩) (by with_reducible assumption) ?_
  rotate_left
  · (intro w hSw; clear hSw; go_simp); all_goals with_reducible rfl
  (try simp only [List.getElem_toArray, List.getElem_cons_succ, List.getElem_cons_zero, Act.put, List.setIfInBounds_toArray, List.set_cons_zero, List.set_cons_succ])
  refine wpAnyH_take (i := 11) (v := bif g2 then ?_ else undef) rfl (by kernel_rfl) (by kernel_rfl) (by kernel_rfl) (fun _ _ _ h => h) (yi_guard g2 (by cases g2 <;> rfl) ?_) (by with_reducible assumption) ?_
  rotate_left
  · (intro hg w hSw; have c_0 := (hSw.cell (World.block_lt_of_cell? _ _ Fl)).trans Fl; clear hSw; simp only [hg, cond_true]; go_simp); all_goals with_reducible rfl
  (try simp only [List.getElem_toArray, List.getElem_cons_succ, List.getElem_cons_zero, Act.put, List.setIfInBounds_toArray, List.set_cons_zero, List.set_cons_succ])
  refine wpAnyH_take (i := 12) (v := bif g2 then ?_ else undef) rfl (by kernel_rfl) (by kernel_rfl) (by kernel_rfl) (fun _ _ _ h => h) (yi_guard g2 (by cases g2 <;> rfl) ?_) (by with_reducible assumption) ?_
  rotate_left
  · (intro hg w hSw; clear hSw; simp only [hg, cond_true]; go_simp); all_goals with_reducible rfl
  (try simp only [List.getElem_toArray, List.getElem_cons_succ, List.getElem_cons_zero, Act.put, List.setIfInBounds_toArray, List.set_cons_zero, List.set_cons_succ])
  refine wpAnyH_take (i := 13) (v := bif g2 then ?_ else undef) rfl (by kernel_rfl) (by kernel_rfl) (by kernel_rfl) (fun _ _ _ h => h) (yi_guard g2 (by cases g2 <;> rfl) ?_) (by with_reducible assumption) ?_
  rotate_left
  · (intro hg w hSw; clear hSw; simp only [hg, cond_true]; go_simp); all_goals with_reducible rfl
  (try simp only [List.getElem_toArray, List.getElem_cons_succ, List.getElem_cons_zero, Act.put, List.setIfInBounds_toArray, List.set_cons_zero, List.set_cons_succ])
  refine wpAnyH_take (i := 14) (v := bif g2 then ?_ else undef) rfl (by kernel_rfl) (by kernel_rfl) (by kernel_rfl) (fun _ _ _ h => h) (yi_guard g2 (by cases g2 <;> rfl) ?_) (by with_reducible assumption) ?_
  rotate_left
  · (intro hg w hSw; clear hSw; simp only [hg, cond_true]; go_simp); all_goals with_reducible rfl
  (try simp only [List.getElem_toArray, List.getElem_cons_succ, List.getElem_cons_zero, Act.put, List.setIfInBounds_toArray, List.set_cons_zero, List.set_cons_succ])
  refine call_guard (i := 15) (f := 66) (args := #[.slice (some ad) i c, .func (.func 64) #[] #[.pointer (some ⟨w.heap.size, 0, none⟩)]]) (v := .bool b3) (F := fun w' => Below W0.heap.size W0 w') g2 rfl (by kernel_rfl) (by cases g2 <;> rfl) (fun hg => by simp only [hg, cond_true]; go_simp) (fun hg => (hSame F0 HCl.out w3 h3).mono fun e w' h => ⟨h.1, below_step h3 h.2⟩) (fun _ => h3) (fun _ h => h) (fun w4 h4 _ => ?_)
  (try simp only [List.getElem_toArray, List.getElem_cons_succ, List.getElem_cons_zero, Act.put, List.setIfInBounds_toArray, List.set_cons_zero, List.set_cons_succ])
  refine wpAnyH_take (i := 16) (v := bif g2 then ?_ else undef) rfl (by kernel_rfl) (by kernel_rfl) (by kernel_rfl) (fun _ _ _ h => h) (yi_guard g2 (by cases g2 <;> rfl) ?_) (by with_reducible assumption) ?_
  rotate_left
  · (intro hg w hSw; clear hSw; simp only [hg, cond_true]; go_simp); all_goals with_reducible rfl
  (try simp only [List.getElem_toArray, List.getElem_cons_succ, List.getElem_cons_zero, Act.put, List.setIfInBounds_toArray, List.set_cons_zero, List.set_cons_succ])
  refine wpAnyH_take (i := 17) (v := .bool (g2 && !b3)) rfl (by kernel_rfl) (by kernel_rfl) (by kernel_rfl) (fun _ _ _ h => h) (Or.inl ⟨by rfl, ?_⟩) (by with_reducible assumption) ?_
  · (intro w hSw; clear hSw; cases g2 <;> (go_simp); all_goals (try with_reducible rfl))
  (try simp only [List.getElem_toArray, List.getElem_cons_succ, List.getElem_cons_zero, Act.put, List.setIfInBounds_toArray, List.set_cons_zero, List.set_cons_succ])
  obtain ⟨g3, hg3⟩ : ∃ x, x = (g2 && !b3) := ⟨_, rfl⟩
  rw [← hg3]
  have Hg3 := Lib.hid hg3
  clear hg3
  refine wpAnyH_take (i := 18) (v := ?_) rfl (by kernel_rfl) (by kernel_rfl) (by kernel_rfl) (fun _ _ _ h => h) (Or.inl ⟨by rfl, ?_⟩) (by with_reducible assumption) ?_
  rotate_left
  · (intro w hSw; clear hSw; go_simp); all_goals with_reducible rfl
  (try simp only [List.getElem_toArray, List.getElem_cons_succ, List.getElem_cons_zero, Act.put, List.setIfInBounds_toArray, List.set_cons_zero, List.set_cons_succ])
  refine wpAnyH_take (i := 19) (v := bif g3 then ?_ else undef) rfl (by kernel_rfl) (by kernel_rfl) (by kernel_rfl) (fun _ _ _ h => h) (yi_guard g3 (by cases g3 <;> rfl) ?_) (by with_reducible assumption) ?_
  rotate_left
  · (intro hg w hSw; clear hSw; simp only [hg, cond_true]; go_simp); all_goals with_reducible rfl
  (try simp only [List.getElem_toArray, List.getElem_cons_succ, List.getElem_cons_zero, Act.put, List.setIfInBounds_toArray, List.set_cons_zero, List.set_cons_succ])
  refine wpAnyH_take (i := 20) (v := bif g3 then ?_ else undef) rfl (by kernel_rfl) (by kernel_rfl) (by kernel_rfl) (fun _ _ _ h => h) (yi_guard g3 (by cases g3 <;> rfl) ?_) (by with_reducible assumption) ?_
  rotate_left
  · (intro hg w hSw; have c_0 := (hSw.cell (World.block_lt_of_cell? _ _ F1)).trans F1; have c_1 := (hSw.cell (World.block_lt_of_cell? _ _ F2)).trans F2; clear hSw; simp only [hg, cond_true]; go_simp); all_goals with_reducible rfl
  (try simp only [List.getElem_toArray, List.getElem_cons_succ, List.getElem_cons_zero, Act.put, List.setIfInBounds_toArray, List.set_cons_zero, List.set_cons_succ])
  refine call_guard (i := 21) (f := 34) (args := #[.agg #[.slice A1 ids.length c1, .int .i64 need]]) (v := .bool b4) (F := fun w' => Below W0.heap.size W0 w') g3 rfl (by kernel_rfl) (by cases g3 <;> rfl) (fun hg => by simp only [hg, cond_true]; go_simp) (fun hg => (hRole w4 (Kd.C_below HC1.out h4)).mono fun e w' h => ⟨h.1, below_step h4 h.2⟩) (fun _ => h4) (fun _ h => h) (fun w5 h5 _ => ?_)
  (try simp only [List.getElem_toArray, List.getElem_cons_succ, List.getElem_cons_zero, Act.put, List.setIfInBounds_toArray, List.set_cons_zero, List.set_cons_succ])
  refine wpAnyH_take (i := 22) (v := .bool (g3 && b4)) rfl (by kernel_rfl) (by kernel_rfl) (by kernel_rfl) (fun _ _ _ h => h) (Or.inl ⟨by rfl, ?_⟩) (by with_reducible assumption) ?_
  · (intro w hSw; clear hSw; cases g3 <;> (go_simp); all_goals (try with_reducible rfl))
  (try simp only [List.getElem_toArray, List.getElem_cons_succ, List.getElem_cons_zero, Act.put, List.setIfInBounds_toArray, List.set_cons_zero, List.set_cons_succ])
  obtain ⟨g4, hg4⟩ : ∃ x, x = (g3 && b4) := ⟨_, rfl⟩
  rw [← hg4]
  have Hg4 := Lib.hid hg4
  clear hg4
  refine wpAnyH_take (i := 23) (v := ?_) rfl (by kernel_rfl) (by kernel_rfl) (by kernel_rfl) (fun _ _ _ h => h) (Or.inl ⟨by rfl, ?_⟩) (by with_reducible assumption) ?_
  rotate_left
  · (intro w hSw; clear hSw; go_simp); all_goals with_reducible rfl
  (try simp only [List.getElem_toArray, List.getElem_cons_succ, List.getElem_cons_zero, Act.put, List.setIfInBounds_toArray, List.set_cons_zero, List.set_cons_succ])
  refine wpAnyH_take (i := 24) (v := bif g4 then ?_ else undef) rfl (by kernel_rfl) (by kernel_rfl) (by kernel_rfl) (fun _ _ _ h => h) (yi_guard g4 (by cases g4 <;> rfl) ?_) (by with_reducible assumption) ?_
  rotate_left
  · (intro hg w hSw; clear hSw; simp only [hg, cond_true]; go_simp); all_goals with_reducible rfl
  (try simp only [List.getElem_toArray, List.getElem_cons_succ, List.getElem_cons_zero, Act.put, List.setIfInBounds_toArray, List.set_cons_zero, List.set_cons_succ])
  refine wpAnyH_take (i := 25) (v := bif g4 then ?_ else undef) rfl (by kernel_rfl) (by kernel_rfl) (by kernel_rfl) (fun _ _ _ h => h) (yi_guard g4 (by cases g4 <;> rfl) ?_) (by with_reducible assumption) ?_
  rotate_left
  · (intro hg w hSw; have c_0 := (hSw.cell (World.block_lt_of_cell? _ _ F3)).trans F3; clear hSw; simp only [hg, cond_true]; go_simp); all_goals with_reducible rfl
  (try simp only [List.getElem_toArray, List.getElem_cons_succ, List.getElem_cons_zero, Act.put, List.setIfInBounds_toArray, List.set_cons_zero, List.set_cons_succ])
  refine wpAnyH_take (i := 26) (v := bif g4 then ?_ else undef) rfl (by kernel_rfl) (by kernel_rfl) (by kernel_rfl) (fun _ _ _ h => h) (yi_guard g4 (by cases g4 <;> rfl) ?_) (by with_reducible assumption) ?_
  rotate_left
  · (intro hg w hSw; clear hSw; simp only [hg, cond_true]; go_simp); all_goals with_reducible rfl
  (try simp only [List.getElem_toArray, List.getElem_cons_succ, List.getElem_cons_zero, Act.put, List.setIfInBounds_toArray, List.set_cons_zero, List.set_cons_succ])
  refine wpAnyH_take (i := 27) (v := bif g4 then ?_ else undef) rfl (by kernel_rfl) (by kernel_rfl) (by kernel_rfl) (fun _ _ _ h => h) (yi_guard g4 (by cases g4 <;> rfl) ?_) (by with_reducible assumption) ?_
  rotate_left
  · (intro hg w hSw; clear hSw; simp only [hg, cond_true]; go_simp); all_goals with_reducible rfl
  (try simp only [List.getElem_toArray, List.getElem_cons_succ, List.getElem_cons_zero, Act.put, List.setIfInBounds_toArray, List.set_cons_zero, List.set_cons_succ])
  refine wpAnyH_take (i := 28) (v := .bool (g4 && decide (1 ≤ (paths.length : Int)))) rfl (by kernel_rfl) (by kernel_rfl) (by kernel_rfl) (fun _ _ _ h => h) (Or.inl ⟨by rfl, ?_⟩) (by with_reducible assumption) ?_
  · (intro w hSw; clear hSw; cases g4 <;> (go_simp); all_goals (try with_reducible rfl))
  (try simp only [List.getElem_toArray, List.getElem_cons_succ, List.getElem_cons_zero, Act.put, List.setIfInBounds_toArray, List.set_cons_zero, List.set_cons_succ])
  obtain ⟨g5, hg5⟩ : ∃ x, x = (g4 && decide (1 ≤ (paths.length : Int))) := ⟨_, rfl⟩
  rw [← hg5]
  have Hg5 := Lib.hid hg5
  clear hg5
  refine wpAnyH_take (i := 29) (v := ?_) rfl (by kernel_rfl) (by kernel_rfl) (by kernel_rfl) (fun _ _ _ h => h) (Or.inl ⟨by rfl, ?_⟩) (by with_reducible assumption) ?_
  rotate_left
  · (intro w hSw; clear hSw; go_simp); all_goals with_reducible rfl
  (try simp only [List.getElem_toArray, List.getElem_cons_succ, List.getElem_cons_zero, Act.put, List.setIfInBounds_toArray, List.set_cons_zero, List.set_cons_succ])
  refine wpAnyH_take (i := 30) (v := bif g5 then ?_ else undef) rfl (by kernel_rfl) (by kernel_rfl) (by kernel_rfl) (fun _ _ _ h => h) (yi_guard g5 (by cases g5 <;> rfl) ?_) (by with_reducible assumption) ?_
  rotate_left
  · (intro hg w hSw; clear hSw; simp only [hg, cond_true]; go_simp); all_goals with_reducible rfl
  (try simp only [List.getElem_toArray, List.getElem_cons_succ, List.getElem_cons_zero, Act.put, List.setIfInBounds_toArray, List.set_cons_zero, List.set_cons_succ])
  refine wpAnyH_take (i := 31) (v := bif g5 then ?_ else undef) rfl (by kernel_rfl) (by kernel_rfl) (by kernel_rfl) (fun _ _ _ h => h) (yi_guard g5 (by cases g5 <;> rfl) ?_) (by with_reducible assumption) ?_
  rotate_left
  · (intro hg w hSw; have c_0 := (hSw.cell (World.block_lt_of_cell? _ _ F3)).trans F3; clear hSw; simp only [hg, cond_true]; go_simp); all_goals with_reducible rfl
  (try simp only [List.getElem_toArray, List.getElem_cons_succ, List.getElem_cons_zero, Act.put, List.setIfInBounds_toArray, List.set_cons_zero, List.set_cons_succ])
  refine wpAnyH_take (i := 32) (v := bif g5 then ?_ else undef) rfl (by kernel_rfl) (by kernel_rfl) (by kernel_rfl) (fun _ _ _ h => h) (yi_guard g5 (by cases g5 <;> rfl) ?_) (by with_reducible assumption) ?_
  rotate_left
  · (intro hg w hSw; clear hSw; simp only [hg, cond_true]; go_simp); all_goals with_reducible rfl
  (try simp only [List.getElem_toArray, List.getElem_cons_succ, List.getElem_cons_zero, Act.put, List.setIfInBounds_toArray, List.set_cons_zero, List.set_cons_succ])
  refine wpAnyH_take (i := 33) (v := bif g5 then ?_ else undef) rfl (by kernel_rfl) (by kernel_rfl) (by kernel_rfl) (fun _ _ _ h => h) (yi_guard g5 (by cases g5 <;> rfl) ?_) (by with_reducible assumption) ?_
  rotate_left
  · (intro hg w hSw; clear hSw; simp only [hg, cond_true]; go_simp); all_goals with_reducible rfl
  (try simp only [List.getElem_toArray, List.getElem_cons_succ, List.getElem_cons_zero, Act.put, List.setIfInBounds_toArray, List.set_cons_zero, List.set_cons_succ])
  refine wpAnyH_take (i := 34) (v := .bool (g5 && decide ((paths.length : Int) ≤ 8))) rfl (by kernel_rfl) (by kernel_rfl) (by kernel_rfl) (fun _ _ _ h => h) (Or.inl ⟨by rfl, ?_⟩) (by with_reducible assumption) ?_
  · (intro w hSw; clear hSw; cases g5 <;> (go_simp); all_goals (try with_reducible rfl))
  (try simp only [List.getElem_toArray, List.getElem_cons_succ, List.getElem_cons_zero, Act.put, List.setIfInBounds_toArray, List.set_cons_zero, List.set_cons_succ])
  obtain ⟨g6, hg6⟩ : ∃ x, x = (g5 && decide ((paths.length : Int) ≤ 8)) := ⟨_, rfl⟩
  rw [← hg6]
  have Hg6 := Lib.hid hg6
  clear hg6
  refine wpAnyH_take (i := 35) (v := ?_) rfl (by kernel_rfl) (by kernel_rfl) (by kernel_rfl) (fun _ _ _ h => h) (Or.inl ⟨by rfl, ?_⟩) (by with_reducible assumption) ?_
  rotate_left
  · (intro w hSw; clear hSw; go_simp); all_goals with_reducible rfl
  (try simp only [List.getElem_toArray, List.getElem_cons_succ, List.getElem_cons_zero, Act.put, List.setIfInBounds_toArray, List.set_cons_zero, List.set_cons_succ])
  refine wpAnyH_take (i := 36) (v := bif g6 then ?_ else undef) rfl (by kernel_rfl) (by kernel_rfl) (by kernel_rfl) (fun _ _ _ h => h) (yi_guard g6 (by cases g6 <;> rfl) ?_) (by with_reducible assumption) ?_
  rotate_left
  · (intro hg w hSw; clear hSw; simp only [hg, cond_true]; go_simp); all_goals with_reducible rfl
  (try simp only [List.getElem_toArray, List.getElem_cons_succ, List.getElem_cons_zero, Act.put, List.setIfInBounds_toArray, List.set_cons_zero, List.set_cons_succ])
  refine wpAnyH_take (i := 37) (v := bif g6 then ?_ else undef) rfl (by kernel_rfl) (by kernel_rfl) (by kernel_rfl) (fun _ _ _ h => h) (yi_guard g6 (by cases g6 <;> rfl) ?_) (by with_reducible assumption) ?_
  rotate_left
  · (intro hg w hSw; have c_0 := (hSw.cell (World.block_lt_of_cell? _ _ F3)).trans F3; clear hSw; simp only [hg, cond_true]; go_simp); all_goals with_reducible rfl
  (try simp only [List.getElem_toArray, List.getElem_cons_succ, List.getElem_cons_zero, Act.put, List.setIfInBounds_toArray, List.set_cons_zero, List.set_cons_succ])
  refine wpAnyH_take (i := 38) (v := bif g6 then ?_ else undef) rfl (by kernel_rfl) (by kernel_rfl) (by kernel_rfl) (fun _ _ _ h => h) (yi_guard g6 (by cases g6 <;> rfl) ?_) (by with_reducible assumption) ?_
  rotate_left
  · (intro hg w hSw; clear hSw; simp only [hg, cond_true]; go_simp); all_goals with_reducible rfl
  (try simp only [List.getElem_toArray, List.getElem_cons_succ, List.getElem_cons_zero, Act.put, List.setIfInBounds_toArray, List.set_cons_zero, List.set_cons_succ])
  refine call_guard (i := 39) (f := 39) (args := #[.slice A3 paths.length c3, .func (.func 65) #[] #[]]) (v := .bool b7) (F := fun w' => Below W0.heap.size W0 w') g6 rfl (by kernel_rfl) (by cases g6 <;> rfl) (fun hg => by simp only [hg, cond_true]; go_simp) (fun hg => (hBad HC3.out w5 h5).mono fun e w' h => ⟨h.1, below_step h5 h.2⟩) (fun _ => h5) (fun _ h => h) (fun w6 h6 _ => ?_)
  (try simp only [List.getElem_toArray, List.getElem_cons_succ, List.getElem_cons_zero, Act.put, List.setIfInBounds_toArray, List.set_cons_zero, List.set_cons_succ])
  refine wpAnyH_take (i := 40) (v := bif g6 then ?_ else undef) rfl (by kernel_rfl) (by kernel_rfl) (by kernel_rfl) (fun _ _ _ h => h) (yi_guard g6 (by cases g6 <;> rfl) ?_) (by with_reducible assumption) ?_
  rotate_left
  · (intro hg w hSw; clear hSw; simp only [hg, cond_true]; go_simp); all_goals with_reducible rfl
  (try simp only [List.getElem_toArray, List.getElem_cons_succ, List.getElem_cons_zero, Act.put, List.setIfInBounds_toArray, List.set_cons_zero, List.set_cons_succ])
  refine wpAnyH_take (i := 41) (v := .bool (g6 && !b7)) rfl (by kernel_rfl) (by kernel_rfl) (by kernel_rfl) (fun _ _ _ h => h) (Or.inl ⟨by rfl, ?_⟩) (by with_reducible assumption) ?_
  · (intro w hSw; clear hSw; cases g6 <;> (go_simp); all_goals (try with_reducible rfl))
  (try simp only [List.getElem_toArray, List.getElem_cons_succ, List.getElem_cons_zero, Act.put, List.setIfInBounds_toArray, List.set_cons_zero, List.set_cons_succ])
  refine wpAnyH_take (i := 42) (v := ?_) rfl (by kernel_rfl) (by kernel_rfl) (by kernel_rfl) (fun _ _ _ h => h) (Or.inl ⟨by rfl, ?_⟩) (by with_reducible assumption) ?_
  rotate_left
  · (intro w hSw; clear hSw; go_simp); all_goals with_reducible rfl
  (try simp only [List.getElem_toArray, List.getElem_cons_succ, List.getElem_cons_zero, Act.put, List.setIfInBounds_toArray, List.set_cons_zero, List.set_cons_succ])
  refine wpAnyH_done (by kernel_rfl) ?_ _
  refine NoPanic.normal ?_
  go_wp2
  go_ret
  refine ⟨?_, below_step HBA.out h6⟩
  show Ending.returned (.bool (g6 && !b7)) = Ending.returned (.bool _)
  rw [Hg6.out, Hg5.out, Hg4.out, Hg3.out, Hg2.out]
end Go.Proofs.YtgcflmhlegagbaaGreatDoor.E
end
section
set_option linter.unusedVariables false
set_option linter.unusedSimpArgs false
namespace Go.Proofs.YtgcflmhlegagbaaGreatDoor.E
open Go.RowKit Go.Lib Go.Shelf Go.Proofs.YtgcflmhlegagbaaGreatDoorW.PrintWords Go.Proofs.YtgcflmhlegagbaaGreatDoorW.PrintLast Go.Proofs.YtgcflmhlegagbaaGreatDoorW.PrintMore
open X (S25 k25 z25 rd_T25 at_T25 S28 k28 z28 S53 k53 z53 rd_T53 at_T53 S46 S48 S70 k70 z70)
def dgAllTest (g : Nat) (lb : Array Value) (p : Nat → S53 → Bool) (l : List S53) (w : World) : Prop :=
  ∀ (W : World) (k : Nat) A1 c1 A3 c3, k < l.length → Below w.heap.size w W → (l.getD k z53).f1.f0.length ≤ c1 → Kd.C Kd.string W A1 (l.getD k z53).f1.f0.length (l.getD k z53).f1.f0 → (l.getD k z53).f2.length ≤ c3 → Kd.C Kd.string W A3 (l.getD k z53).f2.length (l.getD k z53).f2 →
    Calls Tryz.prog g (#[.int .i64 k, dgV (l.getD k z53).f0 A1 (l.getD k z53).f1.f0.length c1 (l.getD k z53).f1.f1 A3 (l.getD k z53).f2.length c3 (l.getD k z53).f3] ++ lb) W fun e w' => e = .returned (.bool (p k (l.getD k z53))) ∧ Below W.heap.size W w'
set_option maxHeartbeats 4000000 in
set_option maxRecDepth 100000 in
theorem allDg (p : Nat → S53 → Bool) (g : Nat) (lb : Array Value) (eg : ∀ args w, (callFunc g args).run Tryz.prog w = .ok (.enter g args) w) (A : Option Addr) (c : Nat) (l : List S53) (w : World)
    (hp : dgAllTest g lb p l w) (hbig : l.length ≤ 1000) (hA : Kd.C k53 w A l.length l) :
    Calls Tryz.prog 62 #[.slice A l.length c, .func (.func g) #[] lb] w fun e w' => e = .returned (.bool (allK p z53 l)) ∧ Below w.heap.size w w' := by
  go_enter Tryz.func62, Tryz.ntmps62
  go_wp2
  have HP := Aside0.mk hp
  have HA := Aside0.mk hA
  clear hp hA
  go_loopg [9] l.length (fun gg s9 wr => ∃ kk : Nat, kk ≤ l.length ∧ l.length - kk ≤ gg ∧ s9 = .int .i64 kk ∧ Aside (Below w.heap.size w wr) ∧ Aside (∀ j, j < kk → p j (l.getD j z53) = true))
  case atStart => exact ⟨0, Nat.zero_le _, by omega, rfl, Below.refl _ w, fun j hj => absurd hj (Nat.not_lt_zero _)⟩
  case round =>
    obtain ⟨kk, hkk, hg, rfl, BW, A1⟩ := hrel
    by_cases hlt : kk < l.length
    · have hltz : (kk : Int) < (l.length : Int) := by omega
      obtain ⟨ad, a1, k1, a3, k3, rfl, c0, c1, c2, c3, c4, m1, g1, m3, g3⟩ := at_T53 HA.out (kk : Int) (by omega) (by omega)
      have er : rd_T53 l kk = l.getD kk z53 := by unfold rd_T53; rw [Int.toNat_natCast]
      rw [er, Int.toNat_natCast] at c0 c1 c2 c3 c4
      rw [er] at m1 g1 m3 g3
      replace c0 := (BW.out.cell (World.block_lt_of_cell? w _ c0)).trans c0
      replace c1 := (BW.out.cell (World.block_lt_of_cell? w _ c1)).trans c1
      replace c2 := (BW.out.cell (World.block_lt_of_cell? w _ c2)).trans c2
      replace c3 := (BW.out.cell (World.block_lt_of_cell? w _ c3)).trans c3
      replace c4 := (BW.out.cell (World.block_lt_of_cell? w _ c4)).trans c4
      have hbA : ∀ o, Below w.heap.size w (wr.alloc o) := fun o => below_alloc BW.out _
      have hc := fun (cs : Array Value) => (show Calls Tryz.prog g (#[.int .i64 kk, dgV (l.getD kk z53).f0 a1 (l.getD kk z53).f1.f0.length k1 (l.getD kk z53).f1.f1 a3 (l.getD kk z53).f2.length k3 (l.getD kk z53).f3] ++ lb) (wr.alloc (.cells cs 53)) fun e w' => e = .returned (.bool (p kk (l.getD kk z53))) ∧ Below w.heap.size w w' from
        (HP.out (wr.alloc (.cells cs 53)) kk a1 k1 a3 k3 hlt (hbA _) m1 (Kd.C_below g1 (hbA _)) m3 (Kd.C_below g3 (hbA _))).mono fun e w' h => ⟨h.1, below_step (hbA _) h.2⟩)
      obtain ⟨x, hx⟩ : ∃ x, l.getD kk z53 = x := ⟨_, rfl⟩
      rw [hx] at c0 c1 c2 c3 c4 hc
      have HX := Lib.hid hx
      clear er hx m1 g1 m3 g3 hbA
      unfold dgV at hc
      cases hq : p kk x with
      | false =>
        rw [hq] at hc
        have hF : allK p z53 l = false := allK_false p z53 l kk hlt (by rw [HX.out]; exact hq)
        go_wp2_with (go_at_fn g; refine (hc _).mono ?_; rintro e w' ⟨rfl, hb'⟩)
        go_ret
        exact ⟨by first | rfl | (rw [hF]; rfl), hb'⟩
      | true =>
        rw [hq] at hc
        go_wp2_with (go_at_fn g; refine (hc _).mono ?_; rintro e w' ⟨rfl, hb'⟩)
        go_roundg (l.length - (kk + 1))
        case measure => omega
        case rel =>
          refine ⟨kk + 1, by omega, by omega, by go_num, hb', (show Aside _ from fun j hj => ?_)⟩
          by_cases e : j = kk
          · subst e
            rw [HX.out]; exact hq
          · exact A1.out j (by omega)
    · have hltz : ¬ (kk : Int) < (l.length : Int) := by omega
      have hT : allK p z53 l = true := allK_true p z53 l (fun k hk => A1.out k (by omega))
      go_wp2
      go_ret
      exact ⟨by first | rfl | (rw [hT]; rfl), BW.out⟩
def dgP (l : List S53) (k : Nat) (x : S53) : Bool := dgB l k x.f0 x.f1.f0 x.f1.f1 x.f2
def delegsOk (l : List S53) : Bool := decide (l.length ≤ 16) && allK (dgP l) z53 l
/-- A row's length, whatever lies in it: no row in memory is longer. -/
theorem C_len {w : World} {A : Option Addr} {l : List ByteArray} (h : Kd.C Kd.string w A l.length l) : l.length ≤ 9223372036854775807 := h.2.1
attribute [local irreducible] dgB allK
theorem dgAllTest_any (A : Option Addr) (c : Nat) (l : List S53) (bl : Nat) (w : World) (ht : Tabs w) (hA : Kd.C k53 w A l.length l) (hlc : l.length ≤ c) (hlen : l.length ≤ 1000) (hl : w.cell? ⟨bl, 0, none⟩ = some (.slice A l.length c)) :
    dgAllTest 63 #[.pointer (some ⟨bl, 0, none⟩)] (dgP l) l w := by
  intro W k A1 c1 A3 c3 hk hb m1 g1 m3 g3
  obtain ⟨ad, _, _, _, _, rfl, _⟩ := at_T53 hA (k : Int) (by omega) (by omega)
  exact dg_any (l.getD k z53).f0 A1 A3 c1 c3 (l.getD k z53).f1.f0 (l.getD k z53).f2 (l.getD k z53).f1.f1 (l.getD k z53).f3 bl c k ad l W (ht.below hb) ((hb.cell (World.block_lt_of_cell? _ _ hl)).trans hl) (Kd.C_below hA hb) g1 m1 g3 m3 (C_len g3) hk hlc hlen
set_option maxHeartbeats 2000000 in
set_option maxRecDepth 100000 in
theorem delegs_any (A : Option Addr) (c : Nat) (l : List S53) (w : World) (ht : Tabs w) (hA : Kd.C k53 w A l.length l) (hlc : l.length ≤ c) :
    Calls Tryz.prog 38 #[.slice A l.length c] w fun e w' => e = .returned (.bool (delegsOk l)) ∧ Below w.heap.size w w' := by
  have hmf : ∀ (fn : Fn) (first cap : Array Value) (w : World), (Instr.makeFunc fn first cap).run Tryz.prog w = .ok (.func fn first cap) w := fun _ _ _ _ => rfl
  obtain ⟨W1, hW1⟩ : ∃ W, W = w.alloc (.cells #[.slice A l.length c] 44) := ⟨_, rfl⟩
  have b1 : Below w.heap.size w W1 := hW1 ▸ below_alloc (Below.refl _ _) _
  have q1 : W1.cell? ⟨w.heap.size, 0, none⟩ = some (.slice A l.length c) := by rw [hW1]; simp
  by_cases h16 : l.length ≤ 16
  · have hAll := allDg (dgP l) 63 _ (fun a w => enters_of Tryz.func63 (by kernel_rfl) rfl a w) A c l W1 (dgAllTest_any A c l w.heap.size W1 (ht.below b1) (Kd.C_below hA b1) hlc (by omega) q1) (by omega) (Kd.C_below hA b1)
    have er : delegsOk l = allK (dgP l) z53 l := by unfold delegsOk; rw [decide_eq_true h16]; rfl
    rw [er]
    generalize allK (dgP l) z53 l = r at *
    rw [hW1] at hAll q1
    have HC := Aside0.mk hAll
    have HB := Aside0.mk b1
    have hz : (l.length : Int) ≤ 16 := by omega
    clear hAll ht hA er b1 h16
    go_enter Tryz.func38, Tryz.ntmps38
    go_wp2_with (go_at_call 62; (with_reducible refine HC.out.mono ?_); rintro e w' ⟨rfl, hb'⟩)
    go_ret
    refine ⟨by first | rfl | (simp; done), below_step HB.out ?_⟩
    rw [hW1]; exact hb'
  · have er : delegsOk l = false := by unfold delegsOk; rw [decide_eq_false h16]; rfl
    have hz : ¬ (l.length : Int) ≤ 16 := by omega
    rw [er]
    rw [hW1] at q1 b1
    have HB := Aside0.mk b1
    clear ht hA er h16 b1
    go_enter Tryz.func38, Tryz.ntmps38
    go_wp2
    go_ret
    exact ⟨rfl, HB.out⟩
end Go.Proofs.YtgcflmhlegagbaaGreatDoor.E
end
section
set_option linter.unusedVariables false
set_option linter.unusedSimpArgs false
namespace Go.Proofs.YtgcflmhlegagbaaGreatDoor.E
open Go.RowKit Go.Lib Go.Shelf Go.Proofs.YtgcflmhlegagbaaGreatDoorW.PrintWords Go.Proofs.YtgcflmhlegagbaaGreatDoorW.PrintLast Go.Proofs.YtgcflmhlegagbaaGreatDoorW.PrintMore
open S (mkB mkB_size mkB_list)
open X (S25 S53 S70 k70 z70 rd_T70 at_T70)
def keyAt (l : List S70) (i : Nat) : Bool := decide ((l.getD i z70).f1.size = 32) && ((l.getD i z70).f0.toList == (mkB (keyId (l.getD i z70).f1.data.toList)).toList) && (decide (i = 0) || Op.bytesLess (l.getD (i - 1) z70).f0.toList (l.getD i z70).f0.toList)
def keysOk (l : List S70) : Bool := decide (l.length ≤ 16) && (List.range l.length).all (keyAt l)
theorem rd70_nat (l : List S70) (m : Nat) : rd_T70 l (m : Int) = l.getD m z70 := by unfold rd_T70; rw [Int.toNat_natCast]
theorem keysOk_no {l : List S70} {k : Nat} (hk : k < l.length) (h : keyAt l k = false) : keysOk l = false := by
  unfold keysOk
  rw [Bool.and_eq_false_iff]
  refine .inr ?_
  rw [Bool.eq_false_iff]
  intro h2
  rw [List.all_eq_true] at h2
  have := h2 k (List.mem_range.2 hk)
  rw [h] at this; cases this
theorem keysOk_yes {l : List S70} (h16 : l.length ≤ 16) (h : ∀ k, k < l.length → keyAt l k = true) : keysOk l = true := by
  unfold keysOk
  rw [List.all_eq_true.2 (fun k hk => h k (List.mem_range.1 hk)), Bool.and_true, decide_eq_true h16]
theorem wrap64_sub {n : Nat} (k : Nat) (h : k < n) (hn : n ≤ 1000) (h0 : (0 : Int) < (k : Int)) : IntKind.i64.wrap ((k : Int) - 1) = (k : Int) - 1 := by simp [IntKind.wrap, IntKind.signed, IntKind.bits]; omega
attribute [local irreducible] keyId keyAt keysOk
set_option maxHeartbeats 8000000 in
set_option maxRecDepth 100000 in
theorem keys_any (A : Option Addr) (c : Nat) (l : List S70) (w : World) (ht : Tabs w) (hA : Kd.C k70 w A l.length l) (hlc : l.length ≤ c) :
    Calls Tryz.prog 31 #[.slice A l.length c] w fun e w' => e = .returned (.bool (keysOk l)) ∧ Below w.heap.size w w' := by
  rcases Nat.lt_or_ge 16 l.length with h17 | h16
  · have hF : keysOk l = false := by unfold keysOk; rw [decide_eq_false (Nat.not_le.2 h17), Bool.false_and]
    have h16z : (16 : Int) < (l.length : Int) := by omega
    clear hA ht
    go_enter Tryz.func31, Tryz.ntmps31
    go_wp2
    go_ret
    exact ⟨by first | rfl | (rw [hF]; rfl), Below.refl _ _⟩
  have h16z : ¬ (16 : Int) < (l.length : Int) := by omega
  have hl : l.length ≤ 1000 := by omega
  have HT := Aside0.mk ht
  go_enter Tryz.func31, Tryz.ntmps31
  go_wp2
  have HA := Aside0.mk hA
  clear hA ht
  go_loopg [10] l.length (fun gg s10 wr => ∃ kk : Nat, kk ≤ l.length ∧ l.length - kk ≤ gg ∧ s10 = .int .i64 kk ∧ Aside (Below w.heap.size w wr) ∧ Aside (∀ j, j < kk → keyAt l j = true))
  case atStart => exact ⟨0, Nat.zero_le _, by omega, rfl, Below.refl _ w, fun j hj => absurd hj (Nat.not_lt_zero _)⟩
  case round =>
    obtain ⟨kk, hkk, hg, rfl, BW, A1⟩ := hrel
    by_cases hlt : kk < l.length
    · have hltz : (kk : Int) < (l.length : Int) := by omega
      have hk0z : (0 : Int) ≤ (kk : Int) := by omega
      obtain ⟨ad, rfl, c0, c1⟩ := at_T70 HA.out (kk : Int) (by omega) (by omega)
      rw [rd70_nat] at c0 c1
      rw [Int.toNat_natCast] at c0 c1
      obtain ⟨x, hx⟩ : ∃ x, l.getD kk z70 = x := ⟨_, rfl⟩
      rw [hx] at c0 c1
      replace c0 := (BW.out.cell (World.block_lt_of_cell? w _ c0)).trans c0
      replace c1 := (BW.out.cell (World.block_lt_of_cell? w _ c1)).trans c1
      obtain ⟨y, hy⟩ : ∃ y, mkB (keyId x.f1.data.toList) = y := ⟨_, rfl⟩
      have hId : ∀ W, Tabs W → (!((x.f1.size : Int) == 32)) = false → Calls Tryz.prog 58 #[.string x.f1] W fun e w' => e = .returned (.string y) ∧ Below W.heap.size W w' := fun W hT h => by
        have h32 : (x.f1.size : Int) = 32 := by simpa using h
        refine role_Id.calls x.f1 y W hT ?_
        unfold role_Id.f
        rw [if_pos (by omega), ← hy]
      by_cases hk0 : kk = 0
      · have hkd : ¬ (0 : Int) < (kk : Int) := by omega
        have eK : keyAt l kk = (decide (x.f1.size = 32) && (x.f0.toList == y.toList)) := by
          unfold keyAt; rw [hx, hy, decide_eq_true hk0]; simp
        have hYes : ∀ {b1 : Bool}, b1 = (!((x.f1.size : Int) == 32)) → false = (b1 || !(x.f0.toList == y.toList)) → keyAt l kk = true := by
          intro b1 h1 h2
          subst h1
          have h2 := h2.symm
          rw [Bool.or_eq_false_iff] at h2
          have h3 : (x.f1.size : Int) = 32 := by simpa using h2.1
          have h4 : (x.f0.toList == y.toList) = true := by simpa using h2.2
          rw [eK, h4, decide_eq_true (show x.f1.size = 32 by omega)]; rfl
        have hNo : ∀ {b1 : Bool}, b1 = (!((x.f1.size : Int) == 32)) → true = (b1 || !(x.f0.toList == y.toList)) → keyAt l kk = false := by
          intro b1 h1 h2
          subst h1
          rw [eK]
          by_cases h3 : x.f1.size = 32
          · have h33 : ((x.f1.size : Int) == 32) = true := by rw [beq_iff_eq]; omega
            rw [h33] at h2
            cases h4 : (x.f0.toList == y.toList) with
            | false => simp
            | true => rw [h4] at h2; exact absurd h2 (by decide)
          · simp [h3]
        clear eK hx hy
        have HK0 := Aside0.mk hk0
        have hkn : ¬ 0 < kk := by omega
        clear hk0
        go_upto_region 6 with (fail)
        have hbA : Below w.heap.size w (wr.alloc (.cells #[.string x.f0, .string x.f1] 70)) := below_alloc BW.out _
        obtain ⟨W0, hW0⟩ : ∃ W, W = wr.alloc (.cells #[.string x.f0, .string x.f1] 70) := ⟨_, rfl⟩
        rw [← hW0] at hbA ⊢
        have F0 : W0.cell? ⟨wr.heap.size, 0, none⟩ = some (.string x.f0) := by rw [hW0]; simp
        have F1 : W0.cell? ⟨wr.heap.size, 1, none⟩ = some (.string x.f1) := by rw [hW0]; simp
        clear hW0 c0 c1
        have HBA := Lib.hid hbA
        clear hbA
        refine wp_region_noPanic ?_
        refine wp_region_held_drew (S := fun W_ => Below W0.heap.size W0 W_) (by kernel_rfl) (Below.refl _ _).drew (fun hHeld => ?_)
        refine wpAnyH_take (i := 0) (v := ?_) rfl (by kernel_rfl) (by kernel_rfl) (by kernel_rfl) (fun _ _ _ h => h) (Or.inl ⟨by rfl, ?_⟩) (by with_reducible assumption) ?_
        rotate_left
        · (intro w hSw; clear hSw; go_simp); all_goals with_reducible rfl
        (try simp only [List.getElem_toArray, List.getElem_cons_succ, List.getElem_cons_zero, Act.put, List.setIfInBounds_toArray, List.set_cons_zero, List.set_cons_succ])
        refine wpAnyH_take (i := 1) (v := ?_) rfl (by kernel_rfl) (by kernel_rfl) (by kernel_rfl) (fun _ _ _ h => h) (Or.inl ⟨by rfl, ?_⟩) (by with_reducible assumption) ?_
        rotate_left
        · (intro w hSw; have c_0 := (hSw.cell (World.block_lt_of_cell? _ _ F1)).trans F1; clear hSw; go_simp); all_goals with_reducible rfl
        (try simp only [List.getElem_toArray, List.getElem_cons_succ, List.getElem_cons_zero, Act.put, List.setIfInBounds_toArray, List.set_cons_zero, List.set_cons_succ])
        refine wpAnyH_take (i := 2) (v := ?_) rfl (by kernel_rfl) (by kernel_rfl) (by kernel_rfl) (fun _ _ _ h => h) (Or.inl ⟨by rfl, ?_⟩) (by with_reducible assumption) ?_
        rotate_left
        · (intro w hSw; clear hSw; go_simp); all_goals with_reducible rfl
        (try simp only [List.getElem_toArray, List.getElem_cons_succ, List.getElem_cons_zero, Act.put, List.setIfInBounds_toArray, List.set_cons_zero, List.set_cons_succ])
        refine wpAnyH_take (i := 3) (v := .bool (!((x.f1.size : Int) == 32))) rfl (by kernel_rfl) (by kernel_rfl) (by kernel_rfl) (fun _ _ _ h => h) (Or.inl ⟨by rfl, ?_⟩) (by with_reducible assumption) ?_
        · (intro w hSw; clear hSw; go_simp; all_goals (try rfl))
        (try simp only [List.getElem_toArray, List.getElem_cons_succ, List.getElem_cons_zero, Act.put, List.setIfInBounds_toArray, List.set_cons_zero, List.set_cons_succ])
        obtain ⟨b1, hb1⟩ : ∃ z_, z_ = (!((x.f1.size : Int) == 32)) := ⟨_, rfl⟩
        rw [← hb1]
        have Hb1 := Lib.hid hb1
        clear hb1
        refine wpAnyH_take (i := 4) (v := ?_) rfl (by kernel_rfl) (by kernel_rfl) (by kernel_rfl) (fun _ _ _ h => h) (Or.inl ⟨by rfl, ?_⟩) (by with_reducible assumption) ?_
        rotate_left
        · (intro w hSw; clear hSw; go_simp); all_goals with_reducible rfl
        (try simp only [List.getElem_toArray, List.getElem_cons_succ, List.getElem_cons_zero, Act.put, List.setIfInBounds_toArray, List.set_cons_zero, List.set_cons_succ])
        refine wpAnyH_take (i := 5) (v := bif !b1 then ?_ else undef) rfl (by kernel_rfl) (by kernel_rfl) (by kernel_rfl) (fun _ _ _ h => h) (yi_guard (!b1) (by cases b1 <;> rfl) ?_) (by with_reducible assumption) ?_
        rotate_left
        · (intro hg w hSw; clear hSw; (try simp only [hg, cond_true]); go_simp); all_goals with_reducible rfl
        (try simp only [List.getElem_toArray, List.getElem_cons_succ, List.getElem_cons_zero, Act.put, List.setIfInBounds_toArray, List.set_cons_zero, List.set_cons_succ])
        refine wpAnyH_take (i := 6) (v := bif !b1 then ?_ else undef) rfl (by kernel_rfl) (by kernel_rfl) (by kernel_rfl) (fun _ _ _ h => h) (yi_guard (!b1) (by cases b1 <;> rfl) ?_) (by with_reducible assumption) ?_
        rotate_left
        · (intro hg w hSw; have c_0 := (hSw.cell (World.block_lt_of_cell? _ _ F0)).trans F0; clear hSw; (try simp only [hg, cond_true]); go_simp); all_goals with_reducible rfl
        (try simp only [List.getElem_toArray, List.getElem_cons_succ, List.getElem_cons_zero, Act.put, List.setIfInBounds_toArray, List.set_cons_zero, List.set_cons_succ])
        refine wpAnyH_take (i := 7) (v := bif !b1 then ?_ else undef) rfl (by kernel_rfl) (by kernel_rfl) (by kernel_rfl) (fun _ _ _ h => h) (yi_guard (!b1) (by cases b1 <;> rfl) ?_) (by with_reducible assumption) ?_
        rotate_left
        · (intro hg w hSw; clear hSw; (try simp only [hg, cond_true]); go_simp); all_goals with_reducible rfl
        (try simp only [List.getElem_toArray, List.getElem_cons_succ, List.getElem_cons_zero, Act.put, List.setIfInBounds_toArray, List.set_cons_zero, List.set_cons_succ])
        refine wpAnyH_take (i := 8) (v := bif !b1 then ?_ else undef) rfl (by kernel_rfl) (by kernel_rfl) (by kernel_rfl) (fun _ _ _ h => h) (yi_guard (!b1) (by cases b1 <;> rfl) ?_) (by with_reducible assumption) ?_
        rotate_left
        · (intro hg w hSw; have c_0 := (hSw.cell (World.block_lt_of_cell? _ _ F1)).trans F1; clear hSw; (try simp only [hg, cond_true]); go_simp); all_goals with_reducible rfl
        (try simp only [List.getElem_toArray, List.getElem_cons_succ, List.getElem_cons_zero, Act.put, List.setIfInBounds_toArray, List.set_cons_zero, List.set_cons_succ])
        refine call_guard (i := 9) (f := 58) (args := #[.string x.f1]) (v := .string y) (F := fun w' => Below W0.heap.size W0 w') (!b1) rfl (by kernel_rfl) (by cases b1 <;> rfl) (fun hg => by (try simp only [hg, cond_true]); go_simp) (fun hg => (hId _ (HT.out.below (below_step HBA.out hHeld)) (Hb1.out.symm.trans (by simpa using hg))).mono fun e w' h => ⟨h.1, below_step hHeld h.2⟩) (fun _ => hHeld) (fun _ h => h) (fun w1 h1 _ => ?_)
        (try simp only [List.getElem_toArray, List.getElem_cons_succ, List.getElem_cons_zero, Act.put, List.setIfInBounds_toArray, List.set_cons_zero, List.set_cons_succ])
        refine wpAnyH_take (i := 10) (v := bif !b1 then ?_ else undef) rfl (by kernel_rfl) (by kernel_rfl) (by kernel_rfl) (fun _ _ _ h => h) (yi_guard (!b1) (by cases b1 <;> rfl) ?_) (by with_reducible assumption) ?_
        rotate_left
        · (intro hg w hSw; clear hSw; (try simp only [hg, cond_true]); go_simp); all_goals with_reducible rfl
        (try simp only [List.getElem_toArray, List.getElem_cons_succ, List.getElem_cons_zero, Act.put, List.setIfInBounds_toArray, List.set_cons_zero, List.set_cons_succ])
        refine wpAnyH_take (i := 11) (v := .bool (b1 || !(x.f0.toList == y.toList))) rfl (by kernel_rfl) (by kernel_rfl) (by kernel_rfl) (fun _ _ _ h => h) (Or.inl ⟨by rfl, ?_⟩) (by with_reducible assumption) ?_
        · (intro w hSw; clear hSw; cases b1 <;> (go_simp); all_goals (try with_reducible rfl))
        (try simp only [List.getElem_toArray, List.getElem_cons_succ, List.getElem_cons_zero, Act.put, List.setIfInBounds_toArray, List.set_cons_zero, List.set_cons_succ])
        obtain ⟨b2, hb2⟩ : ∃ z_, z_ = (b1 || !(x.f0.toList == y.toList)) := ⟨_, rfl⟩
        rw [← hb2]
        have Hb2 := Lib.hid hb2
        clear hb2
        refine wpAnyH_take (i := 12) (v := ?_) rfl (by kernel_rfl) (by kernel_rfl) (by kernel_rfl) (fun _ _ _ h => h) (Or.inl ⟨by rfl, ?_⟩) (by with_reducible assumption) ?_
        rotate_left
        · (intro w hSw; clear hSw; go_simp); all_goals with_reducible rfl
        (try simp only [List.getElem_toArray, List.getElem_cons_succ, List.getElem_cons_zero, Act.put, List.setIfInBounds_toArray, List.set_cons_zero, List.set_cons_succ])
        refine wpAnyH_take (i := 13) (v := bif !b2 then ?_ else undef) rfl (by kernel_rfl) (by kernel_rfl) (by kernel_rfl) (fun _ _ _ h => h) (yi_guard (!b2) (by cases b2 <;> rfl) ?_) (by with_reducible assumption) ?_
        rotate_left
        · (intro hg w hSw; clear hSw; (try simp only [hg, cond_true]); go_simp); all_goals with_reducible rfl
        (try simp only [List.getElem_toArray, List.getElem_cons_succ, List.getElem_cons_zero, Act.put, List.setIfInBounds_toArray, List.set_cons_zero, List.set_cons_succ])
        refine wpAnyH_take (i := 14) (v := bif !b2 then ?_ else undef) rfl (by kernel_rfl) (by kernel_rfl) (by kernel_rfl) (fun _ _ _ h => h) (yi_guard (!b2) (by cases b2 <;> rfl) ?_) (by with_reducible assumption) ?_
        rotate_left
        · (intro hg w hSw; clear hSw; (try simp only [hg, cond_true]); go_simp); all_goals with_reducible rfl
        (try simp only [List.getElem_toArray, List.getElem_cons_succ, List.getElem_cons_zero, Act.put, List.setIfInBounds_toArray, List.set_cons_zero, List.set_cons_succ])
        refine wpAnyH_take (i := 15) (v := bif !b2 then ?_ else undef) rfl (by kernel_rfl) (by kernel_rfl) (by kernel_rfl) (fun _ _ _ h => h) (yi_guard (!b2) (by cases b2 <;> rfl) ?_) (by with_reducible assumption) ?_
        rotate_left
        · (intro hg w hSw; clear hSw; (try simp only [hg, cond_true]); go_simp); all_goals with_reducible rfl
        (try simp only [List.getElem_toArray, List.getElem_cons_succ, List.getElem_cons_zero, Act.put, List.setIfInBounds_toArray, List.set_cons_zero, List.set_cons_succ])
        refine wpAnyH_take (i := 16) (v := undef) rfl (by kernel_rfl) (by kernel_rfl) (by kernel_rfl) (fun _ _ _ h => h) (Or.inr ⟨by cases b2 <;> rfl, rfl⟩) (by with_reducible assumption) ?_
        (try simp only [List.getElem_toArray, List.getElem_cons_succ, List.getElem_cons_zero, Act.put, List.setIfInBounds_toArray, List.set_cons_zero, List.set_cons_succ])
        refine wpAnyH_take (i := 17) (v := undef) rfl (by kernel_rfl) (by kernel_rfl) (by kernel_rfl) (fun _ _ _ h => h) (Or.inr ⟨by cases b2 <;> rfl, rfl⟩) (by with_reducible assumption) ?_
        (try simp only [List.getElem_toArray, List.getElem_cons_succ, List.getElem_cons_zero, Act.put, List.setIfInBounds_toArray, List.set_cons_zero, List.set_cons_succ])
        refine wpAnyH_take (i := 18) (v := undef) rfl (by kernel_rfl) (by kernel_rfl) (by kernel_rfl) (fun _ _ _ h => h) (Or.inr ⟨by cases b2 <;> rfl, rfl⟩) (by with_reducible assumption) ?_
        (try simp only [List.getElem_toArray, List.getElem_cons_succ, List.getElem_cons_zero, Act.put, List.setIfInBounds_toArray, List.set_cons_zero, List.set_cons_succ])
        refine wpAnyH_take (i := 19) (v := undef) rfl (by kernel_rfl) (by kernel_rfl) (by kernel_rfl) (fun _ _ _ h => h) (Or.inr ⟨by cases b2 <;> rfl, rfl⟩) (by with_reducible assumption) ?_
        (try simp only [List.getElem_toArray, List.getElem_cons_succ, List.getElem_cons_zero, Act.put, List.setIfInBounds_toArray, List.set_cons_zero, List.set_cons_succ])
        refine wpAnyH_take (i := 20) (v := undef) rfl (by kernel_rfl) (by kernel_rfl) (by kernel_rfl) (fun _ _ _ h => h) (Or.inr ⟨by cases b2 <;> rfl, rfl⟩) (by with_reducible assumption) ?_
        (try simp only [List.getElem_toArray, List.getElem_cons_succ, List.getElem_cons_zero, Act.put, List.setIfInBounds_toArray, List.set_cons_zero, List.set_cons_succ])
        refine wpAnyH_take (i := 21) (v := undef) rfl (by kernel_rfl) (by kernel_rfl) (by kernel_rfl) (fun _ _ _ h => h) (Or.inr ⟨by cases b2 <;> rfl, rfl⟩) (by with_reducible assumption) ?_
        (try simp only [List.getElem_toArray, List.getElem_cons_succ, List.getElem_cons_zero, Act.put, List.setIfInBounds_toArray, List.set_cons_zero, List.set_cons_succ])
        refine wpAnyH_take (i := 22) (v := undef) rfl (by kernel_rfl) (by kernel_rfl) (by kernel_rfl) (fun _ _ _ h => h) (Or.inr ⟨by cases b2 <;> rfl, rfl⟩) (by with_reducible assumption) ?_
        (try simp only [List.getElem_toArray, List.getElem_cons_succ, List.getElem_cons_zero, Act.put, List.setIfInBounds_toArray, List.set_cons_zero, List.set_cons_succ])
        refine wpAnyH_take (i := 23) (v := undef) rfl (by kernel_rfl) (by kernel_rfl) (by kernel_rfl) (fun _ _ _ h => h) (Or.inr ⟨by cases b2 <;> rfl, rfl⟩) (by with_reducible assumption) ?_
        (try simp only [List.getElem_toArray, List.getElem_cons_succ, List.getElem_cons_zero, Act.put, List.setIfInBounds_toArray, List.set_cons_zero, List.set_cons_succ])
        refine wpAnyH_take (i := 24) (v := undef) rfl (by kernel_rfl) (by kernel_rfl) (by kernel_rfl) (fun _ _ _ h => h) (Or.inr ⟨by cases b2 <;> rfl, rfl⟩) (by with_reducible assumption) ?_
        (try simp only [List.getElem_toArray, List.getElem_cons_succ, List.getElem_cons_zero, Act.put, List.setIfInBounds_toArray, List.set_cons_zero, List.set_cons_succ])
        refine wpAnyH_take (i := 25) (v := bif !b2 then ?_ else undef) rfl (by kernel_rfl) (by kernel_rfl) (by kernel_rfl) (fun _ _ _ h => h) (yi_guard (!b2) (by cases b2 <;> rfl) ?_) (by with_reducible assumption) ?_
        rotate_left
        · (intro hg w hSw; clear hSw; (try simp only [hg, cond_true]); go_simp); all_goals with_reducible rfl
        (try simp only [List.getElem_toArray, List.getElem_cons_succ, List.getElem_cons_zero, Act.put, List.setIfInBounds_toArray, List.set_cons_zero, List.set_cons_succ])
        refine wpAnyH_take (i := 26) (v := .bool b2) rfl (by kernel_rfl) (by kernel_rfl) (by kernel_rfl) (fun _ _ _ h => h) (Or.inl ⟨by rfl, ?_⟩) (by with_reducible assumption) ?_
        · (intro w hSw; clear hSw; cases b2 <;> (go_simp); all_goals (try with_reducible rfl))
        (try simp only [List.getElem_toArray, List.getElem_cons_succ, List.getElem_cons_zero, Act.put, List.setIfInBounds_toArray, List.set_cons_zero, List.set_cons_succ])
        refine wpAnyH_done (by kernel_rfl) ?_ _
        refine NoPanic.normal ?_
        have HBF := Lib.hid (below_step HBA.out h1)
        clear hHeld h1
        cases b2
        · have hT : keyAt l kk = true := hYes Hb1.out Hb2.out
          go_wp2
          go_roundg (l.length - (kk + 1))
          case measure => omega
          case rel =>
            refine ⟨kk + 1, by omega, by omega, by go_num, HBF.out, (show Aside _ from fun j hj => ?_)⟩
            by_cases e : j = kk
            · subst e; exact hT
            · exact A1.out j (by omega)
        · have hF : keyAt l kk = false := hNo Hb1.out Hb2.out
          go_wp2
          go_ret
          exact ⟨by rw [keysOk_no hlt hF]; rfl, HBF.out⟩
      · have hkp : (0 : Int) < (kk : Int) := by omega
        have hkn : 0 < kk := by omega
        have hw1 : IntKind.i64.wrap ((kk : Int) - 1) = (kk : Int) - 1 := wrap64_sub kk hlt hl hkp
        have nP : ((kk : Int) - 1).toNat = kk - 1 := by omega
        obtain ⟨ad', e', q0, _⟩ := at_T70 HA.out ((kk : Int) - 1) (by omega) (by omega)
        injection e' with e'
        subst e'
        rw [show rd_T70 l ((kk : Int) - 1) = l.getD (kk - 1) z70 from by unfold rd_T70; rw [nP], nP] at q0
        obtain ⟨p, hp⟩ : ∃ p, l.getD (kk - 1) z70 = p := ⟨_, rfl⟩
        rw [hp] at q0
        have hl1 : (kk : Int) - 1 < (l.length : Int) := by omega
        have hl0 : (0 : Int) ≤ (kk : Int) - 1 := by omega
        have hk1 : (1 : Int) ≤ (kk : Int) := by omega
        obtain ⟨c3, hc3⟩ : ∃ b, Op.bytesLess p.f0.toList x.f0.toList = b := ⟨_, rfl⟩
        have eK : keyAt l kk = (decide (x.f1.size = 32) && (x.f0.toList == y.toList) && c3) := by
          unfold keyAt; rw [hx, hy, hp, hc3, decide_eq_false hk0]; simp
        have hYes : ∀ {b1 b2 : Bool}, b1 = (!((x.f1.size : Int) == 32)) → b2 = (b1 || !(x.f0.toList == y.toList)) → false = (b2 || !c3) → keyAt l kk = true := by
          intro b1 b2 h1 h2 h5
          subst h1
          subst h2
          have h2 := h5.symm
          rw [Bool.or_eq_false_iff, Bool.or_eq_false_iff] at h2
          have h3 : (x.f1.size : Int) = 32 := by simpa using h2.1.1
          have h4 : (x.f0.toList == y.toList) = true := by simpa using h2.1.2
          have h6 : c3 = true := by simpa using h2.2
          rw [eK, h4, h6, decide_eq_true (show x.f1.size = 32 by omega)]; rfl
        have hNo : ∀ {b1 b2 : Bool}, b1 = (!((x.f1.size : Int) == 32)) → b2 = (b1 || !(x.f0.toList == y.toList)) → true = (b2 || !c3) → keyAt l kk = false := by
          intro b1 b2 h1 h2 h5
          subst h1
          subst h2
          rw [eK]
          by_cases h3 : x.f1.size = 32
          · have h33 : ((x.f1.size : Int) == 32) = true := by rw [beq_iff_eq]; omega
            rw [h33] at h5
            rw [decide_eq_true h3]
            revert h5
            generalize (x.f0.toList == y.toList) = b4
            cases b4 <;> cases c3 <;> decide
          · simp [h3]
        clear eK hx hy hp
        go_upto_region 6 with (fail)
        have hbA : Below w.heap.size w (wr.alloc (.cells #[.string x.f0, .string x.f1] 70)) := below_alloc BW.out _
        obtain ⟨W0, hW0⟩ : ∃ W, W = wr.alloc (.cells #[.string x.f0, .string x.f1] 70) := ⟨_, rfl⟩
        rw [← hW0] at hbA ⊢
        have F0 : W0.cell? ⟨wr.heap.size, 0, none⟩ = some (.string x.f0) := by rw [hW0]; simp
        have F1 : W0.cell? ⟨wr.heap.size, 1, none⟩ = some (.string x.f1) := by rw [hW0]; simp
        have FP := (hbA.cell (World.block_lt_of_cell? _ _ q0)).trans q0
        clear hW0 c0 c1 q0
        have HBA := Lib.hid hbA
        clear hbA
        refine wp_region_noPanic ?_
        refine wp_region_held_drew (S := fun W_ => Below W0.heap.size W0 W_) (by kernel_rfl) (Below.refl _ _).drew (fun hHeld => ?_)
        refine wpAnyH_take (i := 0) (v := ?_) rfl (by kernel_rfl) (by kernel_rfl) (by kernel_rfl) (fun _ _ _ h => h) (Or.inl ⟨by rfl, ?_⟩) (by with_reducible assumption) ?_
        rotate_left
        · (intro w hSw; clear hSw; go_simp); all_goals with_reducible rfl
        (try simp only [List.getElem_toArray, List.getElem_cons_succ, List.getElem_cons_zero, Act.put, List.setIfInBounds_toArray, List.set_cons_zero, List.set_cons_succ])
        refine wpAnyH_take (i := 1) (v := ?_) rfl (by kernel_rfl) (by kernel_rfl) (by kernel_rfl) (fun _ _ _ h => h) (Or.inl ⟨by rfl, ?_⟩) (by with_reducible assumption) ?_
        rotate_left
        · (intro w hSw; have c_0 := (hSw.cell (World.block_lt_of_cell? _ _ F1)).trans F1; clear hSw; go_simp); all_goals with_reducible rfl
        (try simp only [List.getElem_toArray, List.getElem_cons_succ, List.getElem_cons_zero, Act.put, List.setIfInBounds_toArray, List.set_cons_zero, List.set_cons_succ])
        refine wpAnyH_take (i := 2) (v := ?_) rfl (by kernel_rfl) (by kernel_rfl) (by kernel_rfl) (fun _ _ _ h => h) (Or.inl ⟨by rfl, ?_⟩) (by with_reducible assumption) ?_
        rotate_left
        · (intro w hSw; clear hSw; go_simp); all_goals with_reducible rfl
        (try simp only [List.getElem_toArray, List.getElem_cons_succ, List.getElem_cons_zero, Act.put, List.setIfInBounds_toArray, List.set_cons_zero, List.set_cons_succ])
        refine wpAnyH_take (i := 3) (v := .bool (!((x.f1.size : Int) == 32))) rfl (by kernel_rfl) (by kernel_rfl) (by kernel_rfl) (fun _ _ _ h => h) (Or.inl ⟨by rfl, ?_⟩) (by with_reducible assumption) ?_
        · (intro w hSw; clear hSw; go_simp; all_goals (try rfl))
        (try simp only [List.getElem_toArray, List.getElem_cons_succ, List.getElem_cons_zero, Act.put, List.setIfInBounds_toArray, List.set_cons_zero, List.set_cons_succ])
        obtain ⟨b1, hb1⟩ : ∃ z_, z_ = (!((x.f1.size : Int) == 32)) := ⟨_, rfl⟩
        rw [← hb1]
        have Hb1 := Lib.hid hb1
        clear hb1
        refine wpAnyH_take (i := 4) (v := ?_) rfl (by kernel_rfl) (by kernel_rfl) (by kernel_rfl) (fun _ _ _ h => h) (Or.inl ⟨by rfl, ?_⟩) (by with_reducible assumption) ?_
        rotate_left
        · (intro w hSw; clear hSw; go_simp); all_goals with_reducible rfl
        (try simp only [List.getElem_toArray, List.getElem_cons_succ, List.getElem_cons_zero, Act.put, List.setIfInBounds_toArray, List.set_cons_zero, List.set_cons_succ])
        refine wpAnyH_take (i := 5) (v := bif !b1 then ?_ else undef) rfl (by kernel_rfl) (by kernel_rfl) (by kernel_rfl) (fun _ _ _ h => h) (yi_guard (!b1) (by cases b1 <;> rfl) ?_) (by with_reducible assumption) ?_
        rotate_left
        · (intro hg w hSw; clear hSw; (try simp only [hg, cond_true]); go_simp); all_goals with_reducible rfl
        (try simp only [List.getElem_toArray, List.getElem_cons_succ, List.getElem_cons_zero, Act.put, List.setIfInBounds_toArray, List.set_cons_zero, List.set_cons_succ])
        refine wpAnyH_take (i := 6) (v := bif !b1 then ?_ else undef) rfl (by kernel_rfl) (by kernel_rfl) (by kernel_rfl) (fun _ _ _ h => h) (yi_guard (!b1) (by cases b1 <;> rfl) ?_) (by with_reducible assumption) ?_
        rotate_left
        · (intro hg w hSw; have c_0 := (hSw.cell (World.block_lt_of_cell? _ _ F0)).trans F0; clear hSw; (try simp only [hg, cond_true]); go_simp); all_goals with_reducible rfl
        (try simp only [List.getElem_toArray, List.getElem_cons_succ, List.getElem_cons_zero, Act.put, List.setIfInBounds_toArray, List.set_cons_zero, List.set_cons_succ])
        refine wpAnyH_take (i := 7) (v := bif !b1 then ?_ else undef) rfl (by kernel_rfl) (by kernel_rfl) (by kernel_rfl) (fun _ _ _ h => h) (yi_guard (!b1) (by cases b1 <;> rfl) ?_) (by with_reducible assumption) ?_
        rotate_left
        · (intro hg w hSw; clear hSw; (try simp only [hg, cond_true]); go_simp); all_goals with_reducible rfl
        (try simp only [List.getElem_toArray, List.getElem_cons_succ, List.getElem_cons_zero, Act.put, List.setIfInBounds_toArray, List.set_cons_zero, List.set_cons_succ])
        refine wpAnyH_take (i := 8) (v := bif !b1 then ?_ else undef) rfl (by kernel_rfl) (by kernel_rfl) (by kernel_rfl) (fun _ _ _ h => h) (yi_guard (!b1) (by cases b1 <;> rfl) ?_) (by with_reducible assumption) ?_
        rotate_left
        · (intro hg w hSw; have c_0 := (hSw.cell (World.block_lt_of_cell? _ _ F1)).trans F1; clear hSw; (try simp only [hg, cond_true]); go_simp); all_goals with_reducible rfl
        (try simp only [List.getElem_toArray, List.getElem_cons_succ, List.getElem_cons_zero, Act.put, List.setIfInBounds_toArray, List.set_cons_zero, List.set_cons_succ])
        refine call_guard (i := 9) (f := 58) (args := #[.string x.f1]) (v := .string y) (F := fun w' => Below W0.heap.size W0 w') (!b1) rfl (by kernel_rfl) (by cases b1 <;> rfl) (fun hg => by (try simp only [hg, cond_true]); go_simp) (fun hg => (hId _ (HT.out.below (below_step HBA.out hHeld)) (Hb1.out.symm.trans (by simpa using hg))).mono fun e w' h => ⟨h.1, below_step hHeld h.2⟩) (fun _ => hHeld) (fun _ h => h) (fun w1 h1 _ => ?_)
        (try simp only [List.getElem_toArray, List.getElem_cons_succ, List.getElem_cons_zero, Act.put, List.setIfInBounds_toArray, List.set_cons_zero, List.set_cons_succ])
        refine wpAnyH_take (i := 10) (v := bif !b1 then ?_ else undef) rfl (by kernel_rfl) (by kernel_rfl) (by kernel_rfl) (fun _ _ _ h => h) (yi_guard (!b1) (by cases b1 <;> rfl) ?_) (by with_reducible assumption) ?_
        rotate_left
        · (intro hg w hSw; clear hSw; (try simp only [hg, cond_true]); go_simp); all_goals with_reducible rfl
        (try simp only [List.getElem_toArray, List.getElem_cons_succ, List.getElem_cons_zero, Act.put, List.setIfInBounds_toArray, List.set_cons_zero, List.set_cons_succ])
        refine wpAnyH_take (i := 11) (v := .bool (b1 || !(x.f0.toList == y.toList))) rfl (by kernel_rfl) (by kernel_rfl) (by kernel_rfl) (fun _ _ _ h => h) (Or.inl ⟨by rfl, ?_⟩) (by with_reducible assumption) ?_
        · (intro w hSw; clear hSw; cases b1 <;> (go_simp); all_goals (try with_reducible rfl))
        (try simp only [List.getElem_toArray, List.getElem_cons_succ, List.getElem_cons_zero, Act.put, List.setIfInBounds_toArray, List.set_cons_zero, List.set_cons_succ])
        obtain ⟨b2, hb2⟩ : ∃ z_, z_ = (b1 || !(x.f0.toList == y.toList)) := ⟨_, rfl⟩
        rw [← hb2]
        have Hb2 := Lib.hid hb2
        clear hb2
        refine wpAnyH_take (i := 12) (v := ?_) rfl (by kernel_rfl) (by kernel_rfl) (by kernel_rfl) (fun _ _ _ h => h) (Or.inl ⟨by rfl, ?_⟩) (by with_reducible assumption) ?_
        rotate_left
        · (intro w hSw; clear hSw; go_simp); all_goals with_reducible rfl
        (try simp only [List.getElem_toArray, List.getElem_cons_succ, List.getElem_cons_zero, Act.put, List.setIfInBounds_toArray, List.set_cons_zero, List.set_cons_succ])
        refine wpAnyH_take (i := 13) (v := bif !b2 then ?_ else undef) rfl (by kernel_rfl) (by kernel_rfl) (by kernel_rfl) (fun _ _ _ h => h) (yi_guard (!b2) (by cases b2 <;> rfl) ?_) (by with_reducible assumption) ?_
        rotate_left
        · (intro hg w hSw; clear hSw; (try simp only [hg, cond_true]); go_simp); all_goals with_reducible rfl
        (try simp only [List.getElem_toArray, List.getElem_cons_succ, List.getElem_cons_zero, Act.put, List.setIfInBounds_toArray, List.set_cons_zero, List.set_cons_succ])
        refine wpAnyH_take (i := 14) (v := bif !b2 then ?_ else undef) rfl (by kernel_rfl) (by kernel_rfl) (by kernel_rfl) (fun _ _ _ h => h) (yi_guard (!b2) (by cases b2 <;> rfl) ?_) (by with_reducible assumption) ?_
        rotate_left
        · (intro hg w hSw; clear hSw; (try simp only [hg, cond_true]); go_simp); all_goals with_reducible rfl
        (try simp only [List.getElem_toArray, List.getElem_cons_succ, List.getElem_cons_zero, Act.put, List.setIfInBounds_toArray, List.set_cons_zero, List.set_cons_succ])
        refine wpAnyH_take (i := 15) (v := bif !b2 then ?_ else undef) rfl (by kernel_rfl) (by kernel_rfl) (by kernel_rfl) (fun _ _ _ h => h) (yi_guard (!b2) (by cases b2 <;> rfl) ?_) (by with_reducible assumption) ?_
        rotate_left
        · (intro hg w hSw; clear hSw; (try simp only [hg, cond_true]); go_simp); all_goals with_reducible rfl
        (try simp only [List.getElem_toArray, List.getElem_cons_succ, List.getElem_cons_zero, Act.put, List.setIfInBounds_toArray, List.set_cons_zero, List.set_cons_succ])
        refine wpAnyH_take (i := 16) (v := bif !b2 then ?_ else undef) rfl (by kernel_rfl) (by kernel_rfl) (by kernel_rfl) (fun _ _ _ h => h) (yi_guard (!b2) (by cases b2 <;> rfl) ?_) (by with_reducible assumption) ?_
        rotate_left
        · (intro hg w hSw; clear hSw; (try simp only [hg, cond_true]); go_simp); all_goals with_reducible rfl
        (try simp only [List.getElem_toArray, List.getElem_cons_succ, List.getElem_cons_zero, Act.put, List.setIfInBounds_toArray, List.set_cons_zero, List.set_cons_succ])
        refine wpAnyH_take (i := 17) (v := bif !b2 then ?_ else undef) rfl (by kernel_rfl) (by kernel_rfl) (by kernel_rfl) (fun _ _ _ h => h) (yi_guard (!b2) (by cases b2 <;> rfl) ?_) (by with_reducible assumption) ?_
        rotate_left
        · (intro hg w hSw; clear hSw; (try simp only [hg, cond_true]); go_simp); all_goals with_reducible rfl
        (try simp only [List.getElem_toArray, List.getElem_cons_succ, List.getElem_cons_zero, Act.put, List.setIfInBounds_toArray, List.set_cons_zero, List.set_cons_succ])
        refine wpAnyH_take (i := 18) (v := bif !b2 then ?_ else undef) rfl (by kernel_rfl) (by kernel_rfl) (by kernel_rfl) (fun _ _ _ h => h) (yi_guard (!b2) (by cases b2 <;> rfl) ?_) (by with_reducible assumption) ?_
        rotate_left
        · (intro hg w hSw; clear hSw; (try simp only [hg, cond_true]); go_simp); all_goals with_reducible rfl
        (try simp only [List.getElem_toArray, List.getElem_cons_succ, List.getElem_cons_zero, Act.put, List.setIfInBounds_toArray, List.set_cons_zero, List.set_cons_succ])
        refine wpAnyH_take (i := 19) (v := bif !b2 then ?_ else undef) rfl (by kernel_rfl) (by kernel_rfl) (by kernel_rfl) (fun _ _ _ h => h) (yi_guard (!b2) (by cases b2 <;> rfl) ?_) (by with_reducible assumption) ?_
        rotate_left
        · (intro hg w hSw; clear hSw; (try simp only [hg, cond_true]); go_simp); all_goals with_reducible rfl
        (try simp only [List.getElem_toArray, List.getElem_cons_succ, List.getElem_cons_zero, Act.put, List.setIfInBounds_toArray, List.set_cons_zero, List.set_cons_succ])
        refine wpAnyH_take (i := 20) (v := bif !b2 then ?_ else undef) rfl (by kernel_rfl) (by kernel_rfl) (by kernel_rfl) (fun _ _ _ h => h) (yi_guard (!b2) (by cases b2 <;> rfl) ?_) (by with_reducible assumption) ?_
        rotate_left
        · (intro hg w hSw; clear hSw; (try simp only [hg, cond_true]); go_simp); all_goals with_reducible rfl
        (try simp only [List.getElem_toArray, List.getElem_cons_succ, List.getElem_cons_zero, Act.put, List.setIfInBounds_toArray, List.set_cons_zero, List.set_cons_succ])
        refine wpAnyH_take (i := 21) (v := bif !b2 then ?_ else undef) rfl (by kernel_rfl) (by kernel_rfl) (by kernel_rfl) (fun _ _ _ h => h) (yi_guard (!b2) (by cases b2 <;> rfl) ?_) (by with_reducible assumption) ?_
        rotate_left
        · (intro hg w hSw; have c_0 := (hSw.cell (World.block_lt_of_cell? _ _ FP)).trans FP; clear hSw; (try simp only [hg, cond_true]); go_simp); all_goals with_reducible rfl
        (try simp only [List.getElem_toArray, List.getElem_cons_succ, List.getElem_cons_zero, Act.put, List.setIfInBounds_toArray, List.set_cons_zero, List.set_cons_succ])
        refine wpAnyH_take (i := 22) (v := bif !b2 then ?_ else undef) rfl (by kernel_rfl) (by kernel_rfl) (by kernel_rfl) (fun _ _ _ h => h) (yi_guard (!b2) (by cases b2 <;> rfl) ?_) (by with_reducible assumption) ?_
        rotate_left
        · (intro hg w hSw; clear hSw; (try simp only [hg, cond_true]); go_simp); all_goals with_reducible rfl
        (try simp only [List.getElem_toArray, List.getElem_cons_succ, List.getElem_cons_zero, Act.put, List.setIfInBounds_toArray, List.set_cons_zero, List.set_cons_succ])
        refine wpAnyH_take (i := 23) (v := bif !b2 then ?_ else undef) rfl (by kernel_rfl) (by kernel_rfl) (by kernel_rfl) (fun _ _ _ h => h) (yi_guard (!b2) (by cases b2 <;> rfl) ?_) (by with_reducible assumption) ?_
        rotate_left
        · (intro hg w hSw; have c_0 := (hSw.cell (World.block_lt_of_cell? _ _ F0)).trans F0; clear hSw; (try simp only [hg, cond_true]); go_simp); all_goals with_reducible rfl
        (try simp only [List.getElem_toArray, List.getElem_cons_succ, List.getElem_cons_zero, Act.put, List.setIfInBounds_toArray, List.set_cons_zero, List.set_cons_succ])
        refine wpAnyH_take (i := 24) (v := bif !b2 then ?_ else undef) rfl (by kernel_rfl) (by kernel_rfl) (by kernel_rfl) (fun _ _ _ h => h) (yi_guard (!b2) (by cases b2 <;> rfl) ?_) (by with_reducible assumption) ?_
        rotate_left
        · (intro hg w hSw; clear hSw; (try simp only [hg, cond_true]); (try simp only [hc3]); go_simp); all_goals with_reducible rfl
        (try simp only [List.getElem_toArray, List.getElem_cons_succ, List.getElem_cons_zero, Act.put, List.setIfInBounds_toArray, List.set_cons_zero, List.set_cons_succ])
        refine wpAnyH_take (i := 25) (v := bif !b2 then ?_ else undef) rfl (by kernel_rfl) (by kernel_rfl) (by kernel_rfl) (fun _ _ _ h => h) (yi_guard (!b2) (by cases b2 <;> rfl) ?_) (by with_reducible assumption) ?_
        rotate_left
        · (intro hg w hSw; clear hSw; (try simp only [hg, cond_true]); go_simp); all_goals with_reducible rfl
        (try simp only [List.getElem_toArray, List.getElem_cons_succ, List.getElem_cons_zero, Act.put, List.setIfInBounds_toArray, List.set_cons_zero, List.set_cons_succ])
        refine wpAnyH_take (i := 26) (v := .bool (b2 || !c3)) rfl (by kernel_rfl) (by kernel_rfl) (by kernel_rfl) (fun _ _ _ h => h) (Or.inl ⟨by rfl, ?_⟩) (by with_reducible assumption) ?_
        · (intro w hSw; clear hSw; cases b2 <;> (go_simp); all_goals (try with_reducible rfl))
        (try simp only [List.getElem_toArray, List.getElem_cons_succ, List.getElem_cons_zero, Act.put, List.setIfInBounds_toArray, List.set_cons_zero, List.set_cons_succ])
        obtain ⟨b3, hb3⟩ : ∃ z_, z_ = (b2 || !c3) := ⟨_, rfl⟩
        rw [← hb3]
        have Hb3 := Lib.hid hb3
        clear hb3
        refine wpAnyH_done (by kernel_rfl) ?_ _
        refine NoPanic.normal ?_
        have HBF := Lib.hid (below_step HBA.out h1)
        clear hHeld h1
        cases b3
        · have hT : keyAt l kk = true := hYes Hb1.out Hb2.out Hb3.out
          go_wp2
          go_roundg (l.length - (kk + 1))
          case measure => omega
          case rel =>
            refine ⟨kk + 1, by omega, by omega, by go_num, HBF.out, (show Aside _ from fun j hj => ?_)⟩
            by_cases e : j = kk
            · subst e; exact hT
            · exact A1.out j (by omega)
        · have hF : keyAt l kk = false := hNo Hb1.out Hb2.out Hb3.out
          go_wp2
          go_ret
          exact ⟨by rw [keysOk_no hlt hF]; rfl, HBF.out⟩
    · have hltz : ¬ (kk : Int) < (l.length : Int) := by omega
      have hT := keysOk_yes h16 (fun k hk => A1.out k (by omega))
      go_wp2
      go_ret
      exact ⟨by first | rfl | (rw [hT]; rfl), BW.out⟩
/-- May targets metadata be? -/
def metaOk (v e : Int) (nr : Nat) (lg : ByteArray) (files : List S25) (keys : List S70) (delegs : List S53) : Bool :=
  (decide (1 ≤ v) && decide (v ≤ 1000000) && decide (0 ≤ e) && decide (e ≤ 1099511627776)) && (decide (nr = 0) && (lg.toList == [])) && filesOk files && keysOk keys && delegsOk delegs
end Go.Proofs.YtgcflmhlegagbaaGreatDoor.E
end
section
set_option linter.unusedVariables false
set_option linter.unusedSimpArgs false
namespace Go.Proofs.YtgcflmhlegagbaaGreatDoor.E
open Go.RowKit Go.Lib Go.Shelf Go.Proofs.YtgcflmhlegagbaaGreatDoorW.PrintWords Go.Proofs.YtgcflmhlegagbaaGreatDoorW.PrintLast Go.Proofs.YtgcflmhlegagbaaGreatDoorW.PrintMore
open X (S25 k25 z25 rd_T25 at_T25 S28 k28 z28 S53 k53 z53 rd_T53 at_T53 S46 S48 S70 k70 z70 rd_T70)
open S (mkB)
attribute [local irreducible] filesOk keysOk delegsOk
set_option maxHeartbeats 4000000 in
set_option maxRecDepth 100000 in
theorem mt_a (v ex : Int) (lg : ByteArray) (Ak Ar Af Ad : Option Addr) (nr cr ck cf cd : Nat) (keys : List S70) (files : List S25) (delegs : List S53) (w : World) (h1 : v < 1) :
    Calls Tryz.prog 16 #[.agg #[.int .i64 4, .int .i64 v, .int .i64 ex, .slice Ak keys.length ck, .slice Ar nr cr, .string lg, .slice Af files.length cf, .slice Ad delegs.length cd]] w fun e w' => e = .returned (.bool false) ∧ Below w.heap.size w w' := by
    have HB1 := Aside0.mk (below_alloc (Below.refl w.heap.size w) (.cells #[.int .i64 4, .int .i64 v, .int .i64 ex, .slice Ak keys.length ck, .slice Ar nr cr, .string lg, .slice Af files.length cf, .slice Ad delegs.length cd] 46))
    go_enter Tryz.func16, Tryz.ntmps16
    go_wp2_with (fail)
    all_goals (go_ret; exact ⟨by first | rfl | (simp; done), HB1.out⟩)
set_option maxHeartbeats 4000000 in
set_option maxRecDepth 100000 in
theorem mt_b (v ex : Int) (lg : ByteArray) (Ak Ar Af Ad : Option Addr) (nr cr ck cf cd : Nat) (keys : List S70) (files : List S25) (delegs : List S53) (w : World) (h1 : ¬ v < 1) (h2 : 1000000 < v) :
    Calls Tryz.prog 16 #[.agg #[.int .i64 4, .int .i64 v, .int .i64 ex, .slice Ak keys.length ck, .slice Ar nr cr, .string lg, .slice Af files.length cf, .slice Ad delegs.length cd]] w fun e w' => e = .returned (.bool false) ∧ Below w.heap.size w w' := by
    have HB1 := Aside0.mk (below_alloc (Below.refl w.heap.size w) (.cells #[.int .i64 4, .int .i64 v, .int .i64 ex, .slice Ak keys.length ck, .slice Ar nr cr, .string lg, .slice Af files.length cf, .slice Ad delegs.length cd] 46))
    go_enter Tryz.func16, Tryz.ntmps16
    go_wp2_with (fail)
    all_goals (go_ret; exact ⟨by first | rfl | (simp; done), HB1.out⟩)
set_option maxHeartbeats 4000000 in
set_option maxRecDepth 100000 in
theorem mt_c (v ex : Int) (lg : ByteArray) (Ak Ar Af Ad : Option Addr) (nr cr ck cf cd : Nat) (keys : List S70) (files : List S25) (delegs : List S53) (w : World) (h1 : ¬ v < 1) (h2 : ¬ 1000000 < v) (h3 : ex < 0) :
    Calls Tryz.prog 16 #[.agg #[.int .i64 4, .int .i64 v, .int .i64 ex, .slice Ak keys.length ck, .slice Ar nr cr, .string lg, .slice Af files.length cf, .slice Ad delegs.length cd]] w fun e w' => e = .returned (.bool false) ∧ Below w.heap.size w w' := by
    have HB1 := Aside0.mk (below_alloc (Below.refl w.heap.size w) (.cells #[.int .i64 4, .int .i64 v, .int .i64 ex, .slice Ak keys.length ck, .slice Ar nr cr, .string lg, .slice Af files.length cf, .slice Ad delegs.length cd] 46))
    go_enter Tryz.func16, Tryz.ntmps16
    go_wp2_with (fail)
    all_goals (go_ret; exact ⟨by first | rfl | (simp; done), HB1.out⟩)
set_option maxHeartbeats 4000000 in
set_option maxRecDepth 100000 in
theorem mt_d (v ex : Int) (lg : ByteArray) (Ak Ar Af Ad : Option Addr) (nr cr ck cf cd : Nat) (keys : List S70) (files : List S25) (delegs : List S53) (w : World) (h1 : ¬ v < 1) (h2 : ¬ 1000000 < v) (h3 : ¬ ex < 0) (h4 : 1099511627776 < ex) :
    Calls Tryz.prog 16 #[.agg #[.int .i64 4, .int .i64 v, .int .i64 ex, .slice Ak keys.length ck, .slice Ar nr cr, .string lg, .slice Af files.length cf, .slice Ad delegs.length cd]] w fun e w' => e = .returned (.bool false) ∧ Below w.heap.size w w' := by
    have HB1 := Aside0.mk (below_alloc (Below.refl w.heap.size w) (.cells #[.int .i64 4, .int .i64 v, .int .i64 ex, .slice Ak keys.length ck, .slice Ar nr cr, .string lg, .slice Af files.length cf, .slice Ad delegs.length cd] 46))
    go_enter Tryz.func16, Tryz.ntmps16
    go_wp2_with (fail)
    all_goals (go_ret; exact ⟨by first | rfl | (simp; done), HB1.out⟩)
set_option maxHeartbeats 4000000 in
set_option maxRecDepth 100000 in
theorem mt_e (v ex : Int) (lg : ByteArray) (Ak Ar Af Ad : Option Addr) (nr cr ck cf cd : Nat) (keys : List S70) (files : List S25) (delegs : List S53) (w : World) (h1 : ¬ v < 1) (h2 : ¬ 1000000 < v) (h3 : ¬ ex < 0) (h4 : ¬ 1099511627776 < ex) (h5 : ((nr : Int) == 0) = false) :
    Calls Tryz.prog 16 #[.agg #[.int .i64 4, .int .i64 v, .int .i64 ex, .slice Ak keys.length ck, .slice Ar nr cr, .string lg, .slice Af files.length cf, .slice Ad delegs.length cd]] w fun e w' => e = .returned (.bool false) ∧ Below w.heap.size w w' := by
    have HB1 := Aside0.mk (below_alloc (Below.refl w.heap.size w) (.cells #[.int .i64 4, .int .i64 v, .int .i64 ex, .slice Ak keys.length ck, .slice Ar nr cr, .string lg, .slice Af files.length cf, .slice Ad delegs.length cd] 46))
    rcases hk0 : ((keys.length : Int) == 0) <;> rcases hd0 : ((delegs.length : Int) == 0)
    all_goals
     go_enter Tryz.func16, Tryz.ntmps16
     go_wp2_with (fail)
     all_goals (go_ret; exact ⟨by first | rfl | (simp; done), HB1.out⟩)
set_option maxHeartbeats 4000000 in
set_option maxRecDepth 100000 in
theorem mt_f (v ex : Int) (lg : ByteArray) (Ak Ar Af Ad : Option Addr) (nr cr ck cf cd : Nat) (keys : List S70) (files : List S25) (delegs : List S53) (w : World) (h1 : ¬ v < 1) (h2 : ¬ 1000000 < v) (h3 : ¬ ex < 0) (h4 : ¬ 1099511627776 < ex) (h5 : ((nr : Int) == 0) = true) (h6 : (lg.toList == ([] : List UInt8)) = false) :
    Calls Tryz.prog 16 #[.agg #[.int .i64 4, .int .i64 v, .int .i64 ex, .slice Ak keys.length ck, .slice Ar nr cr, .string lg, .slice Af files.length cf, .slice Ad delegs.length cd]] w fun e w' => e = .returned (.bool false) ∧ Below w.heap.size w w' := by
    have HB1 := Aside0.mk (below_alloc (Below.refl w.heap.size w) (.cells #[.int .i64 4, .int .i64 v, .int .i64 ex, .slice Ak keys.length ck, .slice Ar nr cr, .string lg, .slice Af files.length cf, .slice Ad delegs.length cd] 46))
    rcases hk0 : ((keys.length : Int) == 0) <;> rcases hd0 : ((delegs.length : Int) == 0)
    all_goals
     go_enter Tryz.func16, Tryz.ntmps16
     go_wp2_with (fail)
     all_goals (go_ret; exact ⟨by first | rfl | (simp; done), HB1.out⟩)
set_option maxHeartbeats 4000000 in
set_option maxRecDepth 100000 in
theorem mt_g (v ex : Int) (lg : ByteArray) (Ak Ar Af Ad : Option Addr) (nr cr ck cf cd : Nat) (keys : List S70) (files : List S25) (delegs : List S53) (w : World) (h1 : ¬ v < 1) (h2 : ¬ 1000000 < v) (h3 : ¬ ex < 0) (h4 : ¬ 1099511627776 < ex) (h5 : ((nr : Int) == 0) = true) (h6 : (lg.toList == ([] : List UInt8)) = true) (ht : Tabs w) (hk : Kd.C k70 w Ak keys.length keys) (hck : keys.length ≤ ck) (hf : Kd.C k25 w Af files.length files) (hd : Kd.C k53 w Ad delegs.length delegs) (hcd : delegs.length ≤ cd) :
    Calls Tryz.prog 16 #[.agg #[.int .i64 4, .int .i64 v, .int .i64 ex, .slice Ak keys.length ck, .slice Ar nr cr, .string lg, .slice Af files.length cf, .slice Ad delegs.length cd]] w fun e w' => e = .returned (.bool (filesOk files && keysOk keys && delegsOk delegs)) ∧ Below w.heap.size w w' := by
    have HB1 := Aside0.mk (below_alloc (Below.refl w.heap.size w) (.cells #[.int .i64 4, .int .i64 v, .int .i64 ex, .slice Ak keys.length ck, .slice Ar nr cr, .string lg, .slice Af files.length cf, .slice Ad delegs.length cd] 46))
    have HF := Aside0.mk (files_any Af cf files (w.alloc (.cells #[.int .i64 4, .int .i64 v, .int .i64 ex, .slice Ak keys.length ck, .slice Ar nr cr, .string lg, .slice Af files.length cf, .slice Ad delegs.length cd] 46)) (Kd.C_below hf HB1.out))
    have HK := Aside0.mk (fun (W : World) (hb : Below w.heap.size w W) => keys_any Ak ck keys W (ht.below hb) (Kd.C_below hk hb) hck)
    have HD := Aside0.mk (fun (W : World) (hb : Below w.heap.size w W) => delegs_any Ad cd delegs W (ht.below hb) (Kd.C_below hd hb) hcd)
    have HQ3 := Aside0.mk (show (w.alloc (.cells #[.int .i64 4, .int .i64 v, .int .i64 ex, .slice Ak keys.length ck, .slice Ar nr cr, .string lg, .slice Af files.length cf, .slice Ad delegs.length cd] 46)).cell? ⟨w.heap.size, 3, none⟩ = some (.slice Ak keys.length ck) by simp)
    have HQ7 := Aside0.mk (show (w.alloc (.cells #[.int .i64 4, .int .i64 v, .int .i64 ex, .slice Ak keys.length ck, .slice Ar nr cr, .string lg, .slice Af files.length cf, .slice Ad delegs.length cd] 46)).cell? ⟨w.heap.size, 7, none⟩ = some (.slice Ad delegs.length cd) by simp)
    clear ht hk hf hd hck hcd
    generalize filesOk files = bf at *
    generalize keysOk keys = bk at *
    generalize delegsOk delegs = bd at *
    cases bf
    · rcases hk0 : ((keys.length : Int) == 0) <;> rcases hd0 : ((delegs.length : Int) == 0)
      all_goals
       go_enter Tryz.func16, Tryz.ntmps16
       go_wp2_with (first
         | (go_at_call 35; (with_reducible refine HF.out.mono ?_); rintro e w2 ⟨rfl, hb2⟩; have B2 := Aside0.mk (below_step HB1.out hb2); have m3 := (hb2.cell (World.block_lt_of_cell? _ _ HQ3.out)).trans HQ3.out; have m7 := (hb2.cell (World.block_lt_of_cell? _ _ HQ7.out)).trans HQ7.out))
       all_goals (go_ret; exact ⟨by first | rfl | (simp; done), B2.out⟩)
    cases bk
    · rcases hk0 : ((keys.length : Int) == 0) <;> rcases hd0 : ((delegs.length : Int) == 0)
      all_goals
       go_enter Tryz.func16, Tryz.ntmps16
       go_wp2_with (first
         | (go_at_call 35; (with_reducible refine HF.out.mono ?_); rintro e w2 ⟨rfl, hb2⟩; have B2 := Aside0.mk (below_step HB1.out hb2); have m3 := (hb2.cell (World.block_lt_of_cell? _ _ HQ3.out)).trans HQ3.out; have m7 := (hb2.cell (World.block_lt_of_cell? _ _ HQ7.out)).trans HQ7.out)
         | (go_at_call 31; (with_reducible refine (HK.out _ B2.out).mono ?_); rintro e w3 ⟨rfl, hb3⟩; have B3 := Aside0.mk (below_step B2.out hb3); have m7' := (hb3.cell (World.block_lt_of_cell? _ _ m7)).trans m7; clear m3 m7))
       all_goals (go_ret; exact ⟨by first | rfl | (simp; done), B3.out⟩)
    · rcases hk0 : ((keys.length : Int) == 0) <;> rcases hd0 : ((delegs.length : Int) == 0)
      all_goals
       go_enter Tryz.func16, Tryz.ntmps16
       go_wp2_with (first
         | (go_at_call 35; (with_reducible refine HF.out.mono ?_); rintro e w2 ⟨rfl, hb2⟩; have B2 := Aside0.mk (below_step HB1.out hb2); have m3 := (hb2.cell (World.block_lt_of_cell? _ _ HQ3.out)).trans HQ3.out; have m7 := (hb2.cell (World.block_lt_of_cell? _ _ HQ7.out)).trans HQ7.out)
         | (go_at_call 31; (with_reducible refine (HK.out _ B2.out).mono ?_); rintro e w3 ⟨rfl, hb3⟩; have B3 := Aside0.mk (below_step B2.out hb3); have m7' := (hb3.cell (World.block_lt_of_cell? _ _ m7)).trans m7; clear m3 m7)
         | (go_at_call 38; (with_reducible refine (HD.out _ B3.out).mono ?_); rintro e w4 ⟨rfl, hb4⟩; have B4 := Aside0.mk (below_step B3.out hb4)))
       all_goals (go_ret; exact ⟨by first | rfl | (simp; done), B4.out⟩)
theorem mt_any (v ex : Int) (lg : ByteArray) (Ak Ar Af Ad : Option Addr) (nr cr ck cf cd : Nat) (keys : List S70) (files : List S25) (delegs : List S53) (w : World) (ht : Tabs w) (hk : Kd.C k70 w Ak keys.length keys) (hck : keys.length ≤ ck) (hf : Kd.C k25 w Af files.length files) (hd : Kd.C k53 w Ad delegs.length delegs) (hcd : delegs.length ≤ cd) :
    Calls Tryz.prog 16 #[.agg #[.int .i64 4, .int .i64 v, .int .i64 ex, .slice Ak keys.length ck, .slice Ar nr cr, .string lg, .slice Af files.length cf, .slice Ad delegs.length cd]] w fun e w' => e = .returned (.bool (metaOk v ex nr lg files keys delegs)) ∧ Below w.heap.size w w' := by
  unfold metaOk
  by_cases h1 : v < 1
  · rw [show decide (1 ≤ v) = false from decide_eq_false (by omega)]; exact mt_a v ex lg Ak Ar Af Ad nr cr ck cf cd keys files delegs w h1
  by_cases h2 : 1000000 < v
  · rw [show decide (1 ≤ v) = true from decide_eq_true (by omega), show decide (v ≤ 1000000) = false from decide_eq_false (by omega)]; exact mt_b v ex lg Ak Ar Af Ad nr cr ck cf cd keys files delegs w h1 h2
  by_cases h3 : ex < 0
  · rw [show decide (1 ≤ v) = true from decide_eq_true (by omega), show decide (v ≤ 1000000) = true from decide_eq_true (by omega), show decide (0 ≤ ex) = false from decide_eq_false (by omega)]; exact mt_c v ex lg Ak Ar Af Ad nr cr ck cf cd keys files delegs w h1 h2 h3
  by_cases h4 : 1099511627776 < ex
  · rw [show decide (1 ≤ v) = true from decide_eq_true (by omega), show decide (v ≤ 1000000) = true from decide_eq_true (by omega), show decide (0 ≤ ex) = true from decide_eq_true (by omega), show decide (ex ≤ 1099511627776) = false from decide_eq_false (by omega)]; exact mt_d v ex lg Ak Ar Af Ad nr cr ck cf cd keys files delegs w h1 h2 h3 h4
  rw [show decide (1 ≤ v) = true from decide_eq_true (by omega), show decide (v ≤ 1000000) = true from decide_eq_true (by omega), show decide (0 ≤ ex) = true from decide_eq_true (by omega), show decide (ex ≤ 1099511627776) = true from decide_eq_true (by omega)]
  by_cases h5 : nr = 0
  · rw [decide_eq_true h5]
    cases h6 : (lg.toList == ([] : List UInt8)) with
    | false => exact mt_f v ex lg Ak Ar Af Ad nr cr ck cf cd keys files delegs w h1 h2 h3 h4 (beq_iff_eq.2 (by omega)) h6
    | true =>
      have h := mt_g v ex lg Ak Ar Af Ad nr cr ck cf cd keys files delegs w h1 h2 h3 h4 (beq_iff_eq.2 (by omega)) h6 ht hk hck hf hd hcd
      simpa using h
  · rw [decide_eq_false h5]; exact mt_e v ex lg Ak Ar Af Ad nr cr ck cf cd keys files delegs w h1 h2 h3 h4 (beq_eq_false_iff_ne.2 (by omega))
end Go.Proofs.YtgcflmhlegagbaaGreatDoor.E
end
section
set_option linter.unusedVariables false
set_option linter.unusedSimpArgs false
namespace Go.Proofs.YtgcflmhlegagbaaGreatDoor.E
open Go.RowKit Go.Lib Go.Shelf Go.Proofs.YtgcflmhlegagbaaGreatDoorW.PrintWords Go.Proofs.YtgcflmhlegagbaaGreatDoorW.PrintLast Go.Proofs.YtgcflmhlegagbaaGreatDoorW.PrintMore
open X (S25 S28 S48 S46 S70 S48 k48 z48 rd_T48 at_T48)
def htV (nm : ByteArray) (kd vr ex : Int) (A4 : Option Addr) (n4 c4 : Nat) (A5 : Option Addr) (n5 c5 : Nat) (lg : ByteArray) (A7 : Option Addr) (n7 c7 : Nat) (A8 : Option Addr) (n8 c8 : Nat) : Value := .agg #[.string nm, .int .i64 kd, .int .i64 vr, .int .i64 ex, .slice A4 n4 c4, .slice A5 n5 c5, .string lg, .slice A7 n7 c7, .slice A8 n8 c8]
/-- A test of one by its name alone. -/
def htTest (g : Nat) (lb : Array Value) (p : ByteArray → Bool) (w : World) : Prop :=
  ∀ (W : World) nm (kd vr ex : Int) A4 n4 c4 A5 n5 c5 (lg : ByteArray) A7 n7 c7 A8 n8 c8, Below w.heap.size w W → Calls Tryz.prog g (#[htV nm kd vr ex A4 n4 c4 A5 n5 c5 lg A7 n7 c7 A8 n8 c8] ++ lb) W fun e w' => e = .returned (.bool (p nm)) ∧ Below W.heap.size W w'
theorem take_anyH_false (p : S48 → Bool) (l : List S48) (k : Nat) (hk : k ≤ l.length) (h : ∀ j, j < k → p (l.getD j z48) = false) : (l.take k).any p = false := by
  rw [List.any_eq_false]
  intro x hx
  obtain ⟨j, hj, rfl⟩ := List.mem_iff_getElem.1 hx
  rw [List.length_take] at hj
  have := h j (by omega)
  rw [List.getD_eq_getElem?_getD, List.getElem?_eq_getElem (by omega)] at this
  rw [List.getElem_take]
  simpa using this
set_option maxHeartbeats 4000000 in
set_option maxRecDepth 100000 in
theorem htIndex (p : ByteArray → Bool) (g : Nat) (lb : Array Value) (eg : ∀ args w, (callFunc g args).run Tryz.prog w = .ok (.enter g args) w) (A : Option Addr) (c : Nat) (l : List S48) (w : World)
    (hp : htTest g lb p w) (hbig : l.length ≤ 1000) (hA : Kd.C k48 w A l.length l) :
    Calls Tryz.prog 56 #[.slice A l.length c, .func (.func g) #[] lb] w fun e w' => (∃ t : Int, e = .returned (.int .i64 t) ∧ decide (0 ≤ t) = l.any (fun x => p x.f0)) ∧ Below w.heap.size w w' := by
  go_enter Tryz.func56, Tryz.ntmps56
  go_wp2
  have HP := Aside0.mk hp
  have HA := Aside0.mk hA
  clear hp hA
  go_loopg [5, 8] l.length (fun gg _ s8 wr => ∃ kk : Nat, kk ≤ l.length ∧ l.length - kk ≤ gg ∧ s8 = .int .i64 kk ∧ Aside (Below w.heap.size w wr) ∧ Aside (∀ j, j < kk → p (l.getD j z48).f0 = false))
  case atStart => exact ⟨0, Nat.zero_le _, by omega, rfl, Below.refl _ w, fun j hj => absurd hj (Nat.not_lt_zero _)⟩
  case round =>
    obtain ⟨kk, hkk, hg, rfl, BW, A1⟩ := hrel
    by_cases hlt : kk < l.length
    · have hltz : (kk : Int) < (l.length : Int) := by omega
      obtain ⟨ad, a4, k4, a5, k5, a7, k7, a8, k8, rfl, c0, c1, c2, c3, c4, c5, c6, c7, c8, _⟩ := at_T48 HA.out (kk : Int) (by omega) (by omega)
      have er : rd_T48 l kk = l.getD kk z48 := by unfold rd_T48; rw [Int.toNat_natCast]
      rw [er, Int.toNat_natCast] at c0 c1 c2 c3 c4 c5 c6 c7 c8
      replace c0 := (BW.out.cell (World.block_lt_of_cell? w _ c0)).trans c0
      replace c1 := (BW.out.cell (World.block_lt_of_cell? w _ c1)).trans c1
      replace c2 := (BW.out.cell (World.block_lt_of_cell? w _ c2)).trans c2
      replace c3 := (BW.out.cell (World.block_lt_of_cell? w _ c3)).trans c3
      replace c4 := (BW.out.cell (World.block_lt_of_cell? w _ c4)).trans c4
      replace c5 := (BW.out.cell (World.block_lt_of_cell? w _ c5)).trans c5
      replace c6 := (BW.out.cell (World.block_lt_of_cell? w _ c6)).trans c6
      replace c7 := (BW.out.cell (World.block_lt_of_cell? w _ c7)).trans c7
      replace c8 := (BW.out.cell (World.block_lt_of_cell? w _ c8)).trans c8
      obtain ⟨x, hx⟩ : ∃ x, l.getD kk z48 = x := ⟨_, rfl⟩
      rw [hx] at c0 c1 c2 c3 c4 c5 c6 c7 c8
      have HX := Lib.hid hx
      have hc : Calls Tryz.prog g (#[htV x.f0 x.f1.f0 x.f1.f1 x.f1.f2 a4 x.f1.f3.length k4 a5 x.f1.f4.length k5 x.f1.f5 a7 x.f1.f6.length k7 a8 x.f1.f7.length k8] ++ lb) wr fun e w' => e = .returned (.bool (p x.f0)) ∧ Below w.heap.size w w' := (HP.out wr x.f0 x.f1.f0 x.f1.f1 x.f1.f2 a4 x.f1.f3.length k4 a5 x.f1.f4.length k5 x.f1.f5 a7 x.f1.f6.length k7 a8 x.f1.f7.length k8 BW.out).mono fun e w' ⟨h1, h2⟩ => ⟨h1, below_step BW.out h2⟩
      clear er hx
      unfold htV at hc
      cases hq : p x.f0 with
      | true =>
        rw [hq] at hc
        have hT : l.any (fun x => p x.f0) = true := List.any_eq_true.2 ⟨x, by rw [← HX.out, List.getD_eq_getElem?_getD, List.getElem?_eq_getElem hlt]; exact List.getElem_mem hlt, hq⟩
        go_wp2_with (go_at_fn g; refine hc.mono ?_; rintro e w' ⟨rfl, hb'⟩)
        go_ret
        exact ⟨⟨_, rfl, by first | omega | (rw [hT]; simp)⟩, hb'⟩
      | false =>
        rw [hq] at hc
        go_wp2_with (go_at_fn g; refine hc.mono ?_; rintro e w' ⟨rfl, hb'⟩)
        go_roundg (l.length - (kk + 1))
        case measure => omega
        case rel =>
          refine ⟨kk + 1, by omega, by omega, by go_num, hb', (show Aside _ from fun j hj => ?_)⟩
          by_cases e : j = kk
          · subst e
            rw [HX.out]; exact hq
          · exact A1.out j (by omega)
    · have hltz : ¬ (kk : Int) < (l.length : Int) := by omega
      have hF : l.any (fun x => p x.f0) = false := by
        have := take_anyH_false (fun x => p x.f0) l l.length (Nat.le_refl _) (fun j hj => A1.out j (by omega))
        rwa [List.take_length] at this
      go_wp2
      go_ret
      exact ⟨⟨_, rfl, by first | decide | (rw [hF]; rfl)⟩, BW.out⟩
set_option maxHeartbeats 2000000 in
theorem htContains (p : ByteArray → Bool) (g : Nat) (lb : Array Value) (eg : ∀ args w, (callFunc g args).run Tryz.prog w = .ok (.enter g args) w) (A : Option Addr) (c : Nat) (l : List S48) (w : World)
    (hp : htTest g lb p w) (hbig : l.length ≤ 1000) (hA : Kd.C k48 w A l.length l) :
    Calls Tryz.prog 27 #[.slice A l.length c, .func (.func g) #[] lb] w fun e w' => e = .returned (.bool (l.any (fun x => p x.f0))) ∧ Below w.heap.size w w' := by
  have H := htIndex p g lb eg A c l w hp hbig hA
  clear hp hA
  generalize l.any (fun x => p x.f0) = bb at H ⊢
  go_enter Tryz.func27, Tryz.ntmps27
  go_wp2_with (go_at_call 56; refine H.mono ?_; rintro e w' ⟨⟨k, rfl, hk⟩, hb'⟩)
  go_ret
  refine ⟨?_, hb'⟩
  rw [← hk]; rfl
set_option maxHeartbeats 2000000 in
/-- Has another one the same name? -/
theorem sameH_any (d : ByteArray) (B : Nat) (w : World) (hd : w.cell? ⟨B, 0, none⟩ = some (.string d)) : htTest 25 #[.pointer (some ⟨B, 0, none⟩)] (fun nm => nm.toList == d.toList) w := by
  intro W nm kd vr ex A4 n4 c4 A5 n5 c5 lg A7 n7 c7 A8 n8 c8 hb
  have hd' := (hb.cell (World.block_lt_of_cell? _ _ hd)).trans hd
  unfold htV
  show Calls Tryz.prog 25 #[.agg #[.string nm, .int .i64 kd, .int .i64 vr, .int .i64 ex, .slice A4 n4 c4, .slice A5 n5 c5, .string lg, .slice A7 n7 c7, .slice A8 n8 c8], .pointer (some ⟨B, 0, none⟩)] W _
  have hd2 := ((below_alloc (Below.refl W.heap.size W) (.cells #[.string nm, .int .i64 kd, .int .i64 vr, .int .i64 ex, .slice A4 n4 c4, .slice A5 n5 c5, .string lg, .slice A7 n7 c7, .slice A8 n8 c8] 48)).cell (World.block_lt_of_cell? _ _ hd')).trans hd'
  go_enter Tryz.func25, Tryz.ntmps25
  go_wp2
  go_ret
  exact ⟨rfl, below_alloc (Below.refl _ _) _⟩
end Go.Proofs.YtgcflmhlegagbaaGreatDoor.E
end
section
set_option linter.unusedVariables false
set_option linter.unusedSimpArgs false
namespace Go.Proofs.YtgcflmhlegagbaaGreatDoor.E
open Go.RowKit Go.Lib Go.Shelf Go.Proofs.YtgcflmhlegagbaaGreatDoorW.PrintWords Go.Proofs.YtgcflmhlegagbaaGreatDoorW.PrintLast Go.Proofs.YtgcflmhlegagbaaGreatDoorW.PrintMore
open X (S25 S28 S53 S46 S70 S48 k48 z48 rd_T48 at_T48 k70 k28 k25 k53)
def metaR (x : S48) : Bool := metaOk x.f1.f1 x.f1.f2 x.f1.f4.length x.f1.f5 x.f1.f6 x.f1.f3 x.f1.f7
/-- May one that is held be, at its place? -/
def heldAt (l : List S48) (k : Nat) (x : S48) : Bool := Nm.nameOk x.f0.data.toList && (x.f1.f0 == 4) && metaR x && !((l.take k).any (fun y => y.f0.toList == x.f0.toList))
def heldOk (l : List S48) : Bool := decide (l.length ≤ 32) && allK (heldAt l) z48 l
attribute [local irreducible] metaR Nm.nameOk allK
set_option maxHeartbeats 8000000 in
set_option maxRecDepth 100000 in
theorem Held_any (A : Option Addr) (c : Nat) (l : List S48) (w : World) (ht : Tabs w) (hA : Kd.C k48 w A l.length l) (hlc : l.length ≤ c) :
    Calls Tryz.prog 11 #[.slice A l.length c] w fun e w' => e = .returned (.bool (heldOk l)) ∧ Below w.heap.size w w' := by
  by_cases h32 : l.length ≤ 32
  · have er : heldOk l = allK (heldAt l) z48 l := by unfold heldOk; rw [decide_eq_true h32]; rfl
    rw [er]
    have hmf : ∀ (fn : Fn) (first cap : Array Value) (w : World), (Instr.makeFunc fn first cap).run Tryz.prog w = .ok (.func fn first cap) w := fun _ _ _ _ => rfl
    have hz : ¬ (32 : Int) < (l.length : Int) := by omega
    go_enter Tryz.func11, Tryz.ntmps11
    go_wp2
    have HA := Aside0.mk hA
    have HTT := Aside0.mk ht
    clear hA ht er
    go_loopg [11] l.length (fun gg s9 wr => ∃ kk : Nat, kk ≤ l.length ∧ l.length - kk ≤ gg ∧ s9 = .int .i64 kk ∧ Aside (Below w.heap.size w wr) ∧ Aside (∀ j, j < kk → heldAt l j (l.getD j z48) = true))
    case atStart => exact ⟨0, Nat.zero_le _, by omega, rfl, Below.refl _ w, fun j hj => absurd hj (Nat.not_lt_zero _)⟩
    case round =>
      obtain ⟨kk, hkk, hg, rfl, BW, A1⟩ := hrel
      by_cases hlt : kk < l.length
      · have hltz : (kk : Int) < (l.length : Int) := by omega
        have hk0 : (0 : Int) ≤ (kk : Int) := by omega
        have hkc : (kk : Int) ≤ (c : Int) := by omega
        obtain ⟨ad, a4, k4, a5, k5, a7, k7, a8, k8, rfl, c0, c1, c2, c3, c4, c5, c6, c7, c8, l4, g4, l5, g5, l7, g7, l8, g8⟩ := at_T48 HA.out (kk : Int) (by omega) (by omega)
        have er : rd_T48 l kk = l.getD kk z48 := by unfold rd_T48; rw [Int.toNat_natCast]
        obtain ⟨x, hx⟩ : ∃ x, l.getD kk z48 = x := ⟨_, rfl⟩
        rw [er, hx, Int.toNat_natCast] at c0 c1 c2 c3 c4 c5 c6 c7 c8
        rw [er, hx] at l4 g4 l5 g5 l7 g7 l8 g8
        replace c0 := (BW.out.cell (World.block_lt_of_cell? w _ c0)).trans c0
        replace c1 := (BW.out.cell (World.block_lt_of_cell? w _ c1)).trans c1
        replace c2 := (BW.out.cell (World.block_lt_of_cell? w _ c2)).trans c2
        replace c3 := (BW.out.cell (World.block_lt_of_cell? w _ c3)).trans c3
        replace c4 := (BW.out.cell (World.block_lt_of_cell? w _ c4)).trans c4
        replace c5 := (BW.out.cell (World.block_lt_of_cell? w _ c5)).trans c5
        replace c6 := (BW.out.cell (World.block_lt_of_cell? w _ c6)).trans c6
        replace c7 := (BW.out.cell (World.block_lt_of_cell? w _ c7)).trans c7
        replace c8 := (BW.out.cell (World.block_lt_of_cell? w _ c8)).trans c8
        have hbA : Below w.heap.size w (wr.alloc (.cells #[.string x.f0, .int .i64 x.f1.f0, .int .i64 x.f1.f1, .int .i64 x.f1.f2, .slice a4 x.f1.f3.length k4, .slice a5 x.f1.f4.length k5, .string x.f1.f5, .slice a7 x.f1.f6.length k7, .slice a8 x.f1.f7.length k8] 48)) := below_alloc BW.out _
        have HX := Lib.hid hx
        have hn := metaName_any x.f0 (wr.alloc (.cells #[.string x.f0, .int .i64 x.f1.f0, .int .i64 x.f1.f1, .int .i64 x.f1.f2, .slice a4 x.f1.f3.length k4, .slice a5 x.f1.f4.length k5, .string x.f1.f5, .slice a7 x.f1.f6.length k7, .slice a8 x.f1.f7.length k8] 48)) (HTT.out.below hbA)
        have hm := fun (W : World) (hb : Below w.heap.size w W) => mt_any x.f1.f1 x.f1.f2 x.f1.f5 a4 a5 a7 a8 x.f1.f4.length k5 k4 k7 k8 x.f1.f3 x.f1.f6 x.f1.f7 W (HTT.out.below hb) (Kd.C_below g4 hb) l4 (Kd.C_below g7 hb) (Kd.C_below g8 hb) l8
        have hs : ∀ W, Below w.heap.size w W → W.cell? ⟨wr.heap.size, 0, none⟩ = some (.string x.f0) → Calls Tryz.prog 27 #[.slice (some ad) kk c, .func (.func 25) #[] #[.pointer (some ⟨wr.heap.size, 0, none⟩)]] W fun e w' => e = .returned (.bool ((l.take kk).any (fun y => y.f0.toList == x.f0.toList))) ∧ Below W.heap.size W w' := by
          intro W hb f0
          have hln2 : (l.take kk).length = kk := by rw [List.length_take]; omega
          have h := htContains (fun nm' => nm'.toList == x.f0.toList) 25 #[.pointer (some ⟨wr.heap.size, 0, none⟩)] (fun a w => enters_of Tryz.func25 (by kernel_rfl) rfl a w) (some ad) c (l.take kk) W (sameH_any x.f0 wr.heap.size W f0) (by omega) (Kd.C_take (Kd.C_below HA.out hb) (by omega))
          rw [hln2] at h
          exact h
        have HQ0 := Aside0.mk (show (wr.alloc (.cells #[.string x.f0, .int .i64 x.f1.f0, .int .i64 x.f1.f1, .int .i64 x.f1.f2, .slice a4 x.f1.f3.length k4, .slice a5 x.f1.f4.length k5, .string x.f1.f5, .slice a7 x.f1.f6.length k7, .slice a8 x.f1.f7.length k8] 48)).cell? ⟨wr.heap.size, 0, none⟩ = some (.string x.f0) by simp)
        have HQ1 := Aside0.mk (show (wr.alloc (.cells #[.string x.f0, .int .i64 x.f1.f0, .int .i64 x.f1.f1, .int .i64 x.f1.f2, .slice a4 x.f1.f3.length k4, .slice a5 x.f1.f4.length k5, .string x.f1.f5, .slice a7 x.f1.f6.length k7, .slice a8 x.f1.f7.length k8] 48)).cell? ⟨wr.heap.size, 1, none⟩ = some (.int .i64 x.f1.f0) by simp)
        have HQ2 := Aside0.mk (show (wr.alloc (.cells #[.string x.f0, .int .i64 x.f1.f0, .int .i64 x.f1.f1, .int .i64 x.f1.f2, .slice a4 x.f1.f3.length k4, .slice a5 x.f1.f4.length k5, .string x.f1.f5, .slice a7 x.f1.f6.length k7, .slice a8 x.f1.f7.length k8] 48)).cell? ⟨wr.heap.size, 2, none⟩ = some (.int .i64 x.f1.f1) by simp)
        have HQ3 := Aside0.mk (show (wr.alloc (.cells #[.string x.f0, .int .i64 x.f1.f0, .int .i64 x.f1.f1, .int .i64 x.f1.f2, .slice a4 x.f1.f3.length k4, .slice a5 x.f1.f4.length k5, .string x.f1.f5, .slice a7 x.f1.f6.length k7, .slice a8 x.f1.f7.length k8] 48)).cell? ⟨wr.heap.size, 3, none⟩ = some (.int .i64 x.f1.f2) by simp)
        have HQ4 := Aside0.mk (show (wr.alloc (.cells #[.string x.f0, .int .i64 x.f1.f0, .int .i64 x.f1.f1, .int .i64 x.f1.f2, .slice a4 x.f1.f3.length k4, .slice a5 x.f1.f4.length k5, .string x.f1.f5, .slice a7 x.f1.f6.length k7, .slice a8 x.f1.f7.length k8] 48)).cell? ⟨wr.heap.size, 4, none⟩ = some (.slice a4 x.f1.f3.length k4) by simp)
        have HQ5 := Aside0.mk (show (wr.alloc (.cells #[.string x.f0, .int .i64 x.f1.f0, .int .i64 x.f1.f1, .int .i64 x.f1.f2, .slice a4 x.f1.f3.length k4, .slice a5 x.f1.f4.length k5, .string x.f1.f5, .slice a7 x.f1.f6.length k7, .slice a8 x.f1.f7.length k8] 48)).cell? ⟨wr.heap.size, 5, none⟩ = some (.slice a5 x.f1.f4.length k5) by simp)
        have HQ6 := Aside0.mk (show (wr.alloc (.cells #[.string x.f0, .int .i64 x.f1.f0, .int .i64 x.f1.f1, .int .i64 x.f1.f2, .slice a4 x.f1.f3.length k4, .slice a5 x.f1.f4.length k5, .string x.f1.f5, .slice a7 x.f1.f6.length k7, .slice a8 x.f1.f7.length k8] 48)).cell? ⟨wr.heap.size, 6, none⟩ = some (.string x.f1.f5) by simp)
        have HQ7 := Aside0.mk (show (wr.alloc (.cells #[.string x.f0, .int .i64 x.f1.f0, .int .i64 x.f1.f1, .int .i64 x.f1.f2, .slice a4 x.f1.f3.length k4, .slice a5 x.f1.f4.length k5, .string x.f1.f5, .slice a7 x.f1.f6.length k7, .slice a8 x.f1.f7.length k8] 48)).cell? ⟨wr.heap.size, 7, none⟩ = some (.slice a7 x.f1.f6.length k7) by simp)
        have HQ8 := Aside0.mk (show (wr.alloc (.cells #[.string x.f0, .int .i64 x.f1.f0, .int .i64 x.f1.f1, .int .i64 x.f1.f2, .slice a4 x.f1.f3.length k4, .slice a5 x.f1.f4.length k5, .string x.f1.f5, .slice a7 x.f1.f6.length k7, .slice a8 x.f1.f7.length k8] 48)).cell? ⟨wr.heap.size, 8, none⟩ = some (.slice a8 x.f1.f7.length k8) by simp)
        have eH : heldAt l kk x = (Nm.nameOk x.f0.data.toList && (x.f1.f0 == 4) && metaR x && !((l.take kk).any (fun y => y.f0.toList == x.f0.toList))) := rfl
        have eM : metaOk x.f1.f1 x.f1.f2 x.f1.f4.length x.f1.f5 x.f1.f6 x.f1.f3 x.f1.f7 = metaR x := by unfold metaR; rfl
        rw [eM] at hm
        have HBA := Aside0.mk hbA
        clear er hx hbA l4 g4 l5 g5 l7 g7 l8 g8 eM
        generalize metaR x = bm at *
        generalize Nm.nameOk x.f0.data.toList = bn at *
        generalize (l.take kk).any (fun y => y.f0.toList == x.f0.toList) = bs at *
        generalize hkd : x.f1.f0 = kd at *
        have HN := Aside0.mk hn
        clear hn hkd
        have key : ∀ b, heldAt l kk x = b → b = false → allK (heldAt l) z48 l = false := fun b h h2 => allK_false (heldAt l) z48 l kk hlt (by rw [HX.out, h, h2])
        cases bn
        · have hF := key _ eH rfl
          clear key eH hm hs
          go_wp2_with (first
            | (go_at_call 26; (with_reducible refine HN.out.mono ?_); rintro e w2 ⟨rfl, hb2⟩; have B2 := Aside0.mk (below_step HBA.out hb2); have m0 := (hb2.cell (World.block_lt_of_cell? _ _ HQ0.out)).trans HQ0.out; have m1 := (hb2.cell (World.block_lt_of_cell? _ _ HQ1.out)).trans HQ1.out; have m2 := (hb2.cell (World.block_lt_of_cell? _ _ HQ2.out)).trans HQ2.out; have m3 := (hb2.cell (World.block_lt_of_cell? _ _ HQ3.out)).trans HQ3.out; have m4 := (hb2.cell (World.block_lt_of_cell? _ _ HQ4.out)).trans HQ4.out; have m5 := (hb2.cell (World.block_lt_of_cell? _ _ HQ5.out)).trans HQ5.out; have m6 := (hb2.cell (World.block_lt_of_cell? _ _ HQ6.out)).trans HQ6.out; have m7 := (hb2.cell (World.block_lt_of_cell? _ _ HQ7.out)).trans HQ7.out; have m8 := (hb2.cell (World.block_lt_of_cell? _ _ HQ8.out)).trans HQ8.out))
          go_ret
          exact ⟨by first | rfl | (rw [hF]; rfl), B2.out⟩
        by_cases h4 : kd = 4
        · subst h4
          have HM := Aside0.mk hm
          have HS := Aside0.mk hs
          clear hm hs
          cases bm
          · have hF := key _ eH rfl
            clear key eH HS
            go_wp2_with (first
              | (go_at_call 26; (with_reducible refine HN.out.mono ?_); rintro e w2 ⟨rfl, hb2⟩; have B2 := Aside0.mk (below_step HBA.out hb2); have m0 := (hb2.cell (World.block_lt_of_cell? _ _ HQ0.out)).trans HQ0.out; have m1 := (hb2.cell (World.block_lt_of_cell? _ _ HQ1.out)).trans HQ1.out; have m2 := (hb2.cell (World.block_lt_of_cell? _ _ HQ2.out)).trans HQ2.out; have m3 := (hb2.cell (World.block_lt_of_cell? _ _ HQ3.out)).trans HQ3.out; have m4 := (hb2.cell (World.block_lt_of_cell? _ _ HQ4.out)).trans HQ4.out; have m5 := (hb2.cell (World.block_lt_of_cell? _ _ HQ5.out)).trans HQ5.out; have m6 := (hb2.cell (World.block_lt_of_cell? _ _ HQ6.out)).trans HQ6.out; have m7 := (hb2.cell (World.block_lt_of_cell? _ _ HQ7.out)).trans HQ7.out; have m8 := (hb2.cell (World.block_lt_of_cell? _ _ HQ8.out)).trans HQ8.out)
              | (go_at_call 16; (with_reducible refine (HM.out _ B2.out).mono ?_); rintro e w3 ⟨rfl, hb3⟩; have B3 := Aside0.mk (below_step B2.out hb3); have M0 := Aside0.mk ((hb3.cell (World.block_lt_of_cell? _ _ m0)).trans m0); clear m0 m1 m2 m3 m4 m5 m6 m7 m8))
            go_ret
            exact ⟨by first | rfl | (rw [hF]; rfl), B3.out⟩
          cases bs
          · have hT : heldAt l kk x = true := eH
            clear key eH
            go_wp2_with (first
              | (go_at_call 26; (with_reducible refine HN.out.mono ?_); rintro e w2 ⟨rfl, hb2⟩; have B2 := Aside0.mk (below_step HBA.out hb2); have m0 := (hb2.cell (World.block_lt_of_cell? _ _ HQ0.out)).trans HQ0.out; have m1 := (hb2.cell (World.block_lt_of_cell? _ _ HQ1.out)).trans HQ1.out; have m2 := (hb2.cell (World.block_lt_of_cell? _ _ HQ2.out)).trans HQ2.out; have m3 := (hb2.cell (World.block_lt_of_cell? _ _ HQ3.out)).trans HQ3.out; have m4 := (hb2.cell (World.block_lt_of_cell? _ _ HQ4.out)).trans HQ4.out; have m5 := (hb2.cell (World.block_lt_of_cell? _ _ HQ5.out)).trans HQ5.out; have m6 := (hb2.cell (World.block_lt_of_cell? _ _ HQ6.out)).trans HQ6.out; have m7 := (hb2.cell (World.block_lt_of_cell? _ _ HQ7.out)).trans HQ7.out; have m8 := (hb2.cell (World.block_lt_of_cell? _ _ HQ8.out)).trans HQ8.out)
              | (go_at_call 16; (with_reducible refine (HM.out _ B2.out).mono ?_); rintro e w3 ⟨rfl, hb3⟩; have B3 := Aside0.mk (below_step B2.out hb3); have M0 := Aside0.mk ((hb3.cell (World.block_lt_of_cell? _ _ m0)).trans m0); clear m0 m1 m2 m3 m4 m5 m6 m7 m8)
              | (go_at_call 27; (with_reducible refine (HS.out _ B3.out M0.out).mono ?_); rintro e w4 ⟨rfl, hb4⟩; have B4 := Aside0.mk (below_step B3.out hb4)))
            go_roundg (l.length - (kk + 1))
            case measure => omega
            case rel =>
              refine ⟨kk + 1, by omega, by omega, by go_num, B4.out, (show Aside _ from fun j hj => ?_)⟩
              by_cases e : j = kk
              · subst e; rw [HX.out]; exact hT
              · exact A1.out j (by omega)
          · have hF := key _ eH rfl
            clear key eH
            go_wp2_with (first
              | (go_at_call 26; (with_reducible refine HN.out.mono ?_); rintro e w2 ⟨rfl, hb2⟩; have B2 := Aside0.mk (below_step HBA.out hb2); have m0 := (hb2.cell (World.block_lt_of_cell? _ _ HQ0.out)).trans HQ0.out; have m1 := (hb2.cell (World.block_lt_of_cell? _ _ HQ1.out)).trans HQ1.out; have m2 := (hb2.cell (World.block_lt_of_cell? _ _ HQ2.out)).trans HQ2.out; have m3 := (hb2.cell (World.block_lt_of_cell? _ _ HQ3.out)).trans HQ3.out; have m4 := (hb2.cell (World.block_lt_of_cell? _ _ HQ4.out)).trans HQ4.out; have m5 := (hb2.cell (World.block_lt_of_cell? _ _ HQ5.out)).trans HQ5.out; have m6 := (hb2.cell (World.block_lt_of_cell? _ _ HQ6.out)).trans HQ6.out; have m7 := (hb2.cell (World.block_lt_of_cell? _ _ HQ7.out)).trans HQ7.out; have m8 := (hb2.cell (World.block_lt_of_cell? _ _ HQ8.out)).trans HQ8.out)
              | (go_at_call 16; (with_reducible refine (HM.out _ B2.out).mono ?_); rintro e w3 ⟨rfl, hb3⟩; have B3 := Aside0.mk (below_step B2.out hb3); have M0 := Aside0.mk ((hb3.cell (World.block_lt_of_cell? _ _ m0)).trans m0); clear m0 m1 m2 m3 m4 m5 m6 m7 m8)
              | (go_at_call 27; (with_reducible refine (HS.out _ B3.out M0.out).mono ?_); rintro e w4 ⟨rfl, hb4⟩; have B4 := Aside0.mk (below_step B3.out hb4)))
            go_ret
            exact ⟨by first | rfl | (rw [hF]; rfl), B4.out⟩
        · have e4 : (kd == (4 : Int)) = false := beq_eq_false_iff_ne.2 h4
          have hF := key _ eH (by rw [e4]; rfl)
          clear key eH hm hs
          go_wp2_with (first
            | (go_at_call 26; (with_reducible refine HN.out.mono ?_); rintro e w2 ⟨rfl, hb2⟩; have B2 := Aside0.mk (below_step HBA.out hb2); have m0 := (hb2.cell (World.block_lt_of_cell? _ _ HQ0.out)).trans HQ0.out; have m1 := (hb2.cell (World.block_lt_of_cell? _ _ HQ1.out)).trans HQ1.out; have m2 := (hb2.cell (World.block_lt_of_cell? _ _ HQ2.out)).trans HQ2.out; have m3 := (hb2.cell (World.block_lt_of_cell? _ _ HQ3.out)).trans HQ3.out; have m4 := (hb2.cell (World.block_lt_of_cell? _ _ HQ4.out)).trans HQ4.out; have m5 := (hb2.cell (World.block_lt_of_cell? _ _ HQ5.out)).trans HQ5.out; have m6 := (hb2.cell (World.block_lt_of_cell? _ _ HQ6.out)).trans HQ6.out; have m7 := (hb2.cell (World.block_lt_of_cell? _ _ HQ7.out)).trans HQ7.out; have m8 := (hb2.cell (World.block_lt_of_cell? _ _ HQ8.out)).trans HQ8.out))
          go_ret
          exact ⟨by first | rfl | (rw [hF]; rfl), B2.out⟩
      · have hltz : ¬ (kk : Int) < (l.length : Int) := by omega
        have hT : allK (heldAt l) z48 l = true := allK_true (heldAt l) z48 l (fun k hk => A1.out k (by omega))
        go_wp2
        go_ret
        exact ⟨by first | rfl | (rw [hT]; rfl), BW.out⟩
  · have er : heldOk l = false := by unfold heldOk; rw [decide_eq_false h32]; rfl
    have hz : (32 : Int) < (l.length : Int) := by omega
    rw [er]
    clear hA ht er
    go_enter Tryz.func11, Tryz.ntmps11
    go_wp2
    go_ret
    exact ⟨rfl, Below.refl _ _⟩
end Go.Proofs.YtgcflmhlegagbaaGreatDoor.E
end
