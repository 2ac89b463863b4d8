/- name.Parse of a text whose first part is "meta" or "data". -/
import Derived.Test.YtmgkgjacnbeboaaDoorHx
import Derived.Deep.RegionHeld3
set_option linter.unusedVariables false
set_option linter.unusedSimpArgs false
namespace Go.Proofs.YtmgkgjacnbeboaaDoor.E
open Go.RowKit Go.Lib Go.Shelf Go.Proofs.YtmgkgjacnbeboaaDoorW.PrintWords Go.Proofs.YtmgkgjacnbeboaaDoorW.PrintLast Go.Proofs.YtmgkgjacnbeboaaDoorW.PrintMore
open S (mkB)
attribute [local irreducible] Nm.nameOk Nm.within Lib.itoa Lib.mapD Lib.join S.hexs Nm.kd KD Nm.metaN Nm.dataN Nm.logN Nm.nmS G.split Nm.numR S.unhex
theorem rname_b (s : ByteArray) (W : World) (hs : s.size ≤ 1000) : Calls Tryd.prog 10 #[.string s] W fun e w' => e = .returned (.bool (Nm.nameOk s.data.toList)) ∧ Below W.heap.size W w' :=
  (rname_c s W hs).mono fun e w' ⟨he, hd⟩ => ⟨he, hd.below⟩
theorem Pst.put2 {w : World} {g2 g5 B : Nat} {xs : List ByteArray} {c2 c5 : Array Value} {W : World} (h : Pst w g2 g5 B xs c2 c5 W) (j : Nat) (v : Value) : Pst w g2 g5 B xs (c2.setIfInBounds j v) c5 (W.setCell ⟨g2, j, none⟩ v) :=
  ⟨below_set h.hb h.l2, blk_put h.h2 j v rfl, blk_far h.h5 h.n25.symm v, ⟨fun i x hx => by
      have e := Below.heap_setCell W ⟨g2, j, none⟩ v B h.n2B
      have := h.hr.at_ i x hx
      simpa [World.cell?, e] using this, by
      have := h.hr.lt
      have e := Below.heap_setCell W ⟨g2, j, none⟩ v B h.n2B
      exact lt_of_at (e.trans (Array.getElem?_eq_getElem this))⟩, h.l2, h.l5, h.n25, h.n2B, h.n5B⟩
def PsE (w : World) (g2 g5 B : Nat) (xs : List ByteArray) (W : World) : Prop := ∃ c2 c5, Pst w g2 g5 B xs c2 c5 W
theorem PsE.of {w : World} {g2 g5 B : Nat} {xs : List ByteArray} {c2 c5 : Array Value} {W : World} (h : Pst w g2 g5 B xs c2 c5 W) : PsE w g2 g5 B xs W := ⟨_, _, h⟩
theorem PsE.put {w : World} {g2 g5 B : Nat} {xs : List ByteArray} {W : World} (h : PsE w g2 g5 B xs W) (j : Nat) (v : Value) : PsE w g2 g5 B xs (W.setCell ⟨g2, j, none⟩ v) := by
  obtain ⟨c2, c5, h⟩ := h
  exact ⟨_, _, h.put2 j v⟩
theorem rs3 {w : World} {g2 g5 B : Nat} {xs : List ByteArray} {r1 r2 : ByteArray} {W : World} (hx1 : xs[1]? = some r1) (hx2 : xs[2]? = some r2) (h : PsE w g2 g5 B xs W) :
    W.cell? ⟨B, 1, none⟩ = some (.string r1) ∧ W.cell? ⟨B, 2, none⟩ = some (.string r2) ∧ PsE w g2 g5 B xs W := by
  obtain ⟨c2, c5, hp⟩ := h
  exact ⟨hp.hr.at_ 1 _ hx1, hp.hr.at_ 2 _ hx2, ⟨c2, c5, hp⟩⟩
attribute [local irreducible] PsE
set_option maxHeartbeats 8000000 in
set_option maxRecDepth 100000 in
theorem RParse_meta (s : ByteArray) (w : World) (hs : s.size ≤ 1000) (ht : Tabs w) (hn3 : (D.splitS s).length = 3) (h0 : ((D.splitS s).getD 0 ⟨#[]⟩).data.toList = Nm.META) :
    Calls Tryd.prog 14 #[.string s] w (RParsed w ((1, ((D.splitS s).getD 1 ⟨#[]⟩).data.toList, [], Nm.numR ((D.splitS s).getD 2 ⟨#[]⟩).data.toList, 0), Nm.nameOk ((D.splitS s).getD 1 ⟨#[]⟩).data.toList && decide (0 ≤ Nm.numR ((D.splitS s).getD 2 ⟨#[]⟩).data.toList))) := by
  have hSp := fun W => rsplit_c s W hs
  have hx0 : (D.splitS s)[0]? = some (⟨#[109, 101, 116, 97]⟩ : ByteArray) := litAt _ 0 _ (by omega) h0
  have hx1 : (D.splitS s)[1]? = some ((D.splitS s).getD 1 ⟨#[]⟩) := by simp [hn3]
  have hx2 : (D.splitS s)[2]? = some ((D.splitS s).getD 2 ⟨#[]⟩) := by simp [hn3]
  have hN := fun W hw => rnum_c ((D.splitS s).getD 2 ⟨#[]⟩) W (rpart_size s 2 hs) hw
  have hM := fun W => rname_b ((D.splitS s).getD 1 ⟨#[]⟩) W (rpart_size s 1 hs)
  rw [hn3] at hSp
  unfold RParsed
  clear h0 hn3 hs
  generalize (D.splitS s).getD 2 ⟨#[]⟩ = r2 at *
  generalize (D.splitS s).getD 1 ⟨#[]⟩ = r1 at *
  generalize Nm.numR r2.data.toList = v at *
  generalize Nm.nameOk r1.data.toList = ok at *
  rw [show asksV ((1, r1.data.toList, [], v, 0), ok && decide (0 ≤ v)).1 = .agg #[.int .i64 1, .string r1, .string ⟨#[]⟩, .int .i64 v, .int .i64 0] by simp only [asksV]; rw [S.mkB_data]; rfl]
  generalize D.splitS s = xs at *
  have HT := Aside0.mk ht
  have HN_ := Aside0.mk hN
  clear ht hN
  cases ok with
  | false =>
    rw [Bool.false_and]
    have HM_ := Aside0.mk hM
    clear hM
    go_enter Tryd.func14, Tryd.ntmps14
    go_upto_region 4 with (first
      | ((with_reducible refine gate_dst (N := 2) rfl ?_); refine box_event ?hg (N := 2) ?hd (cs := #[.int .i64 0, .string ⟨#[]⟩, .string ⟨#[]⟩, .int .i64 0, .int .i64 0]) (t := 30) ?hr ?_; (case hd => rfl); (case hg => rfl); (case hr => first | (go_simp; done) | (go_simp; rfl)); intro g2 eg2 Wg2 hxg2 hbg2; have b2 := Aside0.mk (show St2 w g2 _ Wg2 from ⟨hbg2, hxg2, by omega⟩); clear hbg2 hxg2 eg2)
      | (go_at_call 26; (with_reducible refine (hSp _).mono ?_); clear hSp; rintro e w1 ⟨B, cap, hB, rfl, hrow, hb_⟩; have b3 := Aside0.mk (b2.out.row2 hB hrow hb_); clear b2 hB hrow hb_)
      | ((with_reducible refine gate_dst (N := 5) rfl ?_); refine box_event ?hg (N := 5) ?hd (cs := #[.int .i64 0, .string ⟨#[]⟩, .string ⟨#[]⟩, .int .i64 0, .int .i64 0]) (t := 30) ?hr ?_; (case hd => rfl); (case hg => rfl); (case hr => first | (go_simp; done) | (go_simp; rfl)); intro g5 eg5 Wg5 hxg5 hbg5; have HP := Aside0.mk (b3.out.box hxg5 hbg5 eg5); clear b3 hxg5 hbg5 eg5)
      | ((with_reducible refine gate_store (t := 30) (p := 5) (v := .tmp 11) rfl ?_); refine store30 rfl _ _ rfl g5 _ _ _ _ _ rfl rfl HP.out.h5 ?_; intro WS hWS; have n0_ := Aside0.mk (hWS ▸ HP.out.set5 #[.int .i64 0, .string ⟨#[]⟩, .string ⟨#[]⟩, .int .i64 0, .int .i64 0]); clear HP hWS; have HP := n0_; clear n0_; have hc0 := HP.out.hr.at_ 0 _ hx0; have hc1 := HP.out.hr.at_ 1 _ hx1; have hc2 := HP.out.hr.at_ 2 _ hx2))
    clear hc0 hc1 hc2
    have hS0 := rs3 hx1 hx2 (PsE.of HP.out.drew2)
    refine wp_region_noPanic ?_
    refine wp_region_held_drew (S := (fun W_ => W_.cell? ⟨B, 1, none⟩ = some (.string r1) ∧ W_.cell? ⟨B, 2, none⟩ = some (.string r2) ∧ PsE w g2 g5 B xs W_)) (by kernel_rfl) hS0 (fun hHeld => ?_)
    refine wpAnyH_take (i := 0) (v := ?_) rfl (by kernel_rfl) (by kernel_rfl) (by kernel_rfl) (fun _ _ _ h => h) (Or.inl ⟨by rfl, ?_⟩) (by with_reducible assumption) ?_
    rotate_left
    · (intro w hSw; (try dsimp only at hSw); go_simp); all_goals with_reducible rfl
    (try simp only [List.getElem_toArray, List.getElem_cons_succ, List.getElem_cons_zero, Act.put, List.setIfInBounds_toArray, List.set_cons_zero, List.set_cons_succ])
    refine wpAnyH_take (i := 1) (v := ?_) rfl (by kernel_rfl) (by kernel_rfl) (by kernel_rfl) (fun _ _ _ h => h) (Or.inl ⟨by rfl, ?_⟩) (by with_reducible assumption) ?_
    rotate_left
    · (intro w hSw; (try dsimp only at hSw); go_simp); all_goals with_reducible rfl
    (try simp only [List.getElem_toArray, List.getElem_cons_succ, List.getElem_cons_zero, Act.put, List.setIfInBounds_toArray, List.set_cons_zero, List.set_cons_succ])
    refine wpAnyH_take (i := 2) (v := ?_) rfl (by kernel_rfl) (by kernel_rfl) (by kernel_rfl) (fun _ _ _ h => h) (Or.inl ⟨by rfl, ?_⟩) (by with_reducible assumption) ?_
    rotate_left
    · (intro w hSw; (try dsimp only at hSw); go_simp); all_goals with_reducible rfl
    (try simp only [List.getElem_toArray, List.getElem_cons_succ, List.getElem_cons_zero, Act.put, List.setIfInBounds_toArray, List.set_cons_zero, List.set_cons_succ])
    refine wpAnyH_take (i := 3) (v := ?_) rfl (by kernel_rfl) (by kernel_rfl) (by kernel_rfl) (fun _ _ _ h => h) (Or.inl ⟨by rfl, ?_⟩) (by with_reducible assumption) ?_
    rotate_left
    · (intro w hSw; (try dsimp only at hSw); go_simp); all_goals with_reducible rfl
    (try simp only [List.getElem_toArray, List.getElem_cons_succ, List.getElem_cons_zero, Act.put, List.setIfInBounds_toArray, List.set_cons_zero, List.set_cons_succ])
    refine wpAnyH_take (i := 4) (v := ?_) rfl (by kernel_rfl) (by kernel_rfl) (by kernel_rfl) (fun _ _ _ h => h) (Or.inl ⟨by rfl, ?_⟩) (by with_reducible assumption) ?_
    rotate_left
    · (intro w hSw; (try dsimp only at hSw); go_simp); all_goals with_reducible rfl
    (try simp only [List.getElem_toArray, List.getElem_cons_succ, List.getElem_cons_zero, Act.put, List.setIfInBounds_toArray, List.set_cons_zero, List.set_cons_succ])
    refine wpAnyH_take (i := 5) (v := ?_) rfl (by kernel_rfl) (by kernel_rfl) (by kernel_rfl) (fun _ _ _ h => h) (Or.inl ⟨by rfl, ?_⟩) (by with_reducible assumption) ?_
    rotate_left
    · (intro w hSw; (try dsimp only at hSw); go_simp); all_goals with_reducible rfl
    (try simp only [List.getElem_toArray, List.getElem_cons_succ, List.getElem_cons_zero, Act.put, List.setIfInBounds_toArray, List.set_cons_zero, List.set_cons_succ])
    refine wpAnyH_take (i := 8) (v := ?_) rfl (by kernel_rfl) (by kernel_rfl) (by kernel_rfl) (fun _ _ _ h => h) (Or.inl ⟨by rfl, ?_⟩) (by with_reducible assumption) ?_
    rotate_left
    · (intro w hSw; (try dsimp only at hSw); go_simp); all_goals with_reducible rfl
    (try simp only [List.getElem_toArray, List.getElem_cons_succ, List.getElem_cons_zero, Act.put, List.setIfInBounds_toArray, List.set_cons_zero, List.set_cons_succ])
    refine wpAnyH_take (i := 9) (v := ?_) rfl (by kernel_rfl) (by kernel_rfl) (by kernel_rfl) (fun _ _ _ h => h) (Or.inl ⟨by rfl, ?_⟩) (by with_reducible assumption) ?_
    rotate_left
    · (intro w hSw; (try dsimp only at hSw); go_simp); all_goals with_reducible rfl
    (try simp only [List.getElem_toArray, List.getElem_cons_succ, List.getElem_cons_zero, Act.put, List.setIfInBounds_toArray, List.set_cons_zero, List.set_cons_succ])
    refine wpAnyH_take (i := 10) (v := ?_) rfl (by kernel_rfl) (by kernel_rfl) (by kernel_rfl) (fun _ _ _ h => h) (Or.inl ⟨by rfl, ?_⟩) (by with_reducible assumption) ?_
    rotate_left
    · (intro w hSw; (try dsimp only at hSw); go_simp); all_goals with_reducible rfl
    (try simp only [List.getElem_toArray, List.getElem_cons_succ, List.getElem_cons_zero, Act.put, List.setIfInBounds_toArray, List.set_cons_zero, List.set_cons_succ])
    refine wpAnyH_ready (rs := [6]) (by kernel_rfl) (by simp) (AllReadyH.cons rfl (fun K hK => ?_) AllReadyH.nil)
    go_simp
    (go_at_call 27; refine (HN_.out _ (HT.out.below (Pst.hb (c2 := #[.int .i64 0, .string ⟨#[]⟩, .string ⟨#[]⟩, .int .i64 0, .int .i64 0]) (c5 := #[.int .i64 0, .string ⟨#[]⟩, .string ⟨#[]⟩, .int .i64 0, .int .i64 0]) (by first | with_reducible assumption | exact HP.out.drew2)))).mono ?_; rintro e w' ⟨rfl, hb_⟩; have n0_ : Pst w g2 g5 B xs #[.int .i64 0, .string ⟨#[]⟩, .string ⟨#[]⟩, .int .i64 0, .int .i64 0] #[.int .i64 0, .string ⟨#[]⟩, .string ⟨#[]⟩, .int .i64 0, .int .i64 0] w' := Pst.step (by first | with_reducible assumption | exact HP.out.drew2) hb_; clear hb_; (try clear ka0 kb0 ka1 kb1 ka2 kb2 ka3 kb3 ka4 kb4); (try clear hP); have hP := n0_; clear n0_; have ka0 := hP.cell2 0 _ rfl; have kb0 := blk_frozen hP.h2 0; have ka1 := hP.cell2 1 _ rfl; have kb1 := blk_frozen hP.h2 1; have ka2 := hP.cell2 2 _ rfl; have kb2 := blk_frozen hP.h2 2; have ka3 := hP.cell2 3 _ rfl; have kb3 := blk_frozen hP.h2 3; have ka4 := hP.cell2 4 _ rfl; have kb4 := blk_frozen hP.h2 4)
    refine hK.out _ _ ?_ (fun hHeld => ?_)
    · (try dsimp only); all_goals (first | with_reducible assumption | (with_reducible exact rs3 hx1 hx2 (PsE.of (by with_reducible assumption))) | (with_reducible exact rs3 hx1 hx2 (PsE.put (PsE.put (PsE.put (PsE.put (PsE.put (PsE.of (by with_reducible assumption)) _ _) _ _) _ _) _ _) _ _)))
    clear hK K
    (try simp only [List.getElem_toArray, List.getElem_cons_succ, List.getElem_cons_zero, Act.put, List.setIfInBounds_toArray, List.set_cons_zero, List.set_cons_succ])
    refine wpAnyH_take (i := 7) (v := ?_) rfl (by kernel_rfl) (by kernel_rfl) (by kernel_rfl) (fun _ _ _ h => h) (Or.inl ⟨by rfl, ?_⟩) (by with_reducible assumption) ?_
    rotate_left
    · (intro w hSw; (try dsimp only at hSw); go_simp); all_goals with_reducible rfl
    (try simp only [List.getElem_toArray, List.getElem_cons_succ, List.getElem_cons_zero, Act.put, List.setIfInBounds_toArray, List.set_cons_zero, List.set_cons_succ])
    refine wpAnyH_ready (rs := [11]) (by kernel_rfl) (by simp) (AllReadyH.cons rfl (fun K hK => ?_) AllReadyH.nil)
    go_simp
    (go_at_call 10; refine (HM_.out _).mono ?_; rintro e w' ⟨rfl, hb_⟩; have n0_ : Pst w g2 g5 B xs #[.int .i64 0, .string ⟨#[]⟩, .string ⟨#[]⟩, .int .i64 0, .int .i64 0] #[.int .i64 0, .string ⟨#[]⟩, .string ⟨#[]⟩, .int .i64 0, .int .i64 0] w' := Pst.step (by first | with_reducible assumption | exact HP.out.drew2) hb_; clear hb_; (try clear ka0 kb0 ka1 kb1 ka2 kb2 ka3 kb3 ka4 kb4); (try clear hP); have hP := n0_; clear n0_; have ka0 := hP.cell2 0 _ rfl; have kb0 := blk_frozen hP.h2 0; have ka1 := hP.cell2 1 _ rfl; have kb1 := blk_frozen hP.h2 1; have ka2 := hP.cell2 2 _ rfl; have kb2 := blk_frozen hP.h2 2; have ka3 := hP.cell2 3 _ rfl; have kb3 := blk_frozen hP.h2 3; have ka4 := hP.cell2 4 _ rfl; have kb4 := blk_frozen hP.h2 4)
    refine hK.out _ _ ?_ (fun hHeld => ?_)
    · (try dsimp only); all_goals (first | with_reducible assumption | (with_reducible exact rs3 hx1 hx2 (PsE.of (by with_reducible assumption))) | (with_reducible exact rs3 hx1 hx2 (PsE.put (PsE.put (PsE.put (PsE.put (PsE.put (PsE.of (by with_reducible assumption)) _ _) _ _) _ _) _ _) _ _)))
    clear hK K
    (try simp only [List.getElem_toArray, List.getElem_cons_succ, List.getElem_cons_zero, Act.put, List.setIfInBounds_toArray, List.set_cons_zero, List.set_cons_succ])
    refine wpAnyH_take (i := 12) (v := ?_) rfl (by kernel_rfl) (by kernel_rfl) (by kernel_rfl) (fun _ _ _ h => h) (Or.inl ⟨by rfl, ?_⟩) (by with_reducible assumption) ?_
    rotate_left
    · (intro w hSw; (try dsimp only at hSw); go_simp); all_goals with_reducible rfl
    (try simp only [List.getElem_toArray, List.getElem_cons_succ, List.getElem_cons_zero, Act.put, List.setIfInBounds_toArray, List.set_cons_zero, List.set_cons_succ])
    refine wpAnyH_take (i := 13) (v := undef) rfl (by kernel_rfl) (by kernel_rfl) (by kernel_rfl) (fun _ _ _ h => h) (Or.inr ⟨by rfl, rfl⟩) (by with_reducible assumption) ?_
    (try simp only [List.getElem_toArray, List.getElem_cons_succ, List.getElem_cons_zero, Act.put, List.setIfInBounds_toArray, List.set_cons_zero, List.set_cons_succ])
    refine wpAnyH_take (i := 14) (v := undef) rfl (by kernel_rfl) (by kernel_rfl) (by kernel_rfl) (fun _ _ _ h => h) (Or.inr ⟨by rfl, rfl⟩) (by with_reducible assumption) ?_
    (try simp only [List.getElem_toArray, List.getElem_cons_succ, List.getElem_cons_zero, Act.put, List.setIfInBounds_toArray, List.set_cons_zero, List.set_cons_succ])
    refine wpAnyH_take (i := 15) (v := undef) rfl (by kernel_rfl) (by kernel_rfl) (by kernel_rfl) (fun _ _ _ h => h) (Or.inr ⟨by rfl, rfl⟩) (by with_reducible assumption) ?_
    (try simp only [List.getElem_toArray, List.getElem_cons_succ, List.getElem_cons_zero, Act.put, List.setIfInBounds_toArray, List.set_cons_zero, List.set_cons_succ])
    refine wpAnyH_take (i := 16) (v := undef) rfl (by kernel_rfl) (by kernel_rfl) (by kernel_rfl) (fun _ _ _ h => h) (Or.inr ⟨by rfl, rfl⟩) (by with_reducible assumption) ?_
    (try simp only [List.getElem_toArray, List.getElem_cons_succ, List.getElem_cons_zero, Act.put, List.setIfInBounds_toArray, List.set_cons_zero, List.set_cons_succ])
    refine wpAnyH_take (i := 17) (v := undef) rfl (by kernel_rfl) (by kernel_rfl) (by kernel_rfl) (fun _ _ _ h => h) (Or.inr ⟨by rfl, rfl⟩) (by with_reducible assumption) ?_
    (try simp only [List.getElem_toArray, List.getElem_cons_succ, List.getElem_cons_zero, Act.put, List.setIfInBounds_toArray, List.set_cons_zero, List.set_cons_succ])
    refine wpAnyH_take (i := 18) (v := ?_) rfl (by kernel_rfl) (by kernel_rfl) (by kernel_rfl) (fun _ _ _ h => h) (Or.inl ⟨by rfl, ?_⟩) (by with_reducible assumption) ?_
    rotate_left
    · (intro w hSw; (try dsimp only at hSw); go_simp); all_goals with_reducible rfl
    (try simp only [List.getElem_toArray, List.getElem_cons_succ, List.getElem_cons_zero, Act.put, List.setIfInBounds_toArray, List.set_cons_zero, List.set_cons_succ])
    refine wpAnyH_ready (rs := [19]) (by kernel_rfl) (by simp) (AllReadyH.cons rfl (fun K hK => ?_) AllReadyH.nil)
    go_simp
    refine hK.out _ _ ?_ (fun hHeld => ?_)
    · (try dsimp only); all_goals (first | with_reducible assumption | (with_reducible exact rs3 hx1 hx2 (PsE.of (by with_reducible assumption))) | (with_reducible exact rs3 hx1 hx2 (PsE.put (PsE.put (PsE.put (PsE.put (PsE.put (PsE.of (by with_reducible assumption)) _ _) _ _) _ _) _ _) _ _)))
    clear hK K
    (try simp only [List.getElem_toArray, List.getElem_cons_succ, List.getElem_cons_zero, Act.put, List.setIfInBounds_toArray, List.set_cons_zero, List.set_cons_succ])
    refine wpAnyH_take (i := 20) (v := ?_) rfl (by kernel_rfl) (by kernel_rfl) (by kernel_rfl) (fun _ _ _ h => h) (Or.inl ⟨by rfl, ?_⟩) (by with_reducible assumption) ?_
    rotate_left
    · (intro w hSw; (try dsimp only at hSw); go_simp); all_goals with_reducible rfl
    (try simp only [List.getElem_toArray, List.getElem_cons_succ, List.getElem_cons_zero, Act.put, List.setIfInBounds_toArray, List.set_cons_zero, List.set_cons_succ])
    refine wpAnyH_done (by kernel_rfl) ?_ _
    refine NoPanic.normal ?_
    all_goals
      go_wp2
      refine bodyPost_ret (ret30 rfl _ _ g2 rfl (by
        refine blk_put (cs := #[.int .i64 1, .string r1, .string ⟨#[]⟩, .int .i64 v, .int .i64 0]) ?_ 4 _ rfl
        refine blk_put (cs := #[.int .i64 1, .string r1, .string ⟨#[]⟩, .int .i64 0, .int .i64 0]) ?_ 3 _ rfl
        refine blk_put (cs := #[.int .i64 1, .string r1, .string ⟨#[]⟩, .int .i64 0, .int .i64 0]) ?_ 2 _ rfl
        refine blk_put (cs := #[.int .i64 1, .string ⟨#[]⟩, .string ⟨#[]⟩, .int .i64 0, .int .i64 0]) ?_ 1 _ rfl
        refine blk_put (cs := #[.int .i64 0, .string ⟨#[]⟩, .string ⟨#[]⟩, .int .i64 0, .int .i64 0]) ?_ 0 _ rfl
        exact hP.h2)) rfl ?_
      exact ⟨by first | rfl | (rw [decide_eq_false (show ¬ (0 : Int) ≤ v by omega)]; rfl), by (repeat (refine below_set ?_ hP.l2)); exact hP.hb⟩
  | true =>
    rw [Bool.true_and]
    have HM_ := Aside0.mk hM
    clear hM
    by_cases hv : 0 ≤ v
    · rw [decide_eq_true hv]
      go_enter Tryd.func14, Tryd.ntmps14
      go_upto_region 4 with (first
        | ((with_reducible refine gate_dst (N := 2) rfl ?_); refine box_event ?hg (N := 2) ?hd (cs := #[.int .i64 0, .string ⟨#[]⟩, .string ⟨#[]⟩, .int .i64 0, .int .i64 0]) (t := 30) ?hr ?_; (case hd => rfl); (case hg => rfl); (case hr => first | (go_simp; done) | (go_simp; rfl)); intro g2 eg2 Wg2 hxg2 hbg2; have b2 := Aside0.mk (show St2 w g2 _ Wg2 from ⟨hbg2, hxg2, by omega⟩); clear hbg2 hxg2 eg2)
        | (go_at_call 26; (with_reducible refine (hSp _).mono ?_); clear hSp; rintro e w1 ⟨B, cap, hB, rfl, hrow, hb_⟩; have b3 := Aside0.mk (b2.out.row2 hB hrow hb_); clear b2 hB hrow hb_)
        | ((with_reducible refine gate_dst (N := 5) rfl ?_); refine box_event ?hg (N := 5) ?hd (cs := #[.int .i64 0, .string ⟨#[]⟩, .string ⟨#[]⟩, .int .i64 0, .int .i64 0]) (t := 30) ?hr ?_; (case hd => rfl); (case hg => rfl); (case hr => first | (go_simp; done) | (go_simp; rfl)); intro g5 eg5 Wg5 hxg5 hbg5; have HP := Aside0.mk (b3.out.box hxg5 hbg5 eg5); clear b3 hxg5 hbg5 eg5)
        | ((with_reducible refine gate_store (t := 30) (p := 5) (v := .tmp 11) rfl ?_); refine store30 rfl _ _ rfl g5 _ _ _ _ _ rfl rfl HP.out.h5 ?_; intro WS hWS; have n0_ := Aside0.mk (hWS ▸ HP.out.set5 #[.int .i64 0, .string ⟨#[]⟩, .string ⟨#[]⟩, .int .i64 0, .int .i64 0]); clear HP hWS; have HP := n0_; clear n0_; have hc0 := HP.out.hr.at_ 0 _ hx0; have hc1 := HP.out.hr.at_ 1 _ hx1; have hc2 := HP.out.hr.at_ 2 _ hx2))
      clear hc0 hc1 hc2
      have hS0 := rs3 hx1 hx2 (PsE.of HP.out.drew2)
      go_region_held3 (fun W_ => W_.cell? ⟨B, 1, none⟩ = some (.string r1) ∧ W_.cell? ⟨B, 2, none⟩ = some (.string r2) ∧ PsE w g2 g5 B xs W_)
        (first | with_reducible assumption | (with_reducible exact rs3 hx1 hx2 (PsE.of (by with_reducible assumption))) | (with_reducible exact rs3 hx1 hx2 (PsE.put (PsE.put (PsE.put (PsE.put (PsE.put (PsE.of (by with_reducible assumption)) _ _) _ _) _ _) _ _) _ _)))
        (first
          | (go_at_call 27; refine (HN_.out _ (HT.out.below (Pst.hb (c2 := #[.int .i64 0, .string ⟨#[]⟩, .string ⟨#[]⟩, .int .i64 0, .int .i64 0]) (c5 := #[.int .i64 0, .string ⟨#[]⟩, .string ⟨#[]⟩, .int .i64 0, .int .i64 0]) (by first | with_reducible assumption | exact HP.out.drew2)))).mono ?_; rintro e w' ⟨rfl, hb_⟩; have n0_ : Pst w g2 g5 B xs #[.int .i64 0, .string ⟨#[]⟩, .string ⟨#[]⟩, .int .i64 0, .int .i64 0] #[.int .i64 0, .string ⟨#[]⟩, .string ⟨#[]⟩, .int .i64 0, .int .i64 0] w' := Pst.step (by first | with_reducible assumption | exact HP.out.drew2) hb_; clear hb_; (try clear ka0 kb0 ka1 kb1 ka2 kb2 ka3 kb3 ka4 kb4); (try clear hP); have hP := n0_; clear n0_; have ka0 := hP.cell2 0 _ rfl; have kb0 := blk_frozen hP.h2 0; have ka1 := hP.cell2 1 _ rfl; have kb1 := blk_frozen hP.h2 1; have ka2 := hP.cell2 2 _ rfl; have kb2 := blk_frozen hP.h2 2; have ka3 := hP.cell2 3 _ rfl; have kb3 := blk_frozen hP.h2 3; have ka4 := hP.cell2 4 _ rfl; have kb4 := blk_frozen hP.h2 4)
          | (go_at_call 10; refine (HM_.out _).mono ?_; rintro e w' ⟨rfl, hb_⟩; have n0_ : Pst w g2 g5 B xs #[.int .i64 0, .string ⟨#[]⟩, .string ⟨#[]⟩, .int .i64 0, .int .i64 0] #[.int .i64 0, .string ⟨#[]⟩, .string ⟨#[]⟩, .int .i64 0, .int .i64 0] w' := Pst.step (by first | with_reducible assumption | exact HP.out.drew2) hb_; clear hb_; (try clear ka0 kb0 ka1 kb1 ka2 kb2 ka3 kb3 ka4 kb4); (try clear hP); have hP := n0_; clear n0_; have ka0 := hP.cell2 0 _ rfl; have kb0 := blk_frozen hP.h2 0; have ka1 := hP.cell2 1 _ rfl; have kb1 := blk_frozen hP.h2 1; have ka2 := hP.cell2 2 _ rfl; have kb2 := blk_frozen hP.h2 2; have ka3 := hP.cell2 3 _ rfl; have kb3 := blk_frozen hP.h2 3; have ka4 := hP.cell2 4 _ rfl; have kb4 := blk_frozen hP.h2 4))
      all_goals
        go_wp2
        refine bodyPost_ret (ret30 rfl _ _ g2 rfl (by
          refine blk_put (cs := #[.int .i64 1, .string r1, .string ⟨#[]⟩, .int .i64 v, .int .i64 0]) ?_ 4 _ rfl
          refine blk_put (cs := #[.int .i64 1, .string r1, .string ⟨#[]⟩, .int .i64 0, .int .i64 0]) ?_ 3 _ rfl
          refine blk_put (cs := #[.int .i64 1, .string r1, .string ⟨#[]⟩, .int .i64 0, .int .i64 0]) ?_ 2 _ rfl
          refine blk_put (cs := #[.int .i64 1, .string ⟨#[]⟩, .string ⟨#[]⟩, .int .i64 0, .int .i64 0]) ?_ 1 _ rfl
          refine blk_put (cs := #[.int .i64 0, .string ⟨#[]⟩, .string ⟨#[]⟩, .int .i64 0, .int .i64 0]) ?_ 0 _ rfl
          exact hP.h2)) rfl ?_
        exact ⟨by first | rfl | (rw [decide_eq_false (show ¬ (0 : Int) ≤ v by omega)]; rfl), by (repeat (refine below_set ?_ hP.l2)); exact hP.hb⟩
    · rw [decide_eq_false hv]
      go_enter Tryd.func14, Tryd.ntmps14
      go_upto_region 4 with (first
        | ((with_reducible refine gate_dst (N := 2) rfl ?_); refine box_event ?hg (N := 2) ?hd (cs := #[.int .i64 0, .string ⟨#[]⟩, .string ⟨#[]⟩, .int .i64 0, .int .i64 0]) (t := 30) ?hr ?_; (case hd => rfl); (case hg => rfl); (case hr => first | (go_simp; done) | (go_simp; rfl)); intro g2 eg2 Wg2 hxg2 hbg2; have b2 := Aside0.mk (show St2 w g2 _ Wg2 from ⟨hbg2, hxg2, by omega⟩); clear hbg2 hxg2 eg2)
        | (go_at_call 26; (with_reducible refine (hSp _).mono ?_); clear hSp; rintro e w1 ⟨B, cap, hB, rfl, hrow, hb_⟩; have b3 := Aside0.mk (b2.out.row2 hB hrow hb_); clear b2 hB hrow hb_)
        | ((with_reducible refine gate_dst (N := 5) rfl ?_); refine box_event ?hg (N := 5) ?hd (cs := #[.int .i64 0, .string ⟨#[]⟩, .string ⟨#[]⟩, .int .i64 0, .int .i64 0]) (t := 30) ?hr ?_; (case hd => rfl); (case hg => rfl); (case hr => first | (go_simp; done) | (go_simp; rfl)); intro g5 eg5 Wg5 hxg5 hbg5; have HP := Aside0.mk (b3.out.box hxg5 hbg5 eg5); clear b3 hxg5 hbg5 eg5)
        | ((with_reducible refine gate_store (t := 30) (p := 5) (v := .tmp 11) rfl ?_); refine store30 rfl _ _ rfl g5 _ _ _ _ _ rfl rfl HP.out.h5 ?_; intro WS hWS; have n0_ := Aside0.mk (hWS ▸ HP.out.set5 #[.int .i64 0, .string ⟨#[]⟩, .string ⟨#[]⟩, .int .i64 0, .int .i64 0]); clear HP hWS; have HP := n0_; clear n0_; have hc0 := HP.out.hr.at_ 0 _ hx0; have hc1 := HP.out.hr.at_ 1 _ hx1; have hc2 := HP.out.hr.at_ 2 _ hx2))
      clear hc0 hc1 hc2
      have hS0 := rs3 hx1 hx2 (PsE.of HP.out.drew2)
      go_region_held3 (fun W_ => W_.cell? ⟨B, 1, none⟩ = some (.string r1) ∧ W_.cell? ⟨B, 2, none⟩ = some (.string r2) ∧ PsE w g2 g5 B xs W_)
        (first | with_reducible assumption | (with_reducible exact rs3 hx1 hx2 (PsE.of (by with_reducible assumption))) | (with_reducible exact rs3 hx1 hx2 (PsE.put (PsE.put (PsE.put (PsE.put (PsE.put (PsE.of (by with_reducible assumption)) _ _) _ _) _ _) _ _) _ _)))
        (first
          | (go_at_call 27; refine (HN_.out _ (HT.out.below (Pst.hb (c2 := #[.int .i64 0, .string ⟨#[]⟩, .string ⟨#[]⟩, .int .i64 0, .int .i64 0]) (c5 := #[.int .i64 0, .string ⟨#[]⟩, .string ⟨#[]⟩, .int .i64 0, .int .i64 0]) (by first | with_reducible assumption | exact HP.out.drew2)))).mono ?_; rintro e w' ⟨rfl, hb_⟩; have n0_ : Pst w g2 g5 B xs #[.int .i64 0, .string ⟨#[]⟩, .string ⟨#[]⟩, .int .i64 0, .int .i64 0] #[.int .i64 0, .string ⟨#[]⟩, .string ⟨#[]⟩, .int .i64 0, .int .i64 0] w' := Pst.step (by first | with_reducible assumption | exact HP.out.drew2) hb_; clear hb_; (try clear ka0 kb0 ka1 kb1 ka2 kb2 ka3 kb3 ka4 kb4); (try clear hP); have hP := n0_; clear n0_; have ka0 := hP.cell2 0 _ rfl; have kb0 := blk_frozen hP.h2 0; have ka1 := hP.cell2 1 _ rfl; have kb1 := blk_frozen hP.h2 1; have ka2 := hP.cell2 2 _ rfl; have kb2 := blk_frozen hP.h2 2; have ka3 := hP.cell2 3 _ rfl; have kb3 := blk_frozen hP.h2 3; have ka4 := hP.cell2 4 _ rfl; have kb4 := blk_frozen hP.h2 4)
          | (go_at_call 10; refine (HM_.out _).mono ?_; rintro e w' ⟨rfl, hb_⟩; have n0_ : Pst w g2 g5 B xs #[.int .i64 0, .string ⟨#[]⟩, .string ⟨#[]⟩, .int .i64 0, .int .i64 0] #[.int .i64 0, .string ⟨#[]⟩, .string ⟨#[]⟩, .int .i64 0, .int .i64 0] w' := Pst.step (by first | with_reducible assumption | exact HP.out.drew2) hb_; clear hb_; (try clear ka0 kb0 ka1 kb1 ka2 kb2 ka3 kb3 ka4 kb4); (try clear hP); have hP := n0_; clear n0_; have ka0 := hP.cell2 0 _ rfl; have kb0 := blk_frozen hP.h2 0; have ka1 := hP.cell2 1 _ rfl; have kb1 := blk_frozen hP.h2 1; have ka2 := hP.cell2 2 _ rfl; have kb2 := blk_frozen hP.h2 2; have ka3 := hP.cell2 3 _ rfl; have kb3 := blk_frozen hP.h2 3; have ka4 := hP.cell2 4 _ rfl; have kb4 := blk_frozen hP.h2 4))
      all_goals
        go_wp2
        refine bodyPost_ret (ret30 rfl _ _ g2 rfl (by
          refine blk_put (cs := #[.int .i64 1, .string r1, .string ⟨#[]⟩, .int .i64 v, .int .i64 0]) ?_ 4 _ rfl
          refine blk_put (cs := #[.int .i64 1, .string r1, .string ⟨#[]⟩, .int .i64 0, .int .i64 0]) ?_ 3 _ rfl
          refine blk_put (cs := #[.int .i64 1, .string r1, .string ⟨#[]⟩, .int .i64 0, .int .i64 0]) ?_ 2 _ rfl
          refine blk_put (cs := #[.int .i64 1, .string ⟨#[]⟩, .string ⟨#[]⟩, .int .i64 0, .int .i64 0]) ?_ 1 _ rfl
          refine blk_put (cs := #[.int .i64 0, .string ⟨#[]⟩, .string ⟨#[]⟩, .int .i64 0, .int .i64 0]) ?_ 0 _ rfl
          exact hP.h2)) rfl ?_
        exact ⟨by first | rfl | (rw [decide_eq_false (show ¬ (0 : Int) ≤ v by omega)]; rfl), by (repeat (refine below_set ?_ hP.l2)); exact hP.hb⟩
end Go.Proofs.YtmgkgjacnbeboaaDoor.E
