/- name.Parse of a text whose first part is "meta" or "data". -/
import Derived.Test.YtmgkgjacnbeboaaDoorHc
import Derived.Deep.RegionWith
import Derived.BigRegion
import Derived.Deep.Cut
set_option linter.unusedVariables false
set_option linter.unusedSimpArgs false
namespace Go.Proofs.YtmgkgjacnbeboaaDoor.E
open Go.RowKit Go.Lib Go.Shelf Go.Proofs.YtmgkgjacnbeboaaDoorW.PrintWords Go.Proofs.YtmgkgjacnbeboaaDoorW.PrintLast Go.Proofs.YtmgkgjacnbeboaaDoorW.PrintMore
open S (mkB)
attribute [local irreducible] Nm.nameOk Nm.within Lib.itoa Lib.mapD Lib.join S.hexs Nm.kd KD Nm.metaN Nm.dataN Nm.logN Nm.nmS G.split Nm.numR S.unhex
/-- The same, with one block more: what is asked for, as it is made. -/
structure P8 (w : World) (g2 g5 B g8 : Nat) (xs : List ByteArray) (c2 c5 c8 : Array Value) (W : World) : Prop where
  p : Pst w g2 g5 B xs c2 c5 W
  h8 : W.heap[g8]? = some (.cells c8 30 (0, 0))
  l8 : w.heap.size ≤ g8
  n28 : g2 ≠ g8
  n58 : g5 ≠ g8
  nB8 : B ≠ g8
theorem P8.step {w : World} {g2 g5 B g8 : Nat} {xs : List ByteArray} {c2 c5 c8 : Array Value} {W W' : World} (h : P8 w g2 g5 B g8 xs c2 c5 c8 W) (hb : Below W.heap.size W W') : P8 w g2 g5 B g8 xs c2 c5 c8 W' :=
  ⟨h.p.step hb, (hb.block g8 (lt_of_at h.h8)).trans h.h8, h.l8, h.n28, h.n58, h.nB8⟩
theorem P8.box {w : World} {g2 g5 B g8 : Nat} {xs : List ByteArray} {c2 c5 c8 : Array Value} {W W' : World} (h : Pst w g2 g5 B xs c2 c5 W) (h8 : W'.heap[g8]? = some (.cells c8 30 (0, 0))) (hb : Below W.heap.size W W') (e : g8 = W.heap.size) : P8 w g2 g5 B g8 xs c2 c5 c8 W' :=
  ⟨h.step hb, h8, by have := h.hb.size; omega, by have := lt_of_at h.h2; omega, by have := lt_of_at h.h5; omega, by have := h.hr.lt; omega⟩
theorem P8.alloc {w : World} {g2 g5 B : Nat} {xs : List ByteArray} {c2 c5 : Array Value} {W : World} (h : Pst w g2 g5 B xs c2 c5 W) (c8 : Array Value) : P8 w g2 g5 B W.heap.size xs c2 c5 c8 (W.alloc (.cells c8 30 (0, 0))) :=
  P8.box h (blk_new W _) (below_alloc (Below.refl _ _) _) rfl
theorem P8.put8 {w : World} {g2 g5 B g8 : Nat} {xs : List ByteArray} {c2 c5 c8 : Array Value} {W : World} (h : P8 w g2 g5 B g8 xs c2 c5 c8 W) (j : Nat) (v : Value) : P8 w g2 g5 B g8 xs c2 c5 (c8.setIfInBounds j v) (W.setCell ⟨g8, j, none⟩ v) :=
  ⟨⟨below_set h.p.hb h.l8, blk_far h.p.h2 h.n28 v, blk_far h.p.h5 h.n58 v, ⟨fun i x hx => by
      have e := Below.heap_setCell W ⟨g8, j, none⟩ v B h.nB8
      have := h.p.hr.at_ i x hx
      simpa [World.cell?, e] using this, by
      have := h.p.hr.lt
      have e := Below.heap_setCell W ⟨g8, j, none⟩ v B h.nB8
      exact lt_of_at (e.trans (Array.getElem?_eq_getElem this))⟩, h.p.l2, h.p.l5, h.p.n25, h.p.n2B, h.p.n5B⟩, blk_put h.h8 j v rfl, h.l8, h.n28, h.n58, h.nB8⟩
theorem P8.put8' {w : World} {g2 g5 B g8 : Nat} {xs : List ByteArray} {c2 c5 c8 : Array Value} {W : World} {c8' : Array Value} (h : P8 w g2 g5 B g8 xs c2 c5 c8 W) (j : Nat) (v : Value) (e : c8.setIfInBounds j v = c8') : P8 w g2 g5 B g8 xs c2 c5 c8' (W.setCell ⟨g8, j, none⟩ v) := e ▸ h.put8 j v
theorem P8.set2 {w : World} {g2 g5 B g8 : Nat} {xs : List ByteArray} {c2 c5 c8 : Array Value} {W : World} (h : P8 w g2 g5 B g8 xs c2 c5 c8 W) (cs : Array Value) : P8 w g2 g5 B g8 xs cs c5 c8 (W.setRow g2 cs) :=
  ⟨h.p.set2 cs, (setRow_other W g2 g8 cs h.n28.symm).trans h.h8, h.l8, h.n28, h.n58, h.nB8⟩
theorem P8.cell8 {w : World} {g2 g5 B g8 : Nat} {xs : List ByteArray} {c2 c5 c8 : Array Value} {W : World} (h : P8 w g2 g5 B g8 xs c2 c5 c8 W) (j : Nat) (v : Value) (hv : c8[j]? = some v) : W.cell? ⟨g8, j, none⟩ = some v := by
  simp [World.cell?, h.h8, hv]
theorem P8.drew {w : World} {g2 g5 B g8 : Nat} {xs : List ByteArray} {c2 c5 c8 : Array Value} {W : World} (h : P8 w g2 g5 B g8 xs c2 c5 c8 W) : P8 w g2 g5 B g8 xs c2 c5 c8 W.drew := ⟨h.p.drew2, h.h8, h.l8, h.n28, h.n58, h.nB8⟩
theorem rs4 {w : World} {g2 g5 B : Nat} {xs : List ByteArray} {r2 r3 : ByteArray} {W : World} (hx2 : xs[2]? = some r2) (hx3 : xs[3]? = some r3) (h : PsE w g2 g5 B xs W) :
    W.cell? ⟨B, 2, none⟩ = some (.string r2) ∧ W.cell? ⟨B, 3, none⟩ = some (.string r3) ∧ PsE w g2 g5 B xs W := by
  obtain ⟨c2, c5, hp⟩ := h
  exact ⟨hp.hr.at_ 2 _ hx2, hp.hr.at_ 3 _ hx3, ⟨c2, c5, hp⟩⟩
attribute [local irreducible] PsE
set_option maxHeartbeats 8000000 in
set_option maxRecDepth 100000 in
theorem RParse_path (s : ByteArray) (w : World) (hs : s.size ≤ 1000) (ht : Tabs w) (hn4 : (D.splitS s).length = 4) (h0 : ((D.splitS s).getD 0 ⟨#[]⟩).data.toList = Nm.LOG) (h1 : ((D.splitS s).getD 1 ⟨#[]⟩).data.toList = Nm.PATH) :
    Calls Tryd.prog 14 #[.string s] w (RParsed w ((4, [], [], Nm.numR ((D.splitS s).getD 2 ⟨#[]⟩).data.toList, Nm.numR ((D.splitS s).getD 3 ⟨#[]⟩).data.toList), decide (0 ≤ Nm.numR ((D.splitS s).getD 2 ⟨#[]⟩).data.toList) && decide (0 ≤ Nm.numR ((D.splitS s).getD 3 ⟨#[]⟩).data.toList))) := by
  have hSp := fun W => rsplit_c s W hs
  have hx0 : (D.splitS s)[0]? = some (⟨#[108, 111, 103]⟩ : ByteArray) := litAt _ 0 _ (by omega) h0
  have hx1 : (D.splitS s)[1]? = some (⟨#[112, 97, 116, 104]⟩ : ByteArray) := litAt _ 1 _ (by omega) h1
  have hx2 : (D.splitS s)[2]? = some ((D.splitS s).getD 2 ⟨#[]⟩) := by simp [hn4]
  have hx3 : (D.splitS s)[3]? = some ((D.splitS s).getD 3 ⟨#[]⟩) := by simp [hn4]
  have hN2 := fun W hw => rnum_c ((D.splitS s).getD 2 ⟨#[]⟩) W (rpart_size s 2 hs) hw
  have hN3 := fun W hw => rnum_c ((D.splitS s).getD 3 ⟨#[]⟩) W (rpart_size s 3 hs) hw
  rw [hn4] at hSp
  unfold RParsed
  clear h0 h1 hn4 hs
  generalize (D.splitS s).getD 2 ⟨#[]⟩ = r2 at *
  generalize (D.splitS s).getD 3 ⟨#[]⟩ = r3 at *
  generalize Nm.numR r2.data.toList = v2 at *
  generalize Nm.numR r3.data.toList = v3 at *
  rw [show asksV ((4, [], [], v2, v3), decide (0 ≤ v2) && decide (0 ≤ v3)).1 = .agg #[.int .i64 4, .string ⟨#[]⟩, .string ⟨#[]⟩, .int .i64 v2, .int .i64 v3] from rfl]
  rw [show ((((4, [], [], v2, v3) : Nm.Ask), decide (0 ≤ v2) && decide (0 ≤ v3)) : Nm.Ask × Bool).2 = (decide (0 ≤ v2) && decide (0 ≤ v3)) from rfl]
  generalize hb : (decide (0 ≤ v2) && decide (0 ≤ v3)) = b
  generalize D.splitS s = xs at *
  have HT := Aside0.mk ht
  have HN2_ := Aside0.mk hN2
  have HN3_ := Aside0.mk hN3
  clear ht hN2 hN3
  go_enter Tryd.func14, Tryd.ntmps14
  go_upto_region 16 with (first
    | ((with_reducible refine gate_dst (N := 2) rfl ?_); refine box_event ?hg (N := 2) ?hd (cs := #[.int .i64 0, .string ⟨#[]⟩, .string ⟨#[]⟩, .int .i64 0, .int .i64 0]) (t := 30) ?hr ?_; (case hd => rfl); (case hg => rfl); (case hr => first | (go_simp; done) | (go_simp; rfl)); intro g2 eg2 Wg2 hxg2 hbg2; have b2 := Aside0.mk (show St2 w g2 _ Wg2 from ⟨hbg2, hxg2, by omega⟩); clear hbg2 hxg2 eg2)
    | (go_at_call 26; (with_reducible refine (hSp _).mono ?_); clear hSp; rintro e w1 ⟨B, cap, hB, rfl, hrow, hb_⟩; have b3 := Aside0.mk (b2.out.row2 hB hrow hb_); clear b2 hB hrow hb_)
    | ((with_reducible refine gate_dst (N := 5) rfl ?_); refine box_event ?hg (N := 5) ?hd (cs := #[.int .i64 0, .string ⟨#[]⟩, .string ⟨#[]⟩, .int .i64 0, .int .i64 0]) (t := 30) ?hr ?_; (case hd => rfl); (case hg => rfl); (case hr => first | (go_simp; done) | (go_simp; rfl)); intro g5 eg5 Wg5 hxg5 hbg5; have HP := Aside0.mk (b3.out.box hxg5 hbg5 eg5); clear b3 hxg5 hbg5 eg5)
    | ((with_reducible refine gate_store (t := 30) (p := 5) (v := .tmp 11) rfl ?_); refine store30 rfl _ _ rfl g5 _ _ _ _ _ rfl rfl HP.out.h5 ?_; intro WS hWS; have n0_ := Aside0.mk (hWS ▸ HP.out.set5 #[.int .i64 0, .string ⟨#[]⟩, .string ⟨#[]⟩, .int .i64 0, .int .i64 0]); clear HP hWS; have HP := n0_; clear n0_; have hc0 := HP.out.hr.at_ 0 _ hx0; have hc1 := HP.out.hr.at_ 1 _ hx1; have hc2 := HP.out.hr.at_ 2 _ hx2; have hc3 := HP.out.hr.at_ 3 _ hx3))
  have h0P := HP.out
  have hP := HP.out.drew2
  clear HP hc0 hc1 hc2 hc3
  have hc2 := hP.hr.at_ 2 _ hx2
  have hc3 := hP.hr.at_ 3 _ hx3
  have en2 := World.new_ne _ _ hc2
  have en3 := World.new_ne _ _ hc3
  go_cut [8] (fun v8 wx => ∃ g8, v8 = .pointer (some ⟨g8, 0, none⟩) ∧ P8 w g2 g5 B g8 xs #[.int .i64 0, .string ⟨#[]⟩, .string ⟨#[]⟩, .int .i64 0, .int .i64 0] #[.int .i64 0, .string ⟨#[]⟩, .string ⟨#[]⟩, .int .i64 0, .int .i64 0] #[.int .i64 4, .string ⟨#[]⟩, .string ⟨#[]⟩, .int .i64 v2, .int .i64 v3] wx)
  case first =>
    have hS0 := rs4 hx2 hx3 (PsE.of hP)
    first | (go_region_held3 (fun W_ => W_.cell? ⟨B, 2, none⟩ = some (.string r2) ∧ W_.cell? ⟨B, 3, none⟩ = some (.string r3) ∧ PsE w g2 g5 B xs W_)
      (first | with_reducible assumption | (with_reducible exact rs4 hx2 hx3 (PsE.of h8P.p)) | (with_reducible exact rs4 hx2 hx3 (PsE.of hP)) | (with_reducible exact rs4 hx2 hx3 (PsE.of (P8.alloc hP _).p)) | (with_reducible exact rs4 hx2 hx3 (PsE.of (P8.drew (P8.alloc h0P _)).p)) | (with_reducible exact rs4 hx2 hx3 (PsE.of ((P8.put8 (P8.put8 (P8.put8 (P8.put8 (P8.put8 h8P 0 _) 1 _) 2 _) 3 _) 4 _)).p)) | (with_reducible exact rs4 hx2 hx3 (PsE.of ((P8.put8 (P8.put8 (P8.put8 (P8.put8 (P8.put8 (P8.alloc hP _) 0 _) 1 _) 2 _) 3 _) 4 _)).p)))
      (first
        | (go_at_call 27; first | (with_reducible refine (HN2_.out _ (HT.out.below h8P.p.hb)).mono ?_; rintro e w' ⟨rfl, hb_⟩; have n8_ := h8P.step hb_; clear h8P hb_; have h8P := n8_; clear n8_; (try clear ka0 kb0 ka1 kb1 ka2 kb2 ka3 kb3 ka4 kb4); (try clear hc2 hc3 en2 en3); have hc2 := (h8P.p.hr).at_ 2 _ hx2; have hc3 := (h8P.p.hr).at_ 3 _ hx3; have en2 := World.new_ne _ _ hc2; have en3 := World.new_ne _ _ hc3; have ka0 := h8P.cell8 0 _ rfl; have kb0 := blk_frozen h8P.h8 0; have ka1 := h8P.cell8 1 _ rfl; have kb1 := blk_frozen h8P.h8 1; have ka2 := h8P.cell8 2 _ rfl; have kb2 := blk_frozen h8P.h8 2; have ka3 := h8P.cell8 3 _ rfl; have kb3 := blk_frozen h8P.h8 3; have ka4 := h8P.cell8 4 _ rfl; have kb4 := blk_frozen h8P.h8 4) | (with_reducible refine (HN2_.out _ (HT.out.below (P8.alloc hP #[.int .i64 0, .string ⟨#[]⟩, .string ⟨#[]⟩, .int .i64 0, .int .i64 0]).p.hb)).mono ?_; rintro e w' ⟨rfl, hb_⟩; have h8P := (P8.alloc hP #[.int .i64 0, .string ⟨#[]⟩, .string ⟨#[]⟩, .int .i64 0, .int .i64 0]).step hb_; clear hP hb_; (try clear hc2 hc3 en2 en3); have hc2 := (h8P.p.hr).at_ 2 _ hx2; have hc3 := (h8P.p.hr).at_ 3 _ hx3; have en2 := World.new_ne _ _ hc2; have en3 := World.new_ne _ _ hc3; have ka0 := h8P.cell8 0 _ rfl; have kb0 := blk_frozen h8P.h8 0; have ka1 := h8P.cell8 1 _ rfl; have kb1 := blk_frozen h8P.h8 1; have ka2 := h8P.cell8 2 _ rfl; have kb2 := blk_frozen h8P.h8 2; have ka3 := h8P.cell8 3 _ rfl; have kb3 := blk_frozen h8P.h8 3; have ka4 := h8P.cell8 4 _ rfl; have kb4 := blk_frozen h8P.h8 4) | (with_reducible refine (HN2_.out _ (HT.out.below (P8.drew (P8.alloc h0P #[.int .i64 0, .string ⟨#[]⟩, .string ⟨#[]⟩, .int .i64 0, .int .i64 0])).p.hb)).mono ?_; rintro e w' ⟨rfl, hb_⟩; have h8P := (P8.drew (P8.alloc h0P #[.int .i64 0, .string ⟨#[]⟩, .string ⟨#[]⟩, .int .i64 0, .int .i64 0])).step hb_; clear hP h0P hb_; (try clear hc2 hc3 en2 en3); have hc2 := (h8P.p.hr).at_ 2 _ hx2; have hc3 := (h8P.p.hr).at_ 3 _ hx3; have en2 := World.new_ne _ _ hc2; have en3 := World.new_ne _ _ hc3; have ka0 := h8P.cell8 0 _ rfl; have kb0 := blk_frozen h8P.h8 0; have ka1 := h8P.cell8 1 _ rfl; have kb1 := blk_frozen h8P.h8 1; have ka2 := h8P.cell8 2 _ rfl; have kb2 := blk_frozen h8P.h8 2; have ka3 := h8P.cell8 3 _ rfl; have kb3 := blk_frozen h8P.h8 3; have ka4 := h8P.cell8 4 _ rfl; have kb4 := blk_frozen h8P.h8 4) | (with_reducible refine (HN2_.out _ (HT.out.below hP.hb)).mono ?_; rintro e w' ⟨rfl, hb_⟩; have n_ := hP.step hb_; clear hP hb_; have hP := n_; clear n_; (try clear hc2 hc3 en2 en3); have hc2 := (hP.hr).at_ 2 _ hx2; have hc3 := (hP.hr).at_ 3 _ hx3; have en2 := World.new_ne _ _ hc2; have en3 := World.new_ne _ _ hc3))
        | (go_at_call 27; first | (with_reducible refine (HN3_.out _ (HT.out.below h8P.p.hb)).mono ?_; rintro e w' ⟨rfl, hb_⟩; have n8_ := h8P.step hb_; clear h8P hb_; have h8P := n8_; clear n8_; (try clear ka0 kb0 ka1 kb1 ka2 kb2 ka3 kb3 ka4 kb4); (try clear hc2 hc3 en2 en3); have hc2 := (h8P.p.hr).at_ 2 _ hx2; have hc3 := (h8P.p.hr).at_ 3 _ hx3; have en2 := World.new_ne _ _ hc2; have en3 := World.new_ne _ _ hc3; have ka0 := h8P.cell8 0 _ rfl; have kb0 := blk_frozen h8P.h8 0; have ka1 := h8P.cell8 1 _ rfl; have kb1 := blk_frozen h8P.h8 1; have ka2 := h8P.cell8 2 _ rfl; have kb2 := blk_frozen h8P.h8 2; have ka3 := h8P.cell8 3 _ rfl; have kb3 := blk_frozen h8P.h8 3; have ka4 := h8P.cell8 4 _ rfl; have kb4 := blk_frozen h8P.h8 4) | (with_reducible refine (HN3_.out _ (HT.out.below (P8.alloc hP #[.int .i64 0, .string ⟨#[]⟩, .string ⟨#[]⟩, .int .i64 0, .int .i64 0]).p.hb)).mono ?_; rintro e w' ⟨rfl, hb_⟩; have h8P := (P8.alloc hP #[.int .i64 0, .string ⟨#[]⟩, .string ⟨#[]⟩, .int .i64 0, .int .i64 0]).step hb_; clear hP hb_; (try clear hc2 hc3 en2 en3); have hc2 := (h8P.p.hr).at_ 2 _ hx2; have hc3 := (h8P.p.hr).at_ 3 _ hx3; have en2 := World.new_ne _ _ hc2; have en3 := World.new_ne _ _ hc3; have ka0 := h8P.cell8 0 _ rfl; have kb0 := blk_frozen h8P.h8 0; have ka1 := h8P.cell8 1 _ rfl; have kb1 := blk_frozen h8P.h8 1; have ka2 := h8P.cell8 2 _ rfl; have kb2 := blk_frozen h8P.h8 2; have ka3 := h8P.cell8 3 _ rfl; have kb3 := blk_frozen h8P.h8 3; have ka4 := h8P.cell8 4 _ rfl; have kb4 := blk_frozen h8P.h8 4) | (with_reducible refine (HN3_.out _ (HT.out.below (P8.drew (P8.alloc h0P #[.int .i64 0, .string ⟨#[]⟩, .string ⟨#[]⟩, .int .i64 0, .int .i64 0])).p.hb)).mono ?_; rintro e w' ⟨rfl, hb_⟩; have h8P := (P8.drew (P8.alloc h0P #[.int .i64 0, .string ⟨#[]⟩, .string ⟨#[]⟩, .int .i64 0, .int .i64 0])).step hb_; clear hP h0P hb_; (try clear hc2 hc3 en2 en3); have hc2 := (h8P.p.hr).at_ 2 _ hx2; have hc3 := (h8P.p.hr).at_ 3 _ hx3; have en2 := World.new_ne _ _ hc2; have en3 := World.new_ne _ _ hc3; have ka0 := h8P.cell8 0 _ rfl; have kb0 := blk_frozen h8P.h8 0; have ka1 := h8P.cell8 1 _ rfl; have kb1 := blk_frozen h8P.h8 1; have ka2 := h8P.cell8 2 _ rfl; have kb2 := blk_frozen h8P.h8 2; have ka3 := h8P.cell8 3 _ rfl; have kb3 := blk_frozen h8P.h8 3; have ka4 := h8P.cell8 4 _ rfl; have kb4 := blk_frozen h8P.h8 4) | (with_reducible refine (HN3_.out _ (HT.out.below hP.hb)).mono ?_; rintro e w' ⟨rfl, hb_⟩; have n_ := hP.step hb_; clear hP hb_; have hP := n_; clear n_; (try clear hc2 hc3 en2 en3); have hc2 := (hP.hr).at_ 2 _ hx2; have hc3 := (hP.hr).at_ 3 _ hx3; have en2 := World.new_ne _ _ hc2; have en3 := World.new_ne _ _ hc3)))) | fail
    all_goals (go_wp2_with fail; go_meet)
    all_goals (first | with_reducible exact ⟨_, rfl, P8.alloc hP _⟩ | with_reducible exact ⟨_, rfl, (P8.alloc h0P _).drew⟩ | exact ⟨_, rfl, (P8.put8' (c8' := #[.int .i64 4, .string ⟨#[]⟩, .string ⟨#[]⟩, .int .i64 v2, .int .i64 v3]) (P8.put8' (c8' := #[.int .i64 4, .string ⟨#[]⟩, .string ⟨#[]⟩, .int .i64 v2, .int .i64 0]) (P8.put8' (c8' := #[.int .i64 4, .string ⟨#[]⟩, .string ⟨#[]⟩, .int .i64 0, .int .i64 0]) (P8.put8' (c8' := #[.int .i64 4, .string ⟨#[]⟩, .string ⟨#[]⟩, .int .i64 0, .int .i64 0]) (P8.put8' (c8' := #[.int .i64 4, .string ⟨#[]⟩, .string ⟨#[]⟩, .int .i64 0, .int .i64 0]) h8P 0 _ rfl) 1 _ rfl) 2 _ rfl) 3 _ rfl) 4 _ rfl)⟩)
  case rest =>
    obtain ⟨g8, rfl, h8P⟩ := hcut
    have hc1 := h8P.p.hr.at_ 1 _ hx1
    go_upto_if 129 with (fail)
    go_cut [] (fun wx => P8 w g2 g5 B g8 xs #[.int .i64 0, .string ⟨#[]⟩, .string ⟨#[]⟩, .int .i64 0, .int .i64 0] #[.int .i64 0, .string ⟨#[]⟩, .string ⟨#[]⟩, .int .i64 0, .int .i64 0] #[.int .i64 4, .string ⟨#[]⟩, .string ⟨#[]⟩, .int .i64 v2, .int .i64 v3] wx)
    case first =>
      go_wp2_with fail
      go_meet
      exact h8P
    case rest =>
    clear hc1 h8P
    have h8P := hcut
    go_upto_region 19 with (fail)
    have h9P := h8P
    clear h8P HT HN2_ HN3_ hx0 hx1 hx2 hx3
    have ka0 := h9P.cell8 0 (.int .i64 4) rfl
    have ka1 := h9P.cell8 1 (.string ⟨#[]⟩) rfl
    have ka2 := h9P.cell8 2 (.string ⟨#[]⟩) rfl
    have ka3 := h9P.cell8 3 (.int .i64 v2) rfl
    have ka4 := h9P.cell8 4 (.int .i64 v3) rfl
    have kc0 := h9P.p.cell2 0 (.int .i64 0) rfl
    have kc1 := h9P.p.cell2 1 (.string ⟨#[]⟩) rfl
    have kc2 := h9P.p.cell2 2 (.string ⟨#[]⟩) rfl
    have kc3 := h9P.p.cell2 3 (.int .i64 0) rfl
    have kc4 := h9P.p.cell2 4 (.int .i64 0) rfl
    have kd0 := blk_frozen h9P.p.h2 0
    have kd1 := blk_frozen h9P.p.h2 1
    have kd2 := blk_frozen h9P.p.h2 2
    have kd3 := blk_frozen h9P.p.h2 3
    have kd4 := blk_frozen h9P.p.h2 4
    have hbl := h9P.p.hb
    have hl2 := h9P.p.l2
    have hn28 := h9P.n28
    have hh2 := h9P.p.h2
    clear h9P
    by_cases hv2 : 0 ≤ v2
    · rw [decide_eq_true hv2, Bool.true_and] at hb
      subst hb
      go_region
      all_goals
        go_wp2
        refine bodyPost_ret (ret30 rfl _ _ g2 rfl (by
          (try change (World.setCell _ _ _).heap[g2]? = _)
          refine blk_put (cs := #[.int .i64 4, .string ⟨#[]⟩, .string ⟨#[]⟩, .int .i64 v2, .int .i64 0]) ?_ 4 _ rfl
          refine blk_put (cs := #[.int .i64 4, .string ⟨#[]⟩, .string ⟨#[]⟩, .int .i64 0, .int .i64 0]) ?_ 3 _ rfl
          refine blk_put (cs := #[.int .i64 4, .string ⟨#[]⟩, .string ⟨#[]⟩, .int .i64 0, .int .i64 0]) ?_ 2 _ rfl
          refine blk_put (cs := #[.int .i64 4, .string ⟨#[]⟩, .string ⟨#[]⟩, .int .i64 0, .int .i64 0]) ?_ 1 _ rfl
          refine blk_put (cs := #[.int .i64 0, .string ⟨#[]⟩, .string ⟨#[]⟩, .int .i64 0, .int .i64 0]) ?_ 0 _ rfl
          exact hh2)) rfl ?_
        exact ⟨rfl, by (try refine Below.drew ?_); (repeat (refine below_set ?_ hl2)); first | exact hbl | exact hbl.drew⟩
    · rw [decide_eq_false hv2, Bool.false_and] at hb
      subst hb
      go_region
      all_goals
        go_wp2
        refine bodyPost_ret (ret30 rfl _ _ g2 rfl (by
          (try change (World.setCell _ _ _).heap[g2]? = _)
          refine blk_put (cs := #[.int .i64 4, .string ⟨#[]⟩, .string ⟨#[]⟩, .int .i64 v2, .int .i64 0]) ?_ 4 _ rfl
          refine blk_put (cs := #[.int .i64 4, .string ⟨#[]⟩, .string ⟨#[]⟩, .int .i64 0, .int .i64 0]) ?_ 3 _ rfl
          refine blk_put (cs := #[.int .i64 4, .string ⟨#[]⟩, .string ⟨#[]⟩, .int .i64 0, .int .i64 0]) ?_ 2 _ rfl
          refine blk_put (cs := #[.int .i64 4, .string ⟨#[]⟩, .string ⟨#[]⟩, .int .i64 0, .int .i64 0]) ?_ 1 _ rfl
          refine blk_put (cs := #[.int .i64 0, .string ⟨#[]⟩, .string ⟨#[]⟩, .int .i64 0, .int .i64 0]) ?_ 0 _ rfl
          exact hh2)) rfl ?_
        exact ⟨rfl, by (try refine Below.drew ?_); (repeat (refine below_set ?_ hl2)); first | exact hbl | exact hbl.drew⟩
set_option maxHeartbeats 8000000 in
set_option maxRecDepth 100000 in
theorem RParse_step (s : ByteArray) (w : World) (hs : s.size ≤ 1000) (ht : Tabs w) (hn4 : (D.splitS s).length = 4) (h0 : ((D.splitS s).getD 0 ⟨#[]⟩).data.toList = Nm.LOG) (h1 : ((D.splitS s).getD 1 ⟨#[]⟩).data.toList = Nm.STEP) :
    Calls Tryd.prog 14 #[.string s] w (RParsed w ((5, [], [], Nm.numR ((D.splitS s).getD 2 ⟨#[]⟩).data.toList, Nm.numR ((D.splitS s).getD 3 ⟨#[]⟩).data.toList), decide (0 ≤ Nm.numR ((D.splitS s).getD 2 ⟨#[]⟩).data.toList) && decide (0 ≤ Nm.numR ((D.splitS s).getD 3 ⟨#[]⟩).data.toList))) := by
  have hSp := fun W => rsplit_c s W hs
  have hx0 : (D.splitS s)[0]? = some (⟨#[108, 111, 103]⟩ : ByteArray) := litAt _ 0 _ (by omega) h0
  have hx1 : (D.splitS s)[1]? = some (⟨#[115, 116, 101, 112]⟩ : ByteArray) := litAt _ 1 _ (by omega) h1
  have hx2 : (D.splitS s)[2]? = some ((D.splitS s).getD 2 ⟨#[]⟩) := by simp [hn4]
  have hx3 : (D.splitS s)[3]? = some ((D.splitS s).getD 3 ⟨#[]⟩) := by simp [hn4]
  have hN2 := fun W hw => rnum_c ((D.splitS s).getD 2 ⟨#[]⟩) W (rpart_size s 2 hs) hw
  have hN3 := fun W hw => rnum_c ((D.splitS s).getD 3 ⟨#[]⟩) W (rpart_size s 3 hs) hw
  rw [hn4] at hSp
  unfold RParsed
  clear h0 h1 hn4 hs
  generalize (D.splitS s).getD 2 ⟨#[]⟩ = r2 at *
  generalize (D.splitS s).getD 3 ⟨#[]⟩ = r3 at *
  generalize Nm.numR r2.data.toList = v2 at *
  generalize Nm.numR r3.data.toList = v3 at *
  rw [show asksV ((5, [], [], v2, v3), decide (0 ≤ v2) && decide (0 ≤ v3)).1 = .agg #[.int .i64 5, .string ⟨#[]⟩, .string ⟨#[]⟩, .int .i64 v2, .int .i64 v3] from rfl]
  rw [show ((((5, [], [], v2, v3) : Nm.Ask), decide (0 ≤ v2) && decide (0 ≤ v3)) : Nm.Ask × Bool).2 = (decide (0 ≤ v2) && decide (0 ≤ v3)) from rfl]
  generalize hb : (decide (0 ≤ v2) && decide (0 ≤ v3)) = b
  generalize D.splitS s = xs at *
  have HT := Aside0.mk ht
  have HN2_ := Aside0.mk hN2
  have HN3_ := Aside0.mk hN3
  clear ht hN2 hN3
  go_enter Tryd.func14, Tryd.ntmps14
  go_upto_region 16 with (first
    | ((with_reducible refine gate_dst (N := 2) rfl ?_); refine box_event ?hg (N := 2) ?hd (cs := #[.int .i64 0, .string ⟨#[]⟩, .string ⟨#[]⟩, .int .i64 0, .int .i64 0]) (t := 30) ?hr ?_; (case hd => rfl); (case hg => rfl); (case hr => first | (go_simp; done) | (go_simp; rfl)); intro g2 eg2 Wg2 hxg2 hbg2; have b2 := Aside0.mk (show St2 w g2 _ Wg2 from ⟨hbg2, hxg2, by omega⟩); clear hbg2 hxg2 eg2)
    | (go_at_call 26; (with_reducible refine (hSp _).mono ?_); clear hSp; rintro e w1 ⟨B, cap, hB, rfl, hrow, hb_⟩; have b3 := Aside0.mk (b2.out.row2 hB hrow hb_); clear b2 hB hrow hb_)
    | ((with_reducible refine gate_dst (N := 5) rfl ?_); refine box_event ?hg (N := 5) ?hd (cs := #[.int .i64 0, .string ⟨#[]⟩, .string ⟨#[]⟩, .int .i64 0, .int .i64 0]) (t := 30) ?hr ?_; (case hd => rfl); (case hg => rfl); (case hr => first | (go_simp; done) | (go_simp; rfl)); intro g5 eg5 Wg5 hxg5 hbg5; have HP := Aside0.mk (b3.out.box hxg5 hbg5 eg5); clear b3 hxg5 hbg5 eg5)
    | ((with_reducible refine gate_store (t := 30) (p := 5) (v := .tmp 11) rfl ?_); refine store30 rfl _ _ rfl g5 _ _ _ _ _ rfl rfl HP.out.h5 ?_; intro WS hWS; have n0_ := Aside0.mk (hWS ▸ HP.out.set5 #[.int .i64 0, .string ⟨#[]⟩, .string ⟨#[]⟩, .int .i64 0, .int .i64 0]); clear HP hWS; have HP := n0_; clear n0_; have hc0 := HP.out.hr.at_ 0 _ hx0; have hc1 := HP.out.hr.at_ 1 _ hx1; have hc2 := HP.out.hr.at_ 2 _ hx2; have hc3 := HP.out.hr.at_ 3 _ hx3))
  have h0P := HP.out
  have hP := HP.out.drew2
  clear HP hc0 hc1 hc2 hc3
  have hc2 := hP.hr.at_ 2 _ hx2
  have hc3 := hP.hr.at_ 3 _ hx3
  have en2 := World.new_ne _ _ hc2
  have en3 := World.new_ne _ _ hc3
  go_cut [8] (fun v8 wx => ∃ g8, v8 = .pointer (some ⟨g8, 0, none⟩) ∧ P8 w g2 g5 B g8 xs #[.int .i64 0, .string ⟨#[]⟩, .string ⟨#[]⟩, .int .i64 0, .int .i64 0] #[.int .i64 0, .string ⟨#[]⟩, .string ⟨#[]⟩, .int .i64 0, .int .i64 0] #[.int .i64 4, .string ⟨#[]⟩, .string ⟨#[]⟩, .int .i64 v2, .int .i64 v3] wx)
  case first =>
    have hS0 := rs4 hx2 hx3 (PsE.of hP)
    first | (go_region_held3 (fun W_ => W_.cell? ⟨B, 2, none⟩ = some (.string r2) ∧ W_.cell? ⟨B, 3, none⟩ = some (.string r3) ∧ PsE w g2 g5 B xs W_)
      (first | with_reducible assumption | (with_reducible exact rs4 hx2 hx3 (PsE.of h8P.p)) | (with_reducible exact rs4 hx2 hx3 (PsE.of hP)) | (with_reducible exact rs4 hx2 hx3 (PsE.of (P8.alloc hP _).p)) | (with_reducible exact rs4 hx2 hx3 (PsE.of (P8.drew (P8.alloc h0P _)).p)) | (with_reducible exact rs4 hx2 hx3 (PsE.of ((P8.put8 (P8.put8 (P8.put8 (P8.put8 (P8.put8 h8P 0 _) 1 _) 2 _) 3 _) 4 _)).p)) | (with_reducible exact rs4 hx2 hx3 (PsE.of ((P8.put8 (P8.put8 (P8.put8 (P8.put8 (P8.put8 (P8.alloc hP _) 0 _) 1 _) 2 _) 3 _) 4 _)).p)))
      (first
        | (go_at_call 27; first | (with_reducible refine (HN2_.out _ (HT.out.below h8P.p.hb)).mono ?_; rintro e w' ⟨rfl, hb_⟩; have n8_ := h8P.step hb_; clear h8P hb_; have h8P := n8_; clear n8_; (try clear ka0 kb0 ka1 kb1 ka2 kb2 ka3 kb3 ka4 kb4); (try clear hc2 hc3 en2 en3); have hc2 := (h8P.p.hr).at_ 2 _ hx2; have hc3 := (h8P.p.hr).at_ 3 _ hx3; have en2 := World.new_ne _ _ hc2; have en3 := World.new_ne _ _ hc3; have ka0 := h8P.cell8 0 _ rfl; have kb0 := blk_frozen h8P.h8 0; have ka1 := h8P.cell8 1 _ rfl; have kb1 := blk_frozen h8P.h8 1; have ka2 := h8P.cell8 2 _ rfl; have kb2 := blk_frozen h8P.h8 2; have ka3 := h8P.cell8 3 _ rfl; have kb3 := blk_frozen h8P.h8 3; have ka4 := h8P.cell8 4 _ rfl; have kb4 := blk_frozen h8P.h8 4) | (with_reducible refine (HN2_.out _ (HT.out.below (P8.alloc hP #[.int .i64 0, .string ⟨#[]⟩, .string ⟨#[]⟩, .int .i64 0, .int .i64 0]).p.hb)).mono ?_; rintro e w' ⟨rfl, hb_⟩; have h8P := (P8.alloc hP #[.int .i64 0, .string ⟨#[]⟩, .string ⟨#[]⟩, .int .i64 0, .int .i64 0]).step hb_; clear hP hb_; (try clear hc2 hc3 en2 en3); have hc2 := (h8P.p.hr).at_ 2 _ hx2; have hc3 := (h8P.p.hr).at_ 3 _ hx3; have en2 := World.new_ne _ _ hc2; have en3 := World.new_ne _ _ hc3; have ka0 := h8P.cell8 0 _ rfl; have kb0 := blk_frozen h8P.h8 0; have ka1 := h8P.cell8 1 _ rfl; have kb1 := blk_frozen h8P.h8 1; have ka2 := h8P.cell8 2 _ rfl; have kb2 := blk_frozen h8P.h8 2; have ka3 := h8P.cell8 3 _ rfl; have kb3 := blk_frozen h8P.h8 3; have ka4 := h8P.cell8 4 _ rfl; have kb4 := blk_frozen h8P.h8 4) | (with_reducible refine (HN2_.out _ (HT.out.below (P8.drew (P8.alloc h0P #[.int .i64 0, .string ⟨#[]⟩, .string ⟨#[]⟩, .int .i64 0, .int .i64 0])).p.hb)).mono ?_; rintro e w' ⟨rfl, hb_⟩; have h8P := (P8.drew (P8.alloc h0P #[.int .i64 0, .string ⟨#[]⟩, .string ⟨#[]⟩, .int .i64 0, .int .i64 0])).step hb_; clear hP h0P hb_; (try clear hc2 hc3 en2 en3); have hc2 := (h8P.p.hr).at_ 2 _ hx2; have hc3 := (h8P.p.hr).at_ 3 _ hx3; have en2 := World.new_ne _ _ hc2; have en3 := World.new_ne _ _ hc3; have ka0 := h8P.cell8 0 _ rfl; have kb0 := blk_frozen h8P.h8 0; have ka1 := h8P.cell8 1 _ rfl; have kb1 := blk_frozen h8P.h8 1; have ka2 := h8P.cell8 2 _ rfl; have kb2 := blk_frozen h8P.h8 2; have ka3 := h8P.cell8 3 _ rfl; have kb3 := blk_frozen h8P.h8 3; have ka4 := h8P.cell8 4 _ rfl; have kb4 := blk_frozen h8P.h8 4) | (with_reducible refine (HN2_.out _ (HT.out.below hP.hb)).mono ?_; rintro e w' ⟨rfl, hb_⟩; have n_ := hP.step hb_; clear hP hb_; have hP := n_; clear n_; (try clear hc2 hc3 en2 en3); have hc2 := (hP.hr).at_ 2 _ hx2; have hc3 := (hP.hr).at_ 3 _ hx3; have en2 := World.new_ne _ _ hc2; have en3 := World.new_ne _ _ hc3))
        | (go_at_call 27; first | (with_reducible refine (HN3_.out _ (HT.out.below h8P.p.hb)).mono ?_; rintro e w' ⟨rfl, hb_⟩; have n8_ := h8P.step hb_; clear h8P hb_; have h8P := n8_; clear n8_; (try clear ka0 kb0 ka1 kb1 ka2 kb2 ka3 kb3 ka4 kb4); (try clear hc2 hc3 en2 en3); have hc2 := (h8P.p.hr).at_ 2 _ hx2; have hc3 := (h8P.p.hr).at_ 3 _ hx3; have en2 := World.new_ne _ _ hc2; have en3 := World.new_ne _ _ hc3; have ka0 := h8P.cell8 0 _ rfl; have kb0 := blk_frozen h8P.h8 0; have ka1 := h8P.cell8 1 _ rfl; have kb1 := blk_frozen h8P.h8 1; have ka2 := h8P.cell8 2 _ rfl; have kb2 := blk_frozen h8P.h8 2; have ka3 := h8P.cell8 3 _ rfl; have kb3 := blk_frozen h8P.h8 3; have ka4 := h8P.cell8 4 _ rfl; have kb4 := blk_frozen h8P.h8 4) | (with_reducible refine (HN3_.out _ (HT.out.below (P8.alloc hP #[.int .i64 0, .string ⟨#[]⟩, .string ⟨#[]⟩, .int .i64 0, .int .i64 0]).p.hb)).mono ?_; rintro e w' ⟨rfl, hb_⟩; have h8P := (P8.alloc hP #[.int .i64 0, .string ⟨#[]⟩, .string ⟨#[]⟩, .int .i64 0, .int .i64 0]).step hb_; clear hP hb_; (try clear hc2 hc3 en2 en3); have hc2 := (h8P.p.hr).at_ 2 _ hx2; have hc3 := (h8P.p.hr).at_ 3 _ hx3; have en2 := World.new_ne _ _ hc2; have en3 := World.new_ne _ _ hc3; have ka0 := h8P.cell8 0 _ rfl; have kb0 := blk_frozen h8P.h8 0; have ka1 := h8P.cell8 1 _ rfl; have kb1 := blk_frozen h8P.h8 1; have ka2 := h8P.cell8 2 _ rfl; have kb2 := blk_frozen h8P.h8 2; have ka3 := h8P.cell8 3 _ rfl; have kb3 := blk_frozen h8P.h8 3; have ka4 := h8P.cell8 4 _ rfl; have kb4 := blk_frozen h8P.h8 4) | (with_reducible refine (HN3_.out _ (HT.out.below (P8.drew (P8.alloc h0P #[.int .i64 0, .string ⟨#[]⟩, .string ⟨#[]⟩, .int .i64 0, .int .i64 0])).p.hb)).mono ?_; rintro e w' ⟨rfl, hb_⟩; have h8P := (P8.drew (P8.alloc h0P #[.int .i64 0, .string ⟨#[]⟩, .string ⟨#[]⟩, .int .i64 0, .int .i64 0])).step hb_; clear hP h0P hb_; (try clear hc2 hc3 en2 en3); have hc2 := (h8P.p.hr).at_ 2 _ hx2; have hc3 := (h8P.p.hr).at_ 3 _ hx3; have en2 := World.new_ne _ _ hc2; have en3 := World.new_ne _ _ hc3; have ka0 := h8P.cell8 0 _ rfl; have kb0 := blk_frozen h8P.h8 0; have ka1 := h8P.cell8 1 _ rfl; have kb1 := blk_frozen h8P.h8 1; have ka2 := h8P.cell8 2 _ rfl; have kb2 := blk_frozen h8P.h8 2; have ka3 := h8P.cell8 3 _ rfl; have kb3 := blk_frozen h8P.h8 3; have ka4 := h8P.cell8 4 _ rfl; have kb4 := blk_frozen h8P.h8 4) | (with_reducible refine (HN3_.out _ (HT.out.below hP.hb)).mono ?_; rintro e w' ⟨rfl, hb_⟩; have n_ := hP.step hb_; clear hP hb_; have hP := n_; clear n_; (try clear hc2 hc3 en2 en3); have hc2 := (hP.hr).at_ 2 _ hx2; have hc3 := (hP.hr).at_ 3 _ hx3; have en2 := World.new_ne _ _ hc2; have en3 := World.new_ne _ _ hc3)))) | fail
    all_goals (go_wp2_with fail; go_meet)
    all_goals (first | with_reducible exact ⟨_, rfl, P8.alloc hP _⟩ | with_reducible exact ⟨_, rfl, (P8.alloc h0P _).drew⟩ | exact ⟨_, rfl, (P8.put8' (c8' := #[.int .i64 4, .string ⟨#[]⟩, .string ⟨#[]⟩, .int .i64 v2, .int .i64 v3]) (P8.put8' (c8' := #[.int .i64 4, .string ⟨#[]⟩, .string ⟨#[]⟩, .int .i64 v2, .int .i64 0]) (P8.put8' (c8' := #[.int .i64 4, .string ⟨#[]⟩, .string ⟨#[]⟩, .int .i64 0, .int .i64 0]) (P8.put8' (c8' := #[.int .i64 4, .string ⟨#[]⟩, .string ⟨#[]⟩, .int .i64 0, .int .i64 0]) (P8.put8' (c8' := #[.int .i64 4, .string ⟨#[]⟩, .string ⟨#[]⟩, .int .i64 0, .int .i64 0]) h8P 0 _ rfl) 1 _ rfl) 2 _ rfl) 3 _ rfl) 4 _ rfl)⟩)
  case rest =>
    obtain ⟨g8, rfl, h8P⟩ := hcut
    have hc1 := h8P.p.hr.at_ 1 _ hx1
    have ka0 := h8P.cell8 0 _ rfl
    have kb0 := blk_frozen h8P.h8 0
    go_upto_if 129 with (fail)
    go_cut [] (fun wx => P8 w g2 g5 B g8 xs #[.int .i64 0, .string ⟨#[]⟩, .string ⟨#[]⟩, .int .i64 0, .int .i64 0] #[.int .i64 0, .string ⟨#[]⟩, .string ⟨#[]⟩, .int .i64 0, .int .i64 0] #[.int .i64 5, .string ⟨#[]⟩, .string ⟨#[]⟩, .int .i64 v2, .int .i64 v3] wx)
    case first =>
      go_wp2_with fail
      go_meet
      exact P8.put8' (c8' := #[.int .i64 5, .string ⟨#[]⟩, .string ⟨#[]⟩, .int .i64 v2, .int .i64 v3]) h8P 0 (.int .i64 5) rfl
    case rest =>
    clear hc1 h8P
    have h8P := hcut
    clear ka0 kb0
    go_upto_region 19 with (fail)
    have h9P := h8P
    clear h8P HT HN2_ HN3_ hx0 hx1 hx2 hx3
    have ka0 := h9P.cell8 0 (.int .i64 5) rfl
    have ka1 := h9P.cell8 1 (.string ⟨#[]⟩) rfl
    have ka2 := h9P.cell8 2 (.string ⟨#[]⟩) rfl
    have ka3 := h9P.cell8 3 (.int .i64 v2) rfl
    have ka4 := h9P.cell8 4 (.int .i64 v3) rfl
    have kc0 := h9P.p.cell2 0 (.int .i64 0) rfl
    have kc1 := h9P.p.cell2 1 (.string ⟨#[]⟩) rfl
    have kc2 := h9P.p.cell2 2 (.string ⟨#[]⟩) rfl
    have kc3 := h9P.p.cell2 3 (.int .i64 0) rfl
    have kc4 := h9P.p.cell2 4 (.int .i64 0) rfl
    have kd0 := blk_frozen h9P.p.h2 0
    have kd1 := blk_frozen h9P.p.h2 1
    have kd2 := blk_frozen h9P.p.h2 2
    have kd3 := blk_frozen h9P.p.h2 3
    have kd4 := blk_frozen h9P.p.h2 4
    have hbl := h9P.p.hb
    have hl2 := h9P.p.l2
    have hn28 := h9P.n28
    have hh2 := h9P.p.h2
    clear h9P
    by_cases hv2 : 0 ≤ v2
    · rw [decide_eq_true hv2, Bool.true_and] at hb
      subst hb
      go_region
      all_goals
        go_wp2
        refine bodyPost_ret (ret30 rfl _ _ g2 rfl (by
          (try change (World.setCell _ _ _).heap[g2]? = _)
          refine blk_put (cs := #[.int .i64 5, .string ⟨#[]⟩, .string ⟨#[]⟩, .int .i64 v2, .int .i64 0]) ?_ 4 _ rfl
          refine blk_put (cs := #[.int .i64 5, .string ⟨#[]⟩, .string ⟨#[]⟩, .int .i64 0, .int .i64 0]) ?_ 3 _ rfl
          refine blk_put (cs := #[.int .i64 5, .string ⟨#[]⟩, .string ⟨#[]⟩, .int .i64 0, .int .i64 0]) ?_ 2 _ rfl
          refine blk_put (cs := #[.int .i64 5, .string ⟨#[]⟩, .string ⟨#[]⟩, .int .i64 0, .int .i64 0]) ?_ 1 _ rfl
          refine blk_put (cs := #[.int .i64 0, .string ⟨#[]⟩, .string ⟨#[]⟩, .int .i64 0, .int .i64 0]) ?_ 0 _ rfl
          exact hh2)) rfl ?_
        exact ⟨rfl, by (try refine Below.drew ?_); (repeat (refine below_set ?_ hl2)); first | exact hbl | exact hbl.drew⟩
    · rw [decide_eq_false hv2, Bool.false_and] at hb
      subst hb
      go_region
      all_goals
        go_wp2
        refine bodyPost_ret (ret30 rfl _ _ g2 rfl (by
          (try change (World.setCell _ _ _).heap[g2]? = _)
          refine blk_put (cs := #[.int .i64 5, .string ⟨#[]⟩, .string ⟨#[]⟩, .int .i64 v2, .int .i64 0]) ?_ 4 _ rfl
          refine blk_put (cs := #[.int .i64 5, .string ⟨#[]⟩, .string ⟨#[]⟩, .int .i64 0, .int .i64 0]) ?_ 3 _ rfl
          refine blk_put (cs := #[.int .i64 5, .string ⟨#[]⟩, .string ⟨#[]⟩, .int .i64 0, .int .i64 0]) ?_ 2 _ rfl
          refine blk_put (cs := #[.int .i64 5, .string ⟨#[]⟩, .string ⟨#[]⟩, .int .i64 0, .int .i64 0]) ?_ 1 _ rfl
          refine blk_put (cs := #[.int .i64 0, .string ⟨#[]⟩, .string ⟨#[]⟩, .int .i64 0, .int .i64 0]) ?_ 0 _ rfl
          exact hh2)) rfl ?_
        exact ⟨rfl, by (try refine Below.drew ?_); (repeat (refine below_set ?_ hl2)); first | exact hbl | exact hbl.drew⟩
end Go.Proofs.YtmgkgjacnbeboaaDoor.E
