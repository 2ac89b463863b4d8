/- What the reference's Parse calls, as contracts over rows of texts. -/
import Derived.Test.YtmgkgjacnbeboaaDoorH7
import Derived.Test.YtmgkgjacnbeboaaDoorE1
import Derived.Deep.RegionWith
import Derived.BigRegion
section
set_option linter.unusedVariables false
set_option linter.unusedSimpArgs false
namespace Go.Proofs.YtmgkgjacnbeboaaDoor.E
open Go.RowKit Go.Lib Go.Shelf Go.Proofs.YtmgkgjacnbeboaaDoorW.PrintWords Go.Proofs.YtmgkgjacnbeboaaDoorW.PrintLast Go.Proofs.YtmgkgjacnbeboaaDoorW.PrintMore
open S (mkB)
theorem rparts_len (s : ByteArray) : 0 < (D.splitS s).length ∧ (D.splitS s).length ≤ s.size + 1 := by
  have h1 := D.spl_len s.data.toList ⟨#[]⟩
  rw [S.size_list] at h1
  refine ⟨?_, h1⟩
  have h2 := D.splitS_data s
  cases h : D.splitS s with
  | nil => rw [h] at h2; exact absurd h2.symm (by simpa using Nm.split_nonempty s.data.toList)
  | cons a t => simp
theorem rpart_at (s : ByteArray) (i : Nat) : Nm.part (G.split s.data.toList) i = ((D.splitS s).getD i ⟨#[]⟩).data.toList := by
  unfold Nm.part
  rw [← D.splitS_data s]
  by_cases h : i < (D.splitS s).length
  · simp [h]
  · simp [List.getElem?_eq_none (Nat.le_of_not_lt h)]
theorem rpart_len (s : ByteArray) : (G.split s.data.toList).length = (D.splitS s).length := by rw [← D.splitS_data s]; simp
theorem rpart_size (s : ByteArray) (i : Nat) (hs : s.size ≤ 1000) : ((D.splitS s).getD i ⟨#[]⟩).size ≤ 1000 := by
  by_cases h : i < (D.splitS s).length
  · have hm : (D.splitS s).getD i ⟨#[]⟩ ∈ D.splitS s := by simp [h]
    have hmm : ((D.splitS s).getD i ⟨#[]⟩).data.toList ∈ G.split s.data.toList := by rw [← D.splitS_data s]; exact List.mem_map_of_mem hm
    have := split_le s.data.toList _ hmm
    rw [S.size_list, S.size_list] at this; omega
  · have e : (D.splitS s).getD i ⟨#[]⟩ = ⟨#[]⟩ := by simp [List.getElem?_eq_none (Nat.le_of_not_lt h)]
    rw [e]; exact Nat.zero_le _
/-- The reference's Split: a new row of the parts. -/
theorem rsplit_c (s : ByteArray) (W : World) (hs : s.size ≤ 1000) : Calls Tryd.prog 26 #[.string s] W fun e w' => ∃ B cap, W.heap.size ≤ B ∧ e = .returned (.slice (some ⟨B, 0, none⟩) (D.splitS s).length cap) ∧ Row B (D.splitS s) w' ∧ Below W.heap.size W w' := by
  refine (Y.imprimaturref13_Split.calls (s.size + 1) s (D.splitS s) W (D.split_f s (by omega) _ (by omega))).mono ?_
  rintro e w' ⟨v, rfl, hR, hb⟩
  have ho := Kd.own_of_R hR
  have hl := (rparts_len s).1
  obtain ⟨hlen, h⟩ := ho
  rcases h with ⟨rfl, h0⟩ | ⟨g, cap, cur, rfl, hg, hcur, h1, h2, h3, h4⟩
  · omega
  · refine ⟨g, cap, hg, rfl, ⟨fun j x hx => ?_, lt_of_at hcur⟩, hb⟩
    have hj : j < (D.splitS s).length := (List.getElem?_eq_some_iff.1 hx).1
    have he : (cur.toList.take ((D.splitS s).length * 1))[j]? = some (.string x) := by
      rw [h4]
      simp [encs, hx]
    rw [List.getElem?_take_of_lt (by omega)] at he
    have hcj : cur[j]? = some (.string x) := by rw [← Array.getElem?_toList]; exact he
    simp [World.cell?, hcur, hcj]
theorem rnum_c (s : ByteArray) (W : World) (hs : s.size ≤ 1000) (ht : Tabs W) : Calls Tryd.prog 27 #[.string s] W fun e w' => e = .returned (.int .i64 (Nm.numR s.data.toList)) ∧ Below W.heap.size W w' :=
  Y.imprimaturref20_number.calls (s.size + 1) s _ W ht (D.number_f s hs _ (by omega))
theorem runhex_c (s : ByteArray) (W : World) (hs : s.size ≤ 1000) : Calls Tryd.prog 28 #[.string s] W fun e w' => e = .returned (.tuple #[.string (mkB ((S.unhex s.data.toList).getD [])), .bool (S.unhex s.data.toList).isSome]) ∧ Below W.heap.size W w' := by
  refine (Y.imprimaturref01_Unhex.calls (2 * s.size + 4) s (D.rRes [] (S.unhex s.data.toList)).1 (D.rRes [] (S.unhex s.data.toList)).2 W (D.runhex_f s (by omega) _ (by omega))).mono fun e w' ⟨he, hb⟩ => ⟨he.trans ?_, hb⟩
  cases S.unhex s.data.toList <;> rfl
theorem rname_c (s : ByteArray) (W : World) (hs : s.size ≤ 1000) : Calls Tryd.prog 10 #[.string s] W fun e w' => e = .returned (.bool (Nm.nameOk s.data.toList)) ∧ Drawn0 W w' :=
  Y.imprimaturref15_Name.calls (s.size + 1) s _ W (D.name_f s hs _ (by omega))
theorem St2.row2 {w : World} {g2 B : Nat} {xs : List ByteArray} {c2 : Array Value} {W W' : World} (h : St2 w g2 c2 W) (hB : W.heap.size ≤ B) (hr : Row B xs W') (hb : Below W.heap.size W W') : St3 w g2 B xs c2 W' :=
  ⟨below_step h.hb hb, (hb.block g2 (lt_of_at h.h2)).trans h.h2, hr, h.l2, by have := lt_of_at h.h2; omega⟩
end Go.Proofs.YtmgkgjacnbeboaaDoor.E

end
section
set_option linter.unusedVariables false
set_option linter.unusedSimpArgs false
namespace Go.Proofs.YtmgkgjacnbeboaaDoor.E
open Go.RowKit Go.Lib Go.Shelf Go.Proofs.YtmgkgjacnbeboaaDoorW.PrintWords Go.Proofs.YtmgkgjacnbeboaaDoorW.PrintLast Go.Proofs.YtmgkgjacnbeboaaDoorW.PrintMore
open S (mkB)
attribute [local irreducible] Nm.nameOk Nm.within Lib.itoa Lib.mapD Lib.join S.hexs Nm.kd KD Nm.metaN Nm.dataN Nm.logN Nm.nmS G.split Nm.numR S.unhex
theorem Pst.drew2 {w : World} {g2 g5 B : Nat} {xs : List ByteArray} {c2 c5 : Array Value} {W : World} (h : Pst w g2 g5 B xs c2 c5 W) : Pst w g2 g5 B xs c2 c5 W.drew :=
  ⟨h.hb.drew, h.h2, h.h5, ⟨h.hr.at_, h.hr.lt⟩, h.l2, h.l5, h.n25, h.n2B, h.n5B⟩
theorem Pst.cell2 {w : World} {g2 g5 B : Nat} {xs : List ByteArray} {c2 c5 : Array Value} {W : World} (h : Pst w g2 g5 B xs c2 c5 W) (j : Nat) (v : Value) (hv : c2[j]? = some v) : W.cell? ⟨g2, j, none⟩ = some v := by
  simp [World.cell?, h.h2, hv]
def RParsed (w : World) (r : Nm.Ask × Bool) (e : Ending) (w' : World) : Prop := e = .returned (.tuple #[asksV r.1, .bool r.2]) ∧ Below w.heap.size w w'
set_option maxHeartbeats 4000000 in
set_option maxRecDepth 100000 in
theorem RParse_leaf (s : ByteArray) (w : World) (hs : s.size ≤ 1000) (ht : Tabs w) (hn3 : (D.splitS s).length = 3) (h0 : ((D.splitS s).getD 0 ⟨#[]⟩).data.toList = Nm.LOG) (h1 : ((D.splitS s).getD 1 ⟨#[]⟩).data.toList = Nm.LEAF) :
    Calls Tryd.prog 14 #[.string s] w (RParsed w ((6, [], [], Nm.numR ((D.splitS s).getD 2 ⟨#[]⟩).data.toList, 0), decide (0 ≤ Nm.numR ((D.splitS s).getD 2 ⟨#[]⟩).data.toList))) := by
  have hSp := fun W => rsplit_c s W hs
  have hx0 : (D.splitS s)[0]? = some (⟨#[108, 111, 103]⟩ : ByteArray) := by
    have e0 : (D.splitS s).getD 0 ⟨#[]⟩ = (⟨#[108, 111, 103]⟩ : ByteArray) := by
      rw [← S.mkB_data ((D.splitS s).getD 0 ⟨#[]⟩), h0]; rfl
    rw [← e0]; simp [hn3]
  have hx1 : (D.splitS s)[1]? = some (⟨#[108, 101, 97, 102]⟩ : ByteArray) := by
    have e0 : (D.splitS s).getD 1 ⟨#[]⟩ = (⟨#[108, 101, 97, 102]⟩ : ByteArray) := by
      rw [← S.mkB_data ((D.splitS s).getD 1 ⟨#[]⟩), h1]; rfl
    rw [← e0]; simp [hn3]
  have hx2 : (D.splitS s)[2]? = some ((D.splitS s).getD 2 ⟨#[]⟩) := by simp [hn3]
  have hN := fun W hw => rnum_c ((D.splitS s).getD 2 ⟨#[]⟩) W (rpart_size s 2 hs) hw
  rw [hn3] at hSp
  unfold RParsed
  clear h0 h1 hn3 hs
  generalize (D.splitS s).getD 2 ⟨#[]⟩ = r2 at *
  generalize Nm.numR r2.data.toList = v at *
  generalize D.splitS s = xs at *
  have HT := Aside0.mk ht
  have HN_ := Aside0.mk hN
  clear ht hN
  go_enter Tryd.func14, Tryd.ntmps14
  go_upto_region 13 with (first
    | ((with_reducible refine gate_dst (N := 2) rfl ?_); refine box_event ?hg (N := 2) ?hd (cs := #[.int .i64 0, .string ⟨#[]⟩, .string ⟨#[]⟩, .int .i64 0, .int .i64 0]) (t := 30) ?hr ?_; (case hd => rfl); (case hg => rfl); (case hr => first | (go_simp; done) | (go_simp; rfl)); intro g2 eg2 Wg2 hxg2 hbg2; have b2 := Aside0.mk (show St2 w g2 _ Wg2 from ⟨hbg2, hxg2, by omega⟩); clear hbg2 hxg2 eg2)
    | (go_at_call 26; (with_reducible refine (hSp _).mono ?_); clear hSp; rintro e w1 ⟨B, cap, hB, rfl, hrow, hb_⟩; have b3 := Aside0.mk (b2.out.row2 hB hrow hb_); clear b2 hB hrow hb_)
    | ((with_reducible refine gate_dst (N := 5) rfl ?_); refine box_event ?hg (N := 5) ?hd (cs := #[.int .i64 0, .string ⟨#[]⟩, .string ⟨#[]⟩, .int .i64 0, .int .i64 0]) (t := 30) ?hr ?_; (case hd => rfl); (case hg => rfl); (case hr => first | (go_simp; done) | (go_simp; rfl)); intro g5 eg5 Wg5 hxg5 hbg5; have HP := Aside0.mk (b3.out.box hxg5 hbg5 eg5); clear b3 hxg5 hbg5 eg5)
    | ((with_reducible refine gate_store (t := 30) (p := 5) (v := .tmp 11) rfl ?_); refine store30 rfl _ _ rfl g5 _ _ _ _ _ rfl rfl HP.out.h5 ?_; intro WS hWS; have n0_ := Aside0.mk (hWS ▸ HP.out.set5 #[.int .i64 0, .string ⟨#[]⟩, .string ⟨#[]⟩, .int .i64 0, .int .i64 0]); clear HP hWS; have HP := n0_; clear n0_; have hc0 := HP.out.hr.at_ 0 _ hx0; have hc1 := HP.out.hr.at_ 1 _ hx1; have hc2 := HP.out.hr.at_ 2 _ hx2))
  go_region_with (first
    | (go_at_call 27; (with_reducible refine (HN_.out _ (HT.out.below HP.out.hb)).mono ?_); rintro e w' ⟨rfl, hb_⟩; have n0_ := Aside0.mk (HP.out.step hb_); clear HP; have HP := n0_; clear n0_; clear hb_; (try clear hc0 hc1); clear hc2; (try clear ka0 kb0 ka1 kb1 ka2 kb2 ka3 kb3 ka4 kb4); have hc2 := HP.out.hr.at_ 2 _ hx2; have ka0 := HP.out.cell2 0 _ rfl; have kb0 := blk_frozen HP.out.h2 0; have ka1 := HP.out.cell2 1 _ rfl; have kb1 := blk_frozen HP.out.h2 1; have ka2 := HP.out.cell2 2 _ rfl; have kb2 := blk_frozen HP.out.h2 2; have ka3 := HP.out.cell2 3 _ rfl; have kb3 := blk_frozen HP.out.h2 3; have ka4 := HP.out.cell2 4 _ rfl; have kb4 := blk_frozen HP.out.h2 4)
    | (go_at_call 27; (with_reducible refine (HN_.out _ (HT.out.below HP.out.drew2.hb)).mono ?_); rintro e w' ⟨rfl, hb_⟩; have n0_ := Aside0.mk (HP.out.drew2.step hb_); clear HP; have HP := n0_; clear n0_; clear hb_; (try clear hc0 hc1); clear hc2; (try clear ka0 kb0 ka1 kb1 ka2 kb2 ka3 kb3 ka4 kb4); have hc2 := HP.out.hr.at_ 2 _ hx2; have ka0 := HP.out.cell2 0 _ rfl; have kb0 := blk_frozen HP.out.h2 0; have ka1 := HP.out.cell2 1 _ rfl; have kb1 := blk_frozen HP.out.h2 1; have ka2 := HP.out.cell2 2 _ rfl; have kb2 := blk_frozen HP.out.h2 2; have ka3 := HP.out.cell2 3 _ rfl; have kb3 := blk_frozen HP.out.h2 3; have ka4 := HP.out.cell2 4 _ rfl; have kb4 := blk_frozen HP.out.h2 4))
  all_goals
    go_wp2
    refine bodyPost_ret (ret30 rfl _ _ g2 rfl (by
      refine blk_put (cs := #[.int .i64 6, .string ⟨#[]⟩, .string ⟨#[]⟩, .int .i64 v, .int .i64 0]) ?_ 4 _ rfl
      refine blk_put (cs := #[.int .i64 6, .string ⟨#[]⟩, .string ⟨#[]⟩, .int .i64 0, .int .i64 0]) ?_ 3 _ rfl
      refine blk_put (cs := #[.int .i64 6, .string ⟨#[]⟩, .string ⟨#[]⟩, .int .i64 0, .int .i64 0]) ?_ 2 _ rfl
      refine blk_put (cs := #[.int .i64 6, .string ⟨#[]⟩, .string ⟨#[]⟩, .int .i64 0, .int .i64 0]) ?_ 1 _ rfl
      refine blk_put (cs := #[.int .i64 0, .string ⟨#[]⟩, .string ⟨#[]⟩, .int .i64 0, .int .i64 0]) ?_ 0 _ rfl
      exact HP.out.h2)) rfl ?_
    exact ⟨rfl, by (repeat (refine below_set ?_ HP.out.l2)); exact HP.out.hb⟩
end Go.Proofs.YtmgkgjacnbeboaaDoor.E

end
section
set_option linter.unusedVariables false
set_option linter.unusedSimpArgs false
namespace Go.Proofs.YtmgkgjacnbeboaaDoor.E
open Go.RowKit Go.Lib Go.Shelf Go.Proofs.YtmgkgjacnbeboaaDoorW.PrintWords Go.Proofs.YtmgkgjacnbeboaaDoorW.PrintLast Go.Proofs.YtmgkgjacnbeboaaDoorW.PrintMore
open S (mkB)
attribute [local irreducible] Nm.nameOk Nm.within Lib.itoa Lib.mapD Lib.join S.hexs Nm.kd KD Nm.metaN Nm.dataN Nm.logN Nm.nmS G.split Nm.numR S.unhex
theorem neLit (x : ByteArray) (l : List UInt8) (h : x.data.toList ≠ l) : (x.toList == l) = false := by rw [S.toList_list]; exact beq_eq_false_iff_ne.mpr h
set_option maxHeartbeats 4000000 in
set_option maxRecDepth 100000 in
/-- Fewer than two parts, or the first is no "log" (nor what asks for metadata or data): none. -/
theorem RParse_none (s : ByteArray) (w : World) (hs : s.size ≤ 1000) (h3 : (D.splitS s).length = 3 → ((D.splitS s).getD 0 ⟨#[]⟩).data.toList ≠ Nm.META) (h2 : (D.splitS s).length = 2 → ((D.splitS s).getD 0 ⟨#[]⟩).data.toList ≠ Nm.DATA)
    (h1 : 2 ≤ (D.splitS s).length → ((D.splitS s).getD 0 ⟨#[]⟩).data.toList ≠ Nm.LOG) :
    Calls Tryd.prog 14 #[.string s] w (RParsed w (Nm.nil, false)) := by
  have hSp := fun W => rsplit_c s W hs
  have hpl := rparts_len s
  have hx0 : (D.splitS s)[0]? = some ((D.splitS s).getD 0 ⟨#[]⟩) := by simp [hpl.1]
  unfold RParsed
  rw [show asksV (Nm.nil, false).1 = .agg #[.int .i64 0, .string ⟨#[]⟩, .string ⟨#[]⟩, .int .i64 0, .int .i64 0] from rfl]
  have m3 := fun h => neLit _ _ (h3 h)
  have m2 := fun h => neLit _ _ (h2 h)
  have m1 := fun h => neLit _ _ (h1 h)
  unfold Nm.META at m3
  unfold Nm.DATA at m2
  unfold Nm.LOG at m1
  clear h1 h2 h3
  generalize (D.splitS s).getD 0 ⟨#[]⟩ = l0 at *
  generalize D.splitS s = xs at *
  generalize hn : xs.length = n at *
  have hps := hpl.1
  have hpz := hpl.2
  clear hpl hn
  by_cases n1 : n = 1
  · subst n1
    clear m1 m2 m3 hs
    go_enter Tryd.func14, Tryd.ntmps14
    go_wp2_with (first
      | ((with_reducible refine gate_dst (N := 2) rfl ?_); refine box_event ?hg (N := 2) ?hd (cs := #[.int .i64 0, .string ⟨#[]⟩, .string ⟨#[]⟩, .int .i64 0, .int .i64 0]) (t := 30) ?hr ?_; (case hd => rfl); (case hg => rfl); (case hr => first | (go_simp; done) | (go_simp; rfl)); intro g2 eg2 Wg2 hxg2 hbg2; have b2 := Aside0.mk (show St2 w g2 _ Wg2 from ⟨hbg2, hxg2, by omega⟩); clear hbg2 hxg2 eg2)
      | (go_at_call 26; (with_reducible refine (hSp _).mono ?_); clear hSp; rintro e w1 ⟨B, cap, hB, rfl, hrow, hb_⟩; have b3 := Aside0.mk (b2.out.row2 hB hrow hb_); clear b2 hB hrow hb_)
      | ((with_reducible refine gate_dst (N := 5) rfl ?_); refine box_event ?hg (N := 5) ?hd (cs := #[.int .i64 0, .string ⟨#[]⟩, .string ⟨#[]⟩, .int .i64 0, .int .i64 0]) (t := 30) ?hr ?_; (case hd => rfl); (case hg => rfl); (case hr => first | (go_simp; done) | (go_simp; rfl)); intro g5 eg5 Wg5 hxg5 hbg5; have HP := Aside0.mk (b3.out.box hxg5 hbg5 eg5); clear b3 hxg5 hbg5 eg5)
      | ((with_reducible refine gate_store (t := 30) (p := 5) (v := .tmp 11) rfl ?_); refine store30 rfl _ _ rfl g5 _ _ _ _ _ rfl rfl HP.out.h5 ?_; intro WS hWS; have n0_ := Aside0.mk (hWS ▸ HP.out.set5 #[.int .i64 0, .string ⟨#[]⟩, .string ⟨#[]⟩, .int .i64 0, .int .i64 0]); clear HP hWS; have HP := n0_; clear n0_; have hc0 := HP.out.hr.at_ 0 _ hx0)
      | ((with_reducible refine gate_dst (N := 73) rfl ?_); refine load30 rfl _ rfl g5 rfl HP.out.h5 ?_)
      | ((with_reducible refine gate_store (t := 30) (p := 2) (v := .tmp 73) rfl ?_); refine store30 rfl _ _ rfl g2 _ _ _ _ _ rfl rfl HP.out.h2 ?_; intro WZ hWZ; have n0_ := Aside0.mk (hWZ ▸ HP.out.set2 #[.int .i64 0, .string ⟨#[]⟩, .string ⟨#[]⟩, .int .i64 0, .int .i64 0]); clear HP hWZ; have HP := n0_; clear n0_))
    refine bodyPost_ret (ret30 rfl _ _ g2 rfl HP.out.h2) rfl ?_
    exact ⟨rfl, HP.out.hb⟩
  · have m1' := m1 (by omega)
    by_cases n2 : n = 2
    · subst n2
      have m2' := m2 rfl
      clear m1 m2 m3 hs
      go_enter Tryd.func14, Tryd.ntmps14
      go_wp2_with (first
        | ((with_reducible refine gate_dst (N := 2) rfl ?_); refine box_event ?hg (N := 2) ?hd (cs := #[.int .i64 0, .string ⟨#[]⟩, .string ⟨#[]⟩, .int .i64 0, .int .i64 0]) (t := 30) ?hr ?_; (case hd => rfl); (case hg => rfl); (case hr => first | (go_simp; done) | (go_simp; rfl)); intro g2 eg2 Wg2 hxg2 hbg2; have b2 := Aside0.mk (show St2 w g2 _ Wg2 from ⟨hbg2, hxg2, by omega⟩); clear hbg2 hxg2 eg2)
        | (go_at_call 26; (with_reducible refine (hSp _).mono ?_); clear hSp; rintro e w1 ⟨B, cap, hB, rfl, hrow, hb_⟩; have b3 := Aside0.mk (b2.out.row2 hB hrow hb_); clear b2 hB hrow hb_)
        | ((with_reducible refine gate_dst (N := 5) rfl ?_); refine box_event ?hg (N := 5) ?hd (cs := #[.int .i64 0, .string ⟨#[]⟩, .string ⟨#[]⟩, .int .i64 0, .int .i64 0]) (t := 30) ?hr ?_; (case hd => rfl); (case hg => rfl); (case hr => first | (go_simp; done) | (go_simp; rfl)); intro g5 eg5 Wg5 hxg5 hbg5; have HP := Aside0.mk (b3.out.box hxg5 hbg5 eg5); clear b3 hxg5 hbg5 eg5)
        | ((with_reducible refine gate_store (t := 30) (p := 5) (v := .tmp 11) rfl ?_); refine store30 rfl _ _ rfl g5 _ _ _ _ _ rfl rfl HP.out.h5 ?_; intro WS hWS; have n0_ := Aside0.mk (hWS ▸ HP.out.set5 #[.int .i64 0, .string ⟨#[]⟩, .string ⟨#[]⟩, .int .i64 0, .int .i64 0]); clear HP hWS; have HP := n0_; clear n0_; have hc0 := HP.out.hr.at_ 0 _ hx0)
        | ((with_reducible refine gate_dst (N := 73) rfl ?_); refine load30 rfl _ rfl g5 rfl HP.out.h5 ?_)
        | ((with_reducible refine gate_store (t := 30) (p := 2) (v := .tmp 73) rfl ?_); refine store30 rfl _ _ rfl g2 _ _ _ _ _ rfl rfl HP.out.h2 ?_; intro WZ hWZ; have n0_ := Aside0.mk (hWZ ▸ HP.out.set2 #[.int .i64 0, .string ⟨#[]⟩, .string ⟨#[]⟩, .int .i64 0, .int .i64 0]); clear HP hWZ; have HP := n0_; clear n0_))
      refine bodyPost_ret (ret30 rfl _ _ g2 rfl HP.out.h2) rfl ?_
      exact ⟨rfl, HP.out.hb⟩
    · by_cases n3 : n = 3
      · subst n3
        have m3' := m3 rfl
        clear m1 m2 m3 hs
        go_enter Tryd.func14, Tryd.ntmps14
        go_wp2_with (first
          | ((with_reducible refine gate_dst (N := 2) rfl ?_); refine box_event ?hg (N := 2) ?hd (cs := #[.int .i64 0, .string ⟨#[]⟩, .string ⟨#[]⟩, .int .i64 0, .int .i64 0]) (t := 30) ?hr ?_; (case hd => rfl); (case hg => rfl); (case hr => first | (go_simp; done) | (go_simp; rfl)); intro g2 eg2 Wg2 hxg2 hbg2; have b2 := Aside0.mk (show St2 w g2 _ Wg2 from ⟨hbg2, hxg2, by omega⟩); clear hbg2 hxg2 eg2)
          | (go_at_call 26; (with_reducible refine (hSp _).mono ?_); clear hSp; rintro e w1 ⟨B, cap, hB, rfl, hrow, hb_⟩; have b3 := Aside0.mk (b2.out.row2 hB hrow hb_); clear b2 hB hrow hb_)
          | ((with_reducible refine gate_dst (N := 5) rfl ?_); refine box_event ?hg (N := 5) ?hd (cs := #[.int .i64 0, .string ⟨#[]⟩, .string ⟨#[]⟩, .int .i64 0, .int .i64 0]) (t := 30) ?hr ?_; (case hd => rfl); (case hg => rfl); (case hr => first | (go_simp; done) | (go_simp; rfl)); intro g5 eg5 Wg5 hxg5 hbg5; have HP := Aside0.mk (b3.out.box hxg5 hbg5 eg5); clear b3 hxg5 hbg5 eg5)
          | ((with_reducible refine gate_store (t := 30) (p := 5) (v := .tmp 11) rfl ?_); refine store30 rfl _ _ rfl g5 _ _ _ _ _ rfl rfl HP.out.h5 ?_; intro WS hWS; have n0_ := Aside0.mk (hWS ▸ HP.out.set5 #[.int .i64 0, .string ⟨#[]⟩, .string ⟨#[]⟩, .int .i64 0, .int .i64 0]); clear HP hWS; have HP := n0_; clear n0_; have hc0 := HP.out.hr.at_ 0 _ hx0)
          | ((with_reducible refine gate_dst (N := 73) rfl ?_); refine load30 rfl _ rfl g5 rfl HP.out.h5 ?_)
          | ((with_reducible refine gate_store (t := 30) (p := 2) (v := .tmp 73) rfl ?_); refine store30 rfl _ _ rfl g2 _ _ _ _ _ rfl rfl HP.out.h2 ?_; intro WZ hWZ; have n0_ := Aside0.mk (hWZ ▸ HP.out.set2 #[.int .i64 0, .string ⟨#[]⟩, .string ⟨#[]⟩, .int .i64 0, .int .i64 0]); clear HP hWZ; have HP := n0_; clear n0_))
        refine bodyPost_ret (ret30 rfl _ _ g2 rfl HP.out.h2) rfl ?_
        exact ⟨rfl, HP.out.hb⟩
      · have k3 : ((n : Int) == 3) = false := beq_eq_false_iff_ne.mpr (by omega)
        have k2 : ((n : Int) == 2) = false := beq_eq_false_iff_ne.mpr (by omega)
        have k1 : ¬ ((n : Int) < 2) := by omega
        clear m1 m2 m3 n1 n2 n3 hs
        go_enter Tryd.func14, Tryd.ntmps14
        go_wp2_with (first
          | ((with_reducible refine gate_dst (N := 2) rfl ?_); refine box_event ?hg (N := 2) ?hd (cs := #[.int .i64 0, .string ⟨#[]⟩, .string ⟨#[]⟩, .int .i64 0, .int .i64 0]) (t := 30) ?hr ?_; (case hd => rfl); (case hg => rfl); (case hr => first | (go_simp; done) | (go_simp; rfl)); intro g2 eg2 Wg2 hxg2 hbg2; have b2 := Aside0.mk (show St2 w g2 _ Wg2 from ⟨hbg2, hxg2, by omega⟩); clear hbg2 hxg2 eg2)
          | (go_at_call 26; (with_reducible refine (hSp _).mono ?_); clear hSp; rintro e w1 ⟨B, cap, hB, rfl, hrow, hb_⟩; have b3 := Aside0.mk (b2.out.row2 hB hrow hb_); clear b2 hB hrow hb_)
          | ((with_reducible refine gate_dst (N := 5) rfl ?_); refine box_event ?hg (N := 5) ?hd (cs := #[.int .i64 0, .string ⟨#[]⟩, .string ⟨#[]⟩, .int .i64 0, .int .i64 0]) (t := 30) ?hr ?_; (case hd => rfl); (case hg => rfl); (case hr => first | (go_simp; done) | (go_simp; rfl)); intro g5 eg5 Wg5 hxg5 hbg5; have HP := Aside0.mk (b3.out.box hxg5 hbg5 eg5); clear b3 hxg5 hbg5 eg5)
          | ((with_reducible refine gate_store (t := 30) (p := 5) (v := .tmp 11) rfl ?_); refine store30 rfl _ _ rfl g5 _ _ _ _ _ rfl rfl HP.out.h5 ?_; intro WS hWS; have n0_ := Aside0.mk (hWS ▸ HP.out.set5 #[.int .i64 0, .string ⟨#[]⟩, .string ⟨#[]⟩, .int .i64 0, .int .i64 0]); clear HP hWS; have HP := n0_; clear n0_; have hc0 := HP.out.hr.at_ 0 _ hx0)
          | ((with_reducible refine gate_dst (N := 73) rfl ?_); refine load30 rfl _ rfl g5 rfl HP.out.h5 ?_)
          | ((with_reducible refine gate_store (t := 30) (p := 2) (v := .tmp 73) rfl ?_); refine store30 rfl _ _ rfl g2 _ _ _ _ _ rfl rfl HP.out.h2 ?_; intro WZ hWZ; have n0_ := Aside0.mk (hWZ ▸ HP.out.set2 #[.int .i64 0, .string ⟨#[]⟩, .string ⟨#[]⟩, .int .i64 0, .int .i64 0]); clear HP hWZ; have HP := n0_; clear n0_))
        refine bodyPost_ret (ret30 rfl _ _ g2 rfl HP.out.h2) rfl ?_
        exact ⟨rfl, HP.out.hb⟩
set_option maxHeartbeats 4000000 in
set_option maxRecDepth 100000 in
theorem RParse_data (s : ByteArray) (w : World) (hs : s.size ≤ 1000) (hn2 : (D.splitS s).length = 2) (h0 : ((D.splitS s).getD 0 ⟨#[]⟩).data.toList = Nm.DATA) :
    Calls Tryd.prog 14 #[.string s] w (RParsed w ((2, [], (S.unhex ((D.splitS s).getD 1 ⟨#[]⟩).data.toList).getD [], 0, 0), (S.unhex ((D.splitS s).getD 1 ⟨#[]⟩).data.toList).isSome && decide (((S.unhex ((D.splitS s).getD 1 ⟨#[]⟩).data.toList).getD []).length = 32))) := by
  have hSp := fun W => rsplit_c s W hs
  have hx0 : (D.splitS s)[0]? = some (⟨#[100, 97, 116, 97]⟩ : ByteArray) := by
    have e0 : (D.splitS s).getD 0 ⟨#[]⟩ = (⟨#[100, 97, 116, 97]⟩ : ByteArray) := by
      rw [← S.mkB_data ((D.splitS s).getD 0 ⟨#[]⟩), h0]; rfl
    rw [← e0]; simp [hn2]
  have hx1 : (D.splitS s)[1]? = some ((D.splitS s).getD 1 ⟨#[]⟩) := by simp [hn2]
  have hU := fun W => runhex_c ((D.splitS s).getD 1 ⟨#[]⟩) W (rpart_size s 1 hs)
  rw [hn2] at hSp
  unfold RParsed
  clear h0 hn2 hs
  generalize (D.splitS s).getD 1 ⟨#[]⟩ = r1 at *
  generalize (S.unhex r1.data.toList).isSome = ok at *
  generalize (S.unhex r1.data.toList).getD [] = sm at *
  have hsz : ((mkB sm).size : Int) = (sm.length : Int) := by rw [S.mkB_size]
  rw [show asksV ((2, [], sm, 0, 0), ok && decide (sm.length = 32)).1 = .agg #[.int .i64 2, .string ⟨#[]⟩, .string (mkB sm), .int .i64 0, .int .i64 0] from rfl]
  generalize mkB sm = sb at *
  generalize sm.length = m at *
  generalize D.splitS s = xs at *
  have HU_ := Aside0.mk hU
  clear hU
  cases ok with
  | false =>
    rw [Bool.false_and]
    clear hsz
    go_enter Tryd.func14, Tryd.ntmps14
    go_wp2_with (first
      | ((with_reducible refine gate_dst (N := 2) rfl ?_); refine box_event ?hg (N := 2) ?hd (cs := #[.int .i64 0, .string ⟨#[]⟩, .string ⟨#[]⟩, .int .i64 0, .int .i64 0]) (t := 30) ?hr ?_; (case hd => rfl); (case hg => rfl); (case hr => first | (go_simp; done) | (go_simp; rfl)); intro g2 eg2 Wg2 hxg2 hbg2; have b2 := Aside0.mk (show St2 w g2 _ Wg2 from ⟨hbg2, hxg2, by omega⟩); clear hbg2 hxg2 eg2)
      | (go_at_call 26; (with_reducible refine (hSp _).mono ?_); clear hSp; rintro e w1 ⟨B, cap, hB, rfl, hrow, hb_⟩; have b3 := Aside0.mk (b2.out.row2 hB hrow hb_); clear b2 hB hrow hb_)
      | ((with_reducible refine gate_dst (N := 5) rfl ?_); refine box_event ?hg (N := 5) ?hd (cs := #[.int .i64 0, .string ⟨#[]⟩, .string ⟨#[]⟩, .int .i64 0, .int .i64 0]) (t := 30) ?hr ?_; (case hd => rfl); (case hg => rfl); (case hr => first | (go_simp; done) | (go_simp; rfl)); intro g5 eg5 Wg5 hxg5 hbg5; have HP := Aside0.mk (b3.out.box hxg5 hbg5 eg5); clear b3 hxg5 hbg5 eg5)
      | ((with_reducible refine gate_store (t := 30) (p := 5) (v := .tmp 11) rfl ?_); refine store30 rfl _ _ rfl g5 _ _ _ _ _ rfl rfl HP.out.h5 ?_; intro WS hWS; have n0_ := Aside0.mk (hWS ▸ HP.out.set5 #[.int .i64 0, .string ⟨#[]⟩, .string ⟨#[]⟩, .int .i64 0, .int .i64 0]); clear HP hWS; have HP := n0_; clear n0_; have hc0 := HP.out.hr.at_ 0 _ hx0; have hc1 := HP.out.hr.at_ 1 _ hx1)
      | (go_at_call 28; (with_reducible refine (HU_.out _).mono ?_); rintro e w5 ⟨rfl, hb_⟩; have n0_ := Aside0.mk (HP.out.step hb_); clear HP hb_ hc0 hc1; have HP := n0_; clear n0_)
      | ((with_reducible refine gate_store (t := 30) (p := 2) (v := .tmp 57) rfl ?_); refine store30 rfl _ _ rfl g2 _ _ _ _ _ rfl rfl HP.out.h2 ?_; intro WZ hWZ; have n0_ := Aside0.mk (hWZ ▸ HP.out.set2 #[.int .i64 2, .string ⟨#[]⟩, .string sb, .int .i64 0, .int .i64 0]); clear HP hWZ; have HP := n0_; clear n0_))
    refine bodyPost_ret (ret30 rfl _ _ g2 rfl HP.out.h2) rfl ?_
    exact ⟨rfl, HP.out.hb⟩
  | true =>
    rw [Bool.true_and]
    by_cases hm : m = 32
    · rw [decide_eq_true hm]
      have k0 : ((sb.size : Int) == 32) = true := beq_iff_eq.mpr (by omega)
      clear hsz hm
      go_enter Tryd.func14, Tryd.ntmps14
      go_wp2_with (first
        | ((with_reducible refine gate_dst (N := 2) rfl ?_); refine box_event ?hg (N := 2) ?hd (cs := #[.int .i64 0, .string ⟨#[]⟩, .string ⟨#[]⟩, .int .i64 0, .int .i64 0]) (t := 30) ?hr ?_; (case hd => rfl); (case hg => rfl); (case hr => first | (go_simp; done) | (go_simp; rfl)); intro g2 eg2 Wg2 hxg2 hbg2; have b2 := Aside0.mk (show St2 w g2 _ Wg2 from ⟨hbg2, hxg2, by omega⟩); clear hbg2 hxg2 eg2)
        | (go_at_call 26; (with_reducible refine (hSp _).mono ?_); clear hSp; rintro e w1 ⟨B, cap, hB, rfl, hrow, hb_⟩; have b3 := Aside0.mk (b2.out.row2 hB hrow hb_); clear b2 hB hrow hb_)
        | ((with_reducible refine gate_dst (N := 5) rfl ?_); refine box_event ?hg (N := 5) ?hd (cs := #[.int .i64 0, .string ⟨#[]⟩, .string ⟨#[]⟩, .int .i64 0, .int .i64 0]) (t := 30) ?hr ?_; (case hd => rfl); (case hg => rfl); (case hr => first | (go_simp; done) | (go_simp; rfl)); intro g5 eg5 Wg5 hxg5 hbg5; have HP := Aside0.mk (b3.out.box hxg5 hbg5 eg5); clear b3 hxg5 hbg5 eg5)
        | ((with_reducible refine gate_store (t := 30) (p := 5) (v := .tmp 11) rfl ?_); refine store30 rfl _ _ rfl g5 _ _ _ _ _ rfl rfl HP.out.h5 ?_; intro WS hWS; have n0_ := Aside0.mk (hWS ▸ HP.out.set5 #[.int .i64 0, .string ⟨#[]⟩, .string ⟨#[]⟩, .int .i64 0, .int .i64 0]); clear HP hWS; have HP := n0_; clear n0_; have hc0 := HP.out.hr.at_ 0 _ hx0; have hc1 := HP.out.hr.at_ 1 _ hx1)
        | (go_at_call 28; (with_reducible refine (HU_.out _).mono ?_); rintro e w5 ⟨rfl, hb_⟩; have n0_ := Aside0.mk (HP.out.step hb_); clear HP hb_ hc0 hc1; have HP := n0_; clear n0_)
        | ((with_reducible refine gate_store (t := 30) (p := 2) (v := .tmp 57) rfl ?_); refine store30 rfl _ _ rfl g2 _ _ _ _ _ rfl rfl HP.out.h2 ?_; intro WZ hWZ; have n0_ := Aside0.mk (hWZ ▸ HP.out.set2 #[.int .i64 2, .string ⟨#[]⟩, .string sb, .int .i64 0, .int .i64 0]); clear HP hWZ; have HP := n0_; clear n0_))
      refine bodyPost_ret (ret30 rfl _ _ g2 rfl HP.out.h2) rfl ?_
      exact ⟨rfl, HP.out.hb⟩
    · rw [decide_eq_false hm]
      have k0 : ((sb.size : Int) == 32) = false := beq_eq_false_iff_ne.mpr (by omega)
      clear hsz hm
      go_enter Tryd.func14, Tryd.ntmps14
      go_wp2_with (first
        | ((with_reducible refine gate_dst (N := 2) rfl ?_); refine box_event ?hg (N := 2) ?hd (cs := #[.int .i64 0, .string ⟨#[]⟩, .string ⟨#[]⟩, .int .i64 0, .int .i64 0]) (t := 30) ?hr ?_; (case hd => rfl); (case hg => rfl); (case hr => first | (go_simp; done) | (go_simp; rfl)); intro g2 eg2 Wg2 hxg2 hbg2; have b2 := Aside0.mk (show St2 w g2 _ Wg2 from ⟨hbg2, hxg2, by omega⟩); clear hbg2 hxg2 eg2)
        | (go_at_call 26; (with_reducible refine (hSp _).mono ?_); clear hSp; rintro e w1 ⟨B, cap, hB, rfl, hrow, hb_⟩; have b3 := Aside0.mk (b2.out.row2 hB hrow hb_); clear b2 hB hrow hb_)
        | ((with_reducible refine gate_dst (N := 5) rfl ?_); refine box_event ?hg (N := 5) ?hd (cs := #[.int .i64 0, .string ⟨#[]⟩, .string ⟨#[]⟩, .int .i64 0, .int .i64 0]) (t := 30) ?hr ?_; (case hd => rfl); (case hg => rfl); (case hr => first | (go_simp; done) | (go_simp; rfl)); intro g5 eg5 Wg5 hxg5 hbg5; have HP := Aside0.mk (b3.out.box hxg5 hbg5 eg5); clear b3 hxg5 hbg5 eg5)
        | ((with_reducible refine gate_store (t := 30) (p := 5) (v := .tmp 11) rfl ?_); refine store30 rfl _ _ rfl g5 _ _ _ _ _ rfl rfl HP.out.h5 ?_; intro WS hWS; have n0_ := Aside0.mk (hWS ▸ HP.out.set5 #[.int .i64 0, .string ⟨#[]⟩, .string ⟨#[]⟩, .int .i64 0, .int .i64 0]); clear HP hWS; have HP := n0_; clear n0_; have hc0 := HP.out.hr.at_ 0 _ hx0; have hc1 := HP.out.hr.at_ 1 _ hx1)
        | (go_at_call 28; (with_reducible refine (HU_.out _).mono ?_); rintro e w5 ⟨rfl, hb_⟩; have n0_ := Aside0.mk (HP.out.step hb_); clear HP hb_ hc0 hc1; have HP := n0_; clear n0_)
        | ((with_reducible refine gate_store (t := 30) (p := 2) (v := .tmp 57) rfl ?_); refine store30 rfl _ _ rfl g2 _ _ _ _ _ rfl rfl HP.out.h2 ?_; intro WZ hWZ; have n0_ := Aside0.mk (hWZ ▸ HP.out.set2 #[.int .i64 2, .string ⟨#[]⟩, .string sb, .int .i64 0, .int .i64 0]); clear HP hWZ; have HP := n0_; clear n0_))
      refine bodyPost_ret (ret30 rfl _ _ g2 rfl HP.out.h2) rfl ?_
      exact ⟨rfl, HP.out.hb⟩
end Go.Proofs.YtmgkgjacnbeboaaDoor.E

end
section
set_option linter.unusedVariables false
set_option linter.unusedSimpArgs false
namespace Go.Proofs.YtmgkgjacnbeboaaDoor.E
open Go.RowKit Go.Lib Go.Shelf Go.Proofs.YtmgkgjacnbeboaaDoorW.PrintWords Go.Proofs.YtmgkgjacnbeboaaDoorW.PrintLast Go.Proofs.YtmgkgjacnbeboaaDoorW.PrintMore
open S (mkB)
attribute [local irreducible] Nm.nameOk Nm.within Lib.itoa Lib.mapD Lib.join S.hexs Nm.kd KD Nm.metaN Nm.dataN Nm.logN Nm.nmS G.split Nm.numR S.unhex
theorem litAt (xs : List ByteArray) (i : Nat) (l : List UInt8) (hi : i < xs.length) (h : (xs.getD i ⟨#[]⟩).data.toList = l) : xs[i]? = some (mkB l) := by
  rw [← h, S.mkB_data]; simp [hi]
set_option maxHeartbeats 4000000 in
set_option maxRecDepth 100000 in
theorem RParse_head (s : ByteArray) (w : World) (hs : s.size ≤ 1000) (hn2 : 2 ≤ (D.splitS s).length) (h0 : ((D.splitS s).getD 0 ⟨#[]⟩).data.toList = Nm.LOG) (h1 : ((D.splitS s).getD 1 ⟨#[]⟩).data.toList = Nm.HEAD) :
    Calls Tryd.prog 14 #[.string s] w (RParsed w ((3, [], [], 0, 0), decide ((D.splitS s).length = 2))) := by
  have hSp := fun W => rsplit_c s W hs
  have hpz := (rparts_len s).2
  have hx0 : (D.splitS s)[0]? = some (⟨#[108, 111, 103]⟩ : ByteArray) := litAt _ 0 _ (by omega) h0
  have hx1 : (D.splitS s)[1]? = some (⟨#[104, 101, 97, 100]⟩ : ByteArray) := litAt _ 1 _ (by omega) h1
  unfold RParsed
  rw [show asksV ((3, [], [], 0, 0), decide ((D.splitS s).length = 2)).1 = .agg #[.int .i64 3, .string ⟨#[]⟩, .string ⟨#[]⟩, .int .i64 0, .int .i64 0] from rfl]
  clear h0 h1
  generalize D.splitS s = xs at *
  generalize hn : xs.length = n at *
  clear hn
  by_cases n2 : n = 2
  · subst n2
    clear hs
    rw [show ((((3, [], [], 0, 0) : Nm.Ask), decide ((2 : Nat) = 2)).2) = true from rfl]
    go_enter Tryd.func14, Tryd.ntmps14
    go_wp2_with (first
      | ((with_reducible refine gate_dst (N := 2) rfl ?_); refine box_event ?hg (N := 2) ?hd (cs := #[.int .i64 0, .string ⟨#[]⟩, .string ⟨#[]⟩, .int .i64 0, .int .i64 0]) (t := 30) ?hr ?_; (case hd => rfl); (case hg => rfl); (case hr => first | (go_simp; done) | (go_simp; rfl)); intro g2 eg2 Wg2 hxg2 hbg2; have b2 := Aside0.mk (show St2 w g2 _ Wg2 from ⟨hbg2, hxg2, by omega⟩); clear hbg2 hxg2 eg2)
      | (go_at_call 26; (with_reducible refine (hSp _).mono ?_); clear hSp; rintro e w1 ⟨B, cap, hB, rfl, hrow, hb_⟩; have b3 := Aside0.mk (b2.out.row2 hB hrow hb_); clear b2 hB hrow hb_)
      | ((with_reducible refine gate_dst (N := 5) rfl ?_); refine box_event ?hg (N := 5) ?hd (cs := #[.int .i64 0, .string ⟨#[]⟩, .string ⟨#[]⟩, .int .i64 0, .int .i64 0]) (t := 30) ?hr ?_; (case hd => rfl); (case hg => rfl); (case hr => first | (go_simp; done) | (go_simp; rfl)); intro g5 eg5 Wg5 hxg5 hbg5; have HP := Aside0.mk (b3.out.box hxg5 hbg5 eg5); clear b3 hxg5 hbg5 eg5)
      | ((with_reducible refine gate_store (t := 30) (p := 5) (v := .tmp 11) rfl ?_); refine store30 rfl _ _ rfl g5 _ _ _ _ _ rfl rfl HP.out.h5 ?_; intro WS hWS; have n0_ := Aside0.mk (hWS ▸ HP.out.set5 #[.int .i64 0, .string ⟨#[]⟩, .string ⟨#[]⟩, .int .i64 0, .int .i64 0]); clear HP hWS; have HP := n0_; clear n0_; have hc0 := HP.out.hr.at_ 0 _ hx0; have hc1 := HP.out.hr.at_ 1 _ hx1)
      | ((with_reducible refine gate_store (t := 30) (p := 2) (v := .tmp 78) rfl ?_); refine store30 rfl _ _ rfl g2 _ _ _ _ _ rfl rfl HP.out.h2 ?_; intro WZ hWZ; have n0_ := Aside0.mk (hWZ ▸ HP.out.set2 #[.int .i64 3, .string ⟨#[]⟩, .string ⟨#[]⟩, .int .i64 0, .int .i64 0]); clear HP hWZ; have HP := n0_; clear n0_))
    refine bodyPost_ret (ret30 rfl _ _ g2 rfl HP.out.h2) rfl ?_
    exact ⟨rfl, HP.out.hb⟩
  · rw [show ((((3, [], [], 0, 0) : Nm.Ask), decide (n = 2)).2) = false from decide_eq_false n2]
    by_cases n3 : n = 3
    · subst n3
      clear n2 hs
      go_enter Tryd.func14, Tryd.ntmps14
      go_wp2_with (first
        | ((with_reducible refine gate_dst (N := 2) rfl ?_); refine box_event ?hg (N := 2) ?hd (cs := #[.int .i64 0, .string ⟨#[]⟩, .string ⟨#[]⟩, .int .i64 0, .int .i64 0]) (t := 30) ?hr ?_; (case hd => rfl); (case hg => rfl); (case hr => first | (go_simp; done) | (go_simp; rfl)); intro g2 eg2 Wg2 hxg2 hbg2; have b2 := Aside0.mk (show St2 w g2 _ Wg2 from ⟨hbg2, hxg2, by omega⟩); clear hbg2 hxg2 eg2)
        | (go_at_call 26; (with_reducible refine (hSp _).mono ?_); clear hSp; rintro e w1 ⟨B, cap, hB, rfl, hrow, hb_⟩; have b3 := Aside0.mk (b2.out.row2 hB hrow hb_); clear b2 hB hrow hb_)
        | ((with_reducible refine gate_dst (N := 5) rfl ?_); refine box_event ?hg (N := 5) ?hd (cs := #[.int .i64 0, .string ⟨#[]⟩, .string ⟨#[]⟩, .int .i64 0, .int .i64 0]) (t := 30) ?hr ?_; (case hd => rfl); (case hg => rfl); (case hr => first | (go_simp; done) | (go_simp; rfl)); intro g5 eg5 Wg5 hxg5 hbg5; have HP := Aside0.mk (b3.out.box hxg5 hbg5 eg5); clear b3 hxg5 hbg5 eg5)
        | ((with_reducible refine gate_store (t := 30) (p := 5) (v := .tmp 11) rfl ?_); refine store30 rfl _ _ rfl g5 _ _ _ _ _ rfl rfl HP.out.h5 ?_; intro WS hWS; have n0_ := Aside0.mk (hWS ▸ HP.out.set5 #[.int .i64 0, .string ⟨#[]⟩, .string ⟨#[]⟩, .int .i64 0, .int .i64 0]); clear HP hWS; have HP := n0_; clear n0_; have hc0 := HP.out.hr.at_ 0 _ hx0; have hc1 := HP.out.hr.at_ 1 _ hx1)
        | ((with_reducible refine gate_store (t := 30) (p := 2) (v := .tmp 78) rfl ?_); refine store30 rfl _ _ rfl g2 _ _ _ _ _ rfl rfl HP.out.h2 ?_; intro WZ hWZ; have n0_ := Aside0.mk (hWZ ▸ HP.out.set2 #[.int .i64 3, .string ⟨#[]⟩, .string ⟨#[]⟩, .int .i64 0, .int .i64 0]); clear HP hWZ; have HP := n0_; clear n0_))
      refine bodyPost_ret (ret30 rfl _ _ g2 rfl HP.out.h2) rfl ?_
      exact ⟨rfl, HP.out.hb⟩
    · have k3 : ((n : Int) == 3) = false := beq_eq_false_iff_ne.mpr (by omega)
      have k2 : ((n : Int) == 2) = false := beq_eq_false_iff_ne.mpr (by omega)
      have k1 : ¬ ((n : Int) < 2) := by omega
      have k0 : (1 : Int) < (n : Int) := by omega
      clear n2 n3 hs
      go_enter Tryd.func14, Tryd.ntmps14
      go_wp2_with (first
        | ((with_reducible refine gate_dst (N := 2) rfl ?_); refine box_event ?hg (N := 2) ?hd (cs := #[.int .i64 0, .string ⟨#[]⟩, .string ⟨#[]⟩, .int .i64 0, .int .i64 0]) (t := 30) ?hr ?_; (case hd => rfl); (case hg => rfl); (case hr => first | (go_simp; done) | (go_simp; rfl)); intro g2 eg2 Wg2 hxg2 hbg2; have b2 := Aside0.mk (show St2 w g2 _ Wg2 from ⟨hbg2, hxg2, by omega⟩); clear hbg2 hxg2 eg2)
        | (go_at_call 26; (with_reducible refine (hSp _).mono ?_); clear hSp; rintro e w1 ⟨B, cap, hB, rfl, hrow, hb_⟩; have b3 := Aside0.mk (b2.out.row2 hB hrow hb_); clear b2 hB hrow hb_)
        | ((with_reducible refine gate_dst (N := 5) rfl ?_); refine box_event ?hg (N := 5) ?hd (cs := #[.int .i64 0, .string ⟨#[]⟩, .string ⟨#[]⟩, .int .i64 0, .int .i64 0]) (t := 30) ?hr ?_; (case hd => rfl); (case hg => rfl); (case hr => first | (go_simp; done) | (go_simp; rfl)); intro g5 eg5 Wg5 hxg5 hbg5; have HP := Aside0.mk (b3.out.box hxg5 hbg5 eg5); clear b3 hxg5 hbg5 eg5)
        | ((with_reducible refine gate_store (t := 30) (p := 5) (v := .tmp 11) rfl ?_); refine store30 rfl _ _ rfl g5 _ _ _ _ _ rfl rfl HP.out.h5 ?_; intro WS hWS; have n0_ := Aside0.mk (hWS ▸ HP.out.set5 #[.int .i64 0, .string ⟨#[]⟩, .string ⟨#[]⟩, .int .i64 0, .int .i64 0]); clear HP hWS; have HP := n0_; clear n0_; have hc0 := HP.out.hr.at_ 0 _ hx0; have hc1 := HP.out.hr.at_ 1 _ hx1)
        | ((with_reducible refine gate_store (t := 30) (p := 2) (v := .tmp 78) rfl ?_); refine store30 rfl _ _ rfl g2 _ _ _ _ _ rfl rfl HP.out.h2 ?_; intro WZ hWZ; have n0_ := Aside0.mk (hWZ ▸ HP.out.set2 #[.int .i64 3, .string ⟨#[]⟩, .string ⟨#[]⟩, .int .i64 0, .int .i64 0]); clear HP hWZ; have HP := n0_; clear n0_))
      refine bodyPost_ret (ret30 rfl _ _ g2 rfl HP.out.h2) rfl ?_
      exact ⟨rfl, HP.out.hb⟩
set_option maxHeartbeats 4000000 in
set_option maxRecDepth 100000 in
theorem RParse_nolog (s : ByteArray) (w : World) (hs : s.size ≤ 1000) (hn2 : 2 ≤ (D.splitS s).length) (h0 : ((D.splitS s).getD 0 ⟨#[]⟩).data.toList = Nm.LOG) (h1 : ((D.splitS s).getD 1 ⟨#[]⟩).data.toList ≠ Nm.HEAD)
    (h3 : (D.splitS s).length = 3 → ((D.splitS s).getD 1 ⟨#[]⟩).data.toList ≠ Nm.LEAF) (h4 : (D.splitS s).length = 4 → ((D.splitS s).getD 1 ⟨#[]⟩).data.toList ≠ Nm.PATH ∧ ((D.splitS s).getD 1 ⟨#[]⟩).data.toList ≠ Nm.STEP) :
    Calls Tryd.prog 14 #[.string s] w (RParsed w (Nm.nil, false)) := by
  have hSp := fun W => rsplit_c s W hs
  have hpz := (rparts_len s).2
  have hx0 : (D.splitS s)[0]? = some (⟨#[108, 111, 103]⟩ : ByteArray) := litAt _ 0 _ (by omega) h0
  have hx1 : (D.splitS s)[1]? = some ((D.splitS s).getD 1 ⟨#[]⟩) := (litAt _ 1 _ (by omega) rfl).trans (by rw [S.mkB_data])
  unfold RParsed
  rw [show asksV (Nm.nil, false).1 = .agg #[.int .i64 0, .string ⟨#[]⟩, .string ⟨#[]⟩, .int .i64 0, .int .i64 0] from rfl]
  have q1 := neLit _ _ h1
  have q3 := fun h => neLit _ _ (h3 h)
  have q4 := fun h => neLit _ _ (h4 h).1
  have q5 := fun h => neLit _ _ (h4 h).2
  have hlf : ((D.splitS s).getD 1 ⟨#[]⟩).data.toList = Nm.LEAF ∨ (((D.splitS s).getD 1 ⟨#[]⟩).toList == Nm.LEAF) = false := by
    by_cases h : ((D.splitS s).getD 1 ⟨#[]⟩).data.toList = Nm.LEAF
    · exact .inl h
    · exact .inr (neLit _ _ h)
  have hlf : (((D.splitS s).getD 1 ⟨#[]⟩).toList == Nm.LEAF) = true ∨ (((D.splitS s).getD 1 ⟨#[]⟩).toList == Nm.LEAF) = false := hlf.imp (fun h => beq_iff_eq.mpr (by rw [S.toList_list]; exact h)) id
  unfold Nm.HEAD at q1
  unfold Nm.LEAF at q3 hlf
  unfold Nm.PATH at q4
  unfold Nm.STEP at q5
  clear h0 h1 h3 h4
  generalize (D.splitS s).getD 1 ⟨#[]⟩ = l1 at *
  generalize D.splitS s = xs at *
  generalize hn : xs.length = n at *
  clear hn
  by_cases n2 : n = 2
  · subst n2
    clear q3 q4 q5 hs
    rcases hlf with hlf | hlf
    · go_enter Tryd.func14, Tryd.ntmps14
      go_wp2_with (first
        | ((with_reducible refine gate_dst (N := 2) rfl ?_); refine box_event ?hg (N := 2) ?hd (cs := #[.int .i64 0, .string ⟨#[]⟩, .string ⟨#[]⟩, .int .i64 0, .int .i64 0]) (t := 30) ?hr ?_; (case hd => rfl); (case hg => rfl); (case hr => first | (go_simp; done) | (go_simp; rfl)); intro g2 eg2 Wg2 hxg2 hbg2; have b2 := Aside0.mk (show St2 w g2 _ Wg2 from ⟨hbg2, hxg2, by omega⟩); clear hbg2 hxg2 eg2)
        | (go_at_call 26; (with_reducible refine (hSp _).mono ?_); clear hSp; rintro e w1 ⟨B, cap, hB, rfl, hrow, hb_⟩; have b3 := Aside0.mk (b2.out.row2 hB hrow hb_); clear b2 hB hrow hb_)
        | ((with_reducible refine gate_dst (N := 5) rfl ?_); refine box_event ?hg (N := 5) ?hd (cs := #[.int .i64 0, .string ⟨#[]⟩, .string ⟨#[]⟩, .int .i64 0, .int .i64 0]) (t := 30) ?hr ?_; (case hd => rfl); (case hg => rfl); (case hr => first | (go_simp; done) | (go_simp; rfl)); intro g5 eg5 Wg5 hxg5 hbg5; have HP := Aside0.mk (b3.out.box hxg5 hbg5 eg5); clear b3 hxg5 hbg5 eg5)
        | ((with_reducible refine gate_store (t := 30) (p := 5) (v := .tmp 11) rfl ?_); refine store30 rfl _ _ rfl g5 _ _ _ _ _ rfl rfl HP.out.h5 ?_; intro WS hWS; have n0_ := Aside0.mk (hWS ▸ HP.out.set5 #[.int .i64 0, .string ⟨#[]⟩, .string ⟨#[]⟩, .int .i64 0, .int .i64 0]); clear HP hWS; have HP := n0_; clear n0_; have hc0 := HP.out.hr.at_ 0 _ hx0; have hc1 := HP.out.hr.at_ 1 _ hx1)
        | ((with_reducible refine gate_dst (N := 116) rfl ?_); refine load30 rfl _ rfl g5 rfl HP.out.h5 ?_)
        | ((with_reducible refine gate_store (t := 30) (p := 2) (v := .tmp 116) rfl ?_); refine store30 rfl _ _ rfl g2 _ _ _ _ _ rfl rfl HP.out.h2 ?_; intro WZ hWZ; have n0_ := Aside0.mk (hWZ ▸ HP.out.set2 #[.int .i64 0, .string ⟨#[]⟩, .string ⟨#[]⟩, .int .i64 0, .int .i64 0]); clear HP hWZ; have HP := n0_; clear n0_))
      refine bodyPost_ret (ret30 rfl _ _ g2 rfl HP.out.h2) rfl ?_
      exact ⟨rfl, HP.out.hb⟩
    · go_enter Tryd.func14, Tryd.ntmps14
      go_wp2_with (first
        | ((with_reducible refine gate_dst (N := 2) rfl ?_); refine box_event ?hg (N := 2) ?hd (cs := #[.int .i64 0, .string ⟨#[]⟩, .string ⟨#[]⟩, .int .i64 0, .int .i64 0]) (t := 30) ?hr ?_; (case hd => rfl); (case hg => rfl); (case hr => first | (go_simp; done) | (go_simp; rfl)); intro g2 eg2 Wg2 hxg2 hbg2; have b2 := Aside0.mk (show St2 w g2 _ Wg2 from ⟨hbg2, hxg2, by omega⟩); clear hbg2 hxg2 eg2)
        | (go_at_call 26; (with_reducible refine (hSp _).mono ?_); clear hSp; rintro e w1 ⟨B, cap, hB, rfl, hrow, hb_⟩; have b3 := Aside0.mk (b2.out.row2 hB hrow hb_); clear b2 hB hrow hb_)
        | ((with_reducible refine gate_dst (N := 5) rfl ?_); refine box_event ?hg (N := 5) ?hd (cs := #[.int .i64 0, .string ⟨#[]⟩, .string ⟨#[]⟩, .int .i64 0, .int .i64 0]) (t := 30) ?hr ?_; (case hd => rfl); (case hg => rfl); (case hr => first | (go_simp; done) | (go_simp; rfl)); intro g5 eg5 Wg5 hxg5 hbg5; have HP := Aside0.mk (b3.out.box hxg5 hbg5 eg5); clear b3 hxg5 hbg5 eg5)
        | ((with_reducible refine gate_store (t := 30) (p := 5) (v := .tmp 11) rfl ?_); refine store30 rfl _ _ rfl g5 _ _ _ _ _ rfl rfl HP.out.h5 ?_; intro WS hWS; have n0_ := Aside0.mk (hWS ▸ HP.out.set5 #[.int .i64 0, .string ⟨#[]⟩, .string ⟨#[]⟩, .int .i64 0, .int .i64 0]); clear HP hWS; have HP := n0_; clear n0_; have hc0 := HP.out.hr.at_ 0 _ hx0; have hc1 := HP.out.hr.at_ 1 _ hx1)
        | ((with_reducible refine gate_dst (N := 116) rfl ?_); refine load30 rfl _ rfl g5 rfl HP.out.h5 ?_)
        | ((with_reducible refine gate_store (t := 30) (p := 2) (v := .tmp 116) rfl ?_); refine store30 rfl _ _ rfl g2 _ _ _ _ _ rfl rfl HP.out.h2 ?_; intro WZ hWZ; have n0_ := Aside0.mk (hWZ ▸ HP.out.set2 #[.int .i64 0, .string ⟨#[]⟩, .string ⟨#[]⟩, .int .i64 0, .int .i64 0]); clear HP hWZ; have HP := n0_; clear n0_))
      refine bodyPost_ret (ret30 rfl _ _ g2 rfl HP.out.h2) rfl ?_
      exact ⟨rfl, HP.out.hb⟩
  · by_cases n3 : n = 3
    · subst n3
      have q3' := q3 rfl
      clear q3 q4 q5 hs hlf n2
      go_enter Tryd.func14, Tryd.ntmps14
      go_wp2_with (first
        | ((with_reducible refine gate_dst (N := 2) rfl ?_); refine box_event ?hg (N := 2) ?hd (cs := #[.int .i64 0, .string ⟨#[]⟩, .string ⟨#[]⟩, .int .i64 0, .int .i64 0]) (t := 30) ?hr ?_; (case hd => rfl); (case hg => rfl); (case hr => first | (go_simp; done) | (go_simp; rfl)); intro g2 eg2 Wg2 hxg2 hbg2; have b2 := Aside0.mk (show St2 w g2 _ Wg2 from ⟨hbg2, hxg2, by omega⟩); clear hbg2 hxg2 eg2)
        | (go_at_call 26; (with_reducible refine (hSp _).mono ?_); clear hSp; rintro e w1 ⟨B, cap, hB, rfl, hrow, hb_⟩; have b3 := Aside0.mk (b2.out.row2 hB hrow hb_); clear b2 hB hrow hb_)
        | ((with_reducible refine gate_dst (N := 5) rfl ?_); refine box_event ?hg (N := 5) ?hd (cs := #[.int .i64 0, .string ⟨#[]⟩, .string ⟨#[]⟩, .int .i64 0, .int .i64 0]) (t := 30) ?hr ?_; (case hd => rfl); (case hg => rfl); (case hr => first | (go_simp; done) | (go_simp; rfl)); intro g5 eg5 Wg5 hxg5 hbg5; have HP := Aside0.mk (b3.out.box hxg5 hbg5 eg5); clear b3 hxg5 hbg5 eg5)
        | ((with_reducible refine gate_store (t := 30) (p := 5) (v := .tmp 11) rfl ?_); refine store30 rfl _ _ rfl g5 _ _ _ _ _ rfl rfl HP.out.h5 ?_; intro WS hWS; have n0_ := Aside0.mk (hWS ▸ HP.out.set5 #[.int .i64 0, .string ⟨#[]⟩, .string ⟨#[]⟩, .int .i64 0, .int .i64 0]); clear HP hWS; have HP := n0_; clear n0_; have hc0 := HP.out.hr.at_ 0 _ hx0; have hc1 := HP.out.hr.at_ 1 _ hx1)
        | ((with_reducible refine gate_dst (N := 116) rfl ?_); refine load30 rfl _ rfl g5 rfl HP.out.h5 ?_)
        | ((with_reducible refine gate_store (t := 30) (p := 2) (v := .tmp 116) rfl ?_); refine store30 rfl _ _ rfl g2 _ _ _ _ _ rfl rfl HP.out.h2 ?_; intro WZ hWZ; have n0_ := Aside0.mk (hWZ ▸ HP.out.set2 #[.int .i64 0, .string ⟨#[]⟩, .string ⟨#[]⟩, .int .i64 0, .int .i64 0]); clear HP hWZ; have HP := n0_; clear n0_))
      refine bodyPost_ret (ret30 rfl _ _ g2 rfl HP.out.h2) rfl ?_
      exact ⟨rfl, HP.out.hb⟩
    · by_cases n4 : n = 4
      · subst n4
        have q4' := q4 rfl
        have q5' := q5 rfl
        clear q3 q4 q5 hs n2 n3
        rcases hlf with hlf | hlf
        · go_enter Tryd.func14, Tryd.ntmps14
          go_wp2_with (first
            | ((with_reducible refine gate_dst (N := 2) rfl ?_); refine box_event ?hg (N := 2) ?hd (cs := #[.int .i64 0, .string ⟨#[]⟩, .string ⟨#[]⟩, .int .i64 0, .int .i64 0]) (t := 30) ?hr ?_; (case hd => rfl); (case hg => rfl); (case hr => first | (go_simp; done) | (go_simp; rfl)); intro g2 eg2 Wg2 hxg2 hbg2; have b2 := Aside0.mk (show St2 w g2 _ Wg2 from ⟨hbg2, hxg2, by omega⟩); clear hbg2 hxg2 eg2)
            | (go_at_call 26; (with_reducible refine (hSp _).mono ?_); clear hSp; rintro e w1 ⟨B, cap, hB, rfl, hrow, hb_⟩; have b3 := Aside0.mk (b2.out.row2 hB hrow hb_); clear b2 hB hrow hb_)
            | ((with_reducible refine gate_dst (N := 5) rfl ?_); refine box_event ?hg (N := 5) ?hd (cs := #[.int .i64 0, .string ⟨#[]⟩, .string ⟨#[]⟩, .int .i64 0, .int .i64 0]) (t := 30) ?hr ?_; (case hd => rfl); (case hg => rfl); (case hr => first | (go_simp; done) | (go_simp; rfl)); intro g5 eg5 Wg5 hxg5 hbg5; have HP := Aside0.mk (b3.out.box hxg5 hbg5 eg5); clear b3 hxg5 hbg5 eg5)
            | ((with_reducible refine gate_store (t := 30) (p := 5) (v := .tmp 11) rfl ?_); refine store30 rfl _ _ rfl g5 _ _ _ _ _ rfl rfl HP.out.h5 ?_; intro WS hWS; have n0_ := Aside0.mk (hWS ▸ HP.out.set5 #[.int .i64 0, .string ⟨#[]⟩, .string ⟨#[]⟩, .int .i64 0, .int .i64 0]); clear HP hWS; have HP := n0_; clear n0_; have hc0 := HP.out.hr.at_ 0 _ hx0; have hc1 := HP.out.hr.at_ 1 _ hx1)
            | ((with_reducible refine gate_dst (N := 116) rfl ?_); refine load30 rfl _ rfl g5 rfl HP.out.h5 ?_)
            | ((with_reducible refine gate_store (t := 30) (p := 2) (v := .tmp 116) rfl ?_); refine store30 rfl _ _ rfl g2 _ _ _ _ _ rfl rfl HP.out.h2 ?_; intro WZ hWZ; have n0_ := Aside0.mk (hWZ ▸ HP.out.set2 #[.int .i64 0, .string ⟨#[]⟩, .string ⟨#[]⟩, .int .i64 0, .int .i64 0]); clear HP hWZ; have HP := n0_; clear n0_))
          refine bodyPost_ret (ret30 rfl _ _ g2 rfl HP.out.h2) rfl ?_
          exact ⟨rfl, HP.out.hb⟩
        · go_enter Tryd.func14, Tryd.ntmps14
          go_wp2_with (first
            | ((with_reducible refine gate_dst (N := 2) rfl ?_); refine box_event ?hg (N := 2) ?hd (cs := #[.int .i64 0, .string ⟨#[]⟩, .string ⟨#[]⟩, .int .i64 0, .int .i64 0]) (t := 30) ?hr ?_; (case hd => rfl); (case hg => rfl); (case hr => first | (go_simp; done) | (go_simp; rfl)); intro g2 eg2 Wg2 hxg2 hbg2; have b2 := Aside0.mk (show St2 w g2 _ Wg2 from ⟨hbg2, hxg2, by omega⟩); clear hbg2 hxg2 eg2)
            | (go_at_call 26; (with_reducible refine (hSp _).mono ?_); clear hSp; rintro e w1 ⟨B, cap, hB, rfl, hrow, hb_⟩; have b3 := Aside0.mk (b2.out.row2 hB hrow hb_); clear b2 hB hrow hb_)
            | ((with_reducible refine gate_dst (N := 5) rfl ?_); refine box_event ?hg (N := 5) ?hd (cs := #[.int .i64 0, .string ⟨#[]⟩, .string ⟨#[]⟩, .int .i64 0, .int .i64 0]) (t := 30) ?hr ?_; (case hd => rfl); (case hg => rfl); (case hr => first | (go_simp; done) | (go_simp; rfl)); intro g5 eg5 Wg5 hxg5 hbg5; have HP := Aside0.mk (b3.out.box hxg5 hbg5 eg5); clear b3 hxg5 hbg5 eg5)
            | ((with_reducible refine gate_store (t := 30) (p := 5) (v := .tmp 11) rfl ?_); refine store30 rfl _ _ rfl g5 _ _ _ _ _ rfl rfl HP.out.h5 ?_; intro WS hWS; have n0_ := Aside0.mk (hWS ▸ HP.out.set5 #[.int .i64 0, .string ⟨#[]⟩, .string ⟨#[]⟩, .int .i64 0, .int .i64 0]); clear HP hWS; have HP := n0_; clear n0_; have hc0 := HP.out.hr.at_ 0 _ hx0; have hc1 := HP.out.hr.at_ 1 _ hx1)
            | ((with_reducible refine gate_dst (N := 116) rfl ?_); refine load30 rfl _ rfl g5 rfl HP.out.h5 ?_)
            | ((with_reducible refine gate_store (t := 30) (p := 2) (v := .tmp 116) rfl ?_); refine store30 rfl _ _ rfl g2 _ _ _ _ _ rfl rfl HP.out.h2 ?_; intro WZ hWZ; have n0_ := Aside0.mk (hWZ ▸ HP.out.set2 #[.int .i64 0, .string ⟨#[]⟩, .string ⟨#[]⟩, .int .i64 0, .int .i64 0]); clear HP hWZ; have HP := n0_; clear n0_))
          refine bodyPost_ret (ret30 rfl _ _ g2 rfl HP.out.h2) rfl ?_
          exact ⟨rfl, HP.out.hb⟩
      · have k3 : ((n : Int) == 3) = false := beq_eq_false_iff_ne.mpr (by omega)
        have k2 : ((n : Int) == 2) = false := beq_eq_false_iff_ne.mpr (by omega)
        have k4 : ((n : Int) == 4) = false := beq_eq_false_iff_ne.mpr (by omega)
        have k4' : ((n : Int) != 4) = true := bne_iff_ne.mpr (by omega)
        have k4b : ¬ ((n : Int) = 4) := by omega
        have k1 : ¬ ((n : Int) < 2) := by omega
        have k0 : (1 : Int) < (n : Int) := by omega
        clear q3 q4 q5 hs n2 n3 n4
        rcases hlf with hlf | hlf
        · go_enter Tryd.func14, Tryd.ntmps14
          go_wp2_with (first
            | ((with_reducible refine gate_dst (N := 2) rfl ?_); refine box_event ?hg (N := 2) ?hd (cs := #[.int .i64 0, .string ⟨#[]⟩, .string ⟨#[]⟩, .int .i64 0, .int .i64 0]) (t := 30) ?hr ?_; (case hd => rfl); (case hg => rfl); (case hr => first | (go_simp; done) | (go_simp; rfl)); intro g2 eg2 Wg2 hxg2 hbg2; have b2 := Aside0.mk (show St2 w g2 _ Wg2 from ⟨hbg2, hxg2, by omega⟩); clear hbg2 hxg2 eg2)
            | (go_at_call 26; (with_reducible refine (hSp _).mono ?_); clear hSp; rintro e w1 ⟨B, cap, hB, rfl, hrow, hb_⟩; have b3 := Aside0.mk (b2.out.row2 hB hrow hb_); clear b2 hB hrow hb_)
            | ((with_reducible refine gate_dst (N := 5) rfl ?_); refine box_event ?hg (N := 5) ?hd (cs := #[.int .i64 0, .string ⟨#[]⟩, .string ⟨#[]⟩, .int .i64 0, .int .i64 0]) (t := 30) ?hr ?_; (case hd => rfl); (case hg => rfl); (case hr => first | (go_simp; done) | (go_simp; rfl)); intro g5 eg5 Wg5 hxg5 hbg5; have HP := Aside0.mk (b3.out.box hxg5 hbg5 eg5); clear b3 hxg5 hbg5 eg5)
            | ((with_reducible refine gate_store (t := 30) (p := 5) (v := .tmp 11) rfl ?_); refine store30 rfl _ _ rfl g5 _ _ _ _ _ rfl rfl HP.out.h5 ?_; intro WS hWS; have n0_ := Aside0.mk (hWS ▸ HP.out.set5 #[.int .i64 0, .string ⟨#[]⟩, .string ⟨#[]⟩, .int .i64 0, .int .i64 0]); clear HP hWS; have HP := n0_; clear n0_; have hc0 := HP.out.hr.at_ 0 _ hx0; have hc1 := HP.out.hr.at_ 1 _ hx1)
            | ((with_reducible refine gate_dst (N := 116) rfl ?_); refine load30 rfl _ rfl g5 rfl HP.out.h5 ?_)
            | ((with_reducible refine gate_store (t := 30) (p := 2) (v := .tmp 116) rfl ?_); refine store30 rfl _ _ rfl g2 _ _ _ _ _ rfl rfl HP.out.h2 ?_; intro WZ hWZ; have n0_ := Aside0.mk (hWZ ▸ HP.out.set2 #[.int .i64 0, .string ⟨#[]⟩, .string ⟨#[]⟩, .int .i64 0, .int .i64 0]); clear HP hWZ; have HP := n0_; clear n0_))
          refine bodyPost_ret (ret30 rfl _ _ g2 rfl HP.out.h2) rfl ?_
          exact ⟨rfl, HP.out.hb⟩
        · go_enter Tryd.func14, Tryd.ntmps14
          go_wp2_with (first
            | ((with_reducible refine gate_dst (N := 2) rfl ?_); refine box_event ?hg (N := 2) ?hd (cs := #[.int .i64 0, .string ⟨#[]⟩, .string ⟨#[]⟩, .int .i64 0, .int .i64 0]) (t := 30) ?hr ?_; (case hd => rfl); (case hg => rfl); (case hr => first | (go_simp; done) | (go_simp; rfl)); intro g2 eg2 Wg2 hxg2 hbg2; have b2 := Aside0.mk (show St2 w g2 _ Wg2 from ⟨hbg2, hxg2, by omega⟩); clear hbg2 hxg2 eg2)
            | (go_at_call 26; (with_reducible refine (hSp _).mono ?_); clear hSp; rintro e w1 ⟨B, cap, hB, rfl, hrow, hb_⟩; have b3 := Aside0.mk (b2.out.row2 hB hrow hb_); clear b2 hB hrow hb_)
            | ((with_reducible refine gate_dst (N := 5) rfl ?_); refine box_event ?hg (N := 5) ?hd (cs := #[.int .i64 0, .string ⟨#[]⟩, .string ⟨#[]⟩, .int .i64 0, .int .i64 0]) (t := 30) ?hr ?_; (case hd => rfl); (case hg => rfl); (case hr => first | (go_simp; done) | (go_simp; rfl)); intro g5 eg5 Wg5 hxg5 hbg5; have HP := Aside0.mk (b3.out.box hxg5 hbg5 eg5); clear b3 hxg5 hbg5 eg5)
            | ((with_reducible refine gate_store (t := 30) (p := 5) (v := .tmp 11) rfl ?_); refine store30 rfl _ _ rfl g5 _ _ _ _ _ rfl rfl HP.out.h5 ?_; intro WS hWS; have n0_ := Aside0.mk (hWS ▸ HP.out.set5 #[.int .i64 0, .string ⟨#[]⟩, .string ⟨#[]⟩, .int .i64 0, .int .i64 0]); clear HP hWS; have HP := n0_; clear n0_; have hc0 := HP.out.hr.at_ 0 _ hx0; have hc1 := HP.out.hr.at_ 1 _ hx1)
            | ((with_reducible refine gate_dst (N := 116) rfl ?_); refine load30 rfl _ rfl g5 rfl HP.out.h5 ?_)
            | ((with_reducible refine gate_store (t := 30) (p := 2) (v := .tmp 116) rfl ?_); refine store30 rfl _ _ rfl g2 _ _ _ _ _ rfl rfl HP.out.h2 ?_; intro WZ hWZ; have n0_ := Aside0.mk (hWZ ▸ HP.out.set2 #[.int .i64 0, .string ⟨#[]⟩, .string ⟨#[]⟩, .int .i64 0, .int .i64 0]); clear HP hWZ; have HP := n0_; clear n0_))
          refine bodyPost_ret (ret30 rfl _ _ g2 rfl HP.out.h2) rfl ?_
          exact ⟨rfl, HP.out.hb⟩
end Go.Proofs.YtmgkgjacnbeboaaDoor.E

end
