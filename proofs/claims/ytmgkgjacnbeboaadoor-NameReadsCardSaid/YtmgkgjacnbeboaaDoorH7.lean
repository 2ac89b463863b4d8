/- name.Parse of a text whose first part is "meta" or "data". -/
import Derived.Test.YtmgkgjacnbeboaaDoorH6
set_option linter.unusedVariables false
set_option linter.unusedSimpArgs false
namespace Go.Proofs.YtmgkgjacnbeboaaDoor.E
open Go.RowKit Go.Lib Go.Shelf Go.Proofs.YtmgkgjacnbeboaaDoorW.PrintWords Go.Proofs.YtmgkgjacnbeboaaDoorW.PrintLast Go.Proofs.YtmgkgjacnbeboaaDoorW.PrintMore
open S (mkB)
theorem load30 {ops : Array Oper} {rest : List Oper} {o : Oper} {act : Act} {W : World} {Q : Exit → Act → World → Prop} (hgd : o.guard = none) (x : Operand) (ho : o.op = .load 30 x) (g : Nat)
    (hx : act.eval x = .pointer (some ⟨g, 0, none⟩)) {u0 u1 u2 u3 u4 : Value} (hg : W.heap[g]? = some (.cells #[u0, u1, u2, u3, u4] 30 (0, 0)))
    (h : wpList Tryd.prog ops Q rest (act.put o.dst (.agg #[u0, u1, u2, u3, u4])) W) : wpList Tryd.prog ops Q (o :: rest) act W :=
  wpList_load_row hgd 30 x ho g hx 30 _ (0, 0) _ hg Tryd.underlying30 rfl (by kernel_rfl) h
theorem ret30 {fn : Func} (h : fn.results = #[.cell 2 30, .tmp 3]) (tmps : Array Value) (w : World) (g : Nat) {u0 u1 u2 u3 u4 : Value}
    (hp : tmps.getD 2 undef = .pointer (some ⟨g, 0, none⟩)) (hg : w.heap[g]? = some (.cells #[u0, u1, u2, u3, u4] 30 (0, 0))) :
    (results fn tmps).run Tryd.prog w = .ok (.tuple #[.agg #[u0, u1, u2, u3, u4], tmps.getD 3 undef]) w :=
  results_ct h tmps w g 30 _ (0, 0) _ hp hg Tryd.underlying30 rfl (by kernel_rfl)
theorem split_le (l : List UInt8) : ∀ x ∈ G.split l, x.length ≤ l.length := by
  induction l with
  | nil => intro x hx; simp [G.split] at hx; simp [hx]
  | cons c r ih =>
    intro x hx
    rw [G.split] at hx
    split at hx
    · rcases List.mem_cons.1 hx with rfl | hx
      · simp
      · have := ih x hx; simp; omega
    · cases h : G.split r with
      | nil => exact absurd h (Nm.split_nonempty r)
      | cons y t =>
        rw [h] at hx ih
        rcases List.mem_cons.1 hx with rfl | hx
        · have := ih y (List.mem_cons_self ..); simp; omega
        · have := ih x (List.mem_cons_of_mem _ hx); simp; omega
theorem part_size (s : ByteArray) (i : Nat) (hs : s.size ≤ 1000) : ((parts s).getD i ⟨#[]⟩).size ≤ 1000 := by
  by_cases h : i < (parts s).length
  · have hm : (parts s).getD i ⟨#[]⟩ ∈ parts s := by simp [h]
    have hmm : ((parts s).getD i ⟨#[]⟩).data.toList ∈ G.split s.data.toList := by rw [← parts_data s]; exact List.mem_map_of_mem hm
    have := split_le s.data.toList _ hmm
    rw [S.size_list, S.size_list] at this; omega
  · have e : (parts s).getD i ⟨#[]⟩ = ⟨#[]⟩ := by simp [List.getElem?_eq_none (Nat.le_of_not_lt h)]
    rw [e]; exact Nat.zero_le _
attribute [local irreducible] Nm.nameOk Nm.within Lib.itoa Lib.mapD Lib.join S.hexs Nm.kd KD Nm.metaN Nm.dataN Nm.logN Nm.nmS G.split Nm.atoiV S.unhex
set_option maxHeartbeats 4000000 in
set_option maxRecDepth 100000 in
theorem Parse_meta (s : ByteArray) (w : World) (hs : s.size ≤ 1000) (ht : Tabs5 w) (h0 : ((parts s).getD 0 ⟨#[]⟩).data.toList = Nm.META) :
    Calls Tryd.prog 13 #[.string s] w (Parsed w s) := by
  have hSp := fun W => split_c s W hs
  have hpl := parts_len s
  have e : Nm.parseN s.data.toList = if (Nm.metaN ((parts s).getD 1 ⟨#[]⟩).data.toList (Nm.atoiV ((parts s).getD 2 ⟨#[]⟩).data.toList)).2 = 0 ∧ (Nm.metaN ((parts s).getD 1 ⟨#[]⟩).data.toList (Nm.atoiV ((parts s).getD 2 ⟨#[]⟩).data.toList)).1 = s.data.toList then ((1, ((parts s).getD 1 ⟨#[]⟩).data.toList, [], Nm.atoiV ((parts s).getD 2 ⟨#[]⟩).data.toList, 0), 0) else (Nm.nil, 36) := by
    unfold Nm.parseN Nm.asked
    rw [part_at, part_at, part_at, if_pos h0]
  have hz1 := part_size s 1 hs
  have hz2 := part_size s 2 hs
  have hx0 : (parts s)[0]? = some (⟨#[109, 101, 116, 97]⟩ : ByteArray) := by
    have e0 : (parts s).getD 0 ⟨#[]⟩ = (⟨#[109, 101, 116, 97]⟩ : ByteArray) := by
      rw [← S.mkB_data ((parts s).getD 0 ⟨#[]⟩), h0]; rfl
    rw [← e0]; simp [hpl.1]
  have hz : asksV Nm.nil = .agg #[.int .i64 0, .string ⟨#[]⟩, .string ⟨#[]⟩, .int .i64 0, .int .i64 0] := rfl
  have hM := fun W hw => Meta_any ((parts s).getD 1 ⟨#[]⟩) (Nm.atoiV ((parts s).getD 2 ⟨#[]⟩).data.toList) W (by omega) hw
  have hN := fun W hw => number_any ((parts s).getD 2 ⟨#[]⟩) W (by omega) hw
  have hP1 : ∀ B W, Row B (parts s) W → Calls Tryd.prog 23 #[.slice (some ⟨B, 0, none⟩) (parts s).length (parts s).length, .int .i64 1] W fun e w' => e = .returned (.string ((parts s).getD 1 ⟨#[]⟩)) ∧ W = w' := fun B W hr => part_any B (parts s) 1 W hr (by omega) (by omega)
  have hP2 : ∀ B W, Row B (parts s) W → Calls Tryd.prog 23 #[.slice (some ⟨B, 0, none⟩) (parts s).length (parts s).length, .int .i64 2] W fun e w' => e = .returned (.string ((parts s).getD 2 ⟨#[]⟩)) ∧ W = w' := fun B W hr => part_any B (parts s) 2 W hr (by omega) (by omega)
  unfold Parsed
  rw [e]
  clear e h0 hz1 hz2
  generalize (parts s).getD 1 ⟨#[]⟩ = r1 at *
  generalize (parts s).getD 2 ⟨#[]⟩ = r2 at *
  generalize Nm.atoiV r2.data.toList = v at *
  generalize Nm.metaN r1.data.toList v = nm at *
  obtain ⟨nb, ne⟩ := nm
  have hM : _ := hM
  unfold Named at hM
  have hn0 : (0 : Int) < ((parts s).length : Int) := by omega
  generalize parts s = xs at *
  have HT := Aside0.mk ht
  have HS_ := Aside0.mk hP1
  have HS2_ := Aside0.mk hP2
  have HM_ := Aside0.mk hM
  have HN_ := Aside0.mk hN
  generalize hnn : xs.length = n at hSp hn0 hpl HS_ HS2_
  clear ht hP1 hP2 hM hN hs hnn
  by_cases hne : ne = 0
  · have f1 : (ne != 0) = false := bne_eq_false_iff_eq.mpr hne
    by_cases hbk : nb = s.data.toList
    · rw [if_pos ⟨hne, hbk⟩]
      have f2 : ((mkB nb).toList == s.toList) = true := beq_iff_eq.mpr (by rw [S.toList_list, S.toList_list, S.mkB_list]; exact hbk)
      have ea : asksV (((1, r1.data.toList, [], v, 0) : Nm.Ask)) = .agg #[.int .i64 1, .string r1, .string ⟨#[]⟩, .int .i64 v, .int .i64 0] := by simp only [asksV]; rw [S.mkB_data]; rfl
      rw [ea]
      generalize mkB nb = bk at *
      clear hbk hne ea
      go_enter Tryd.func13, Tryd.ntmps13
      go_wp2_with (first
        | ((with_reducible refine gate_dst (N := 2) rfl ?_); refine box_event ?hg (N := 2) ?hd (cs := #[.int .i64 0, .string ⟨#[]⟩, .string ⟨#[]⟩, .int .i64 0, .int .i64 0]) (t := 30) ?hr ?_; (case hd => rfl); (case hg => rfl); (case hr => first | (go_simp; done) | (go_simp; rfl)); intro g2 eg2 Wg2 hxg2 hbg2; have b2 := Aside0.mk (show St2 w g2 _ Wg2 from ⟨hbg2, hxg2, by omega⟩); clear hbg2 hxg2 eg2)
        | (go_at_call 22; (with_reducible refine (hSp _).mono ?_); clear hSp; rintro e w1 ⟨B, hB, rfl, hrow, hb_⟩; have b3 := Aside0.mk (b2.out.row hB hrow hb_); clear b2 hB hrow hb_)
        | ((with_reducible refine gate_dst (N := 5) rfl ?_); refine box_event ?hg (N := 5) ?hd (cs := #[.int .i64 0, .string ⟨#[]⟩, .string ⟨#[]⟩, .int .i64 0, .int .i64 0]) (t := 30) ?hr ?_; (case hd => rfl); (case hg => rfl); (case hr => first | (go_simp; done) | (go_simp; rfl)); intro g5 eg5 Wg5 hxg5 hbg5; have HP := Aside0.mk (b3.out.box hxg5 hbg5 eg5); clear b3 hxg5 hbg5 eg5; have hc0 := HP.out.hr.at_ 0 _ hx0)
        | (go_at_call 23; (with_reducible refine (HS_.out _ _ HP.out.hr).mono ?_); rintro e w' ⟨rfl, rfl⟩)
        | (go_at_call 23; (with_reducible refine (HS2_.out _ _ HP.out.hr).mono ?_); rintro e w' ⟨rfl, rfl⟩)
        | (go_at_call 24; (with_reducible refine (HN_.out _ (HT.out.below HP.out.hb)).mono ?_); rintro e w5 ⟨rfl, hb_⟩; have n0_ := Aside0.mk (HP.out.step hb_); clear HP hb_; have HP := n0_; clear n0_)
        | ((with_reducible refine gate_store (t := 30) (p := 5) (v := .tmp 22) rfl ?_); refine store30 rfl _ _ rfl g5 _ _ _ _ _ rfl rfl HP.out.h5 ?_; intro WS hWS; have n0_ := Aside0.mk (hWS ▸ HP.out.set5 #[.int .i64 1, .string r1, .string ⟨#[]⟩, .int .i64 v, .int .i64 0]); clear HP hWS; have HP := n0_; clear n0_; have hc1 := HP.out.cell5 1 _ rfl; have hc3 := HP.out.cell5 3 _ rfl)
        | (go_at_call 7; (with_reducible refine (HM_.out _ (HT.out.tabs.below HP.out.hb)).mono ?_); rintro e w6 ⟨rfl, hb_⟩; clear hc1 hc3; have n0_ := Aside0.mk (HP.out.step hb_); clear HP hb_; have HP := n0_; clear n0_)
        | ((with_reducible refine gate_dst (N := 78) rfl ?_); refine load30 rfl _ rfl g5 rfl HP.out.h5 ?_)
        | ((with_reducible refine gate_store (t := 30) (p := 2) (v := .tmp 78) rfl ?_); refine store30 rfl _ _ rfl g2 _ _ _ _ _ rfl rfl HP.out.h2 ?_; intro WZ hWZ; have n0_ := Aside0.mk (hWZ ▸ HP.out.set2 #[.int .i64 1, .string r1, .string ⟨#[]⟩, .int .i64 v, .int .i64 0]); clear HP hWZ; have HP := n0_; clear n0_))
      refine bodyPost_ret (ret30 rfl _ _ g2 rfl HP.out.h2) rfl ?_
      exact ⟨rfl, HP.out.hb⟩
    · rw [if_neg (fun h => hbk h.2)]
      have f2 : ((mkB nb).toList == s.toList) = false := beq_eq_false_iff_ne.mpr (by rw [S.toList_list, S.toList_list, S.mkB_list]; exact hbk)
      rw [hz]
      generalize mkB nb = bk at *
      clear hbk hne
      go_enter Tryd.func13, Tryd.ntmps13
      go_wp2_with (first
        | ((with_reducible refine gate_dst (N := 2) rfl ?_); refine box_event ?hg (N := 2) ?hd (cs := #[.int .i64 0, .string ⟨#[]⟩, .string ⟨#[]⟩, .int .i64 0, .int .i64 0]) (t := 30) ?hr ?_; (case hd => rfl); (case hg => rfl); (case hr => first | (go_simp; done) | (go_simp; rfl)); intro g2 eg2 Wg2 hxg2 hbg2; have b2 := Aside0.mk (show St2 w g2 _ Wg2 from ⟨hbg2, hxg2, by omega⟩); clear hbg2 hxg2 eg2)
        | (go_at_call 22; (with_reducible refine (hSp _).mono ?_); clear hSp; rintro e w1 ⟨B, hB, rfl, hrow, hb_⟩; have b3 := Aside0.mk (b2.out.row hB hrow hb_); clear b2 hB hrow hb_)
        | ((with_reducible refine gate_dst (N := 5) rfl ?_); refine box_event ?hg (N := 5) ?hd (cs := #[.int .i64 0, .string ⟨#[]⟩, .string ⟨#[]⟩, .int .i64 0, .int .i64 0]) (t := 30) ?hr ?_; (case hd => rfl); (case hg => rfl); (case hr => first | (go_simp; done) | (go_simp; rfl)); intro g5 eg5 Wg5 hxg5 hbg5; have HP := Aside0.mk (b3.out.box hxg5 hbg5 eg5); clear b3 hxg5 hbg5 eg5; have hc0 := HP.out.hr.at_ 0 _ hx0)
        | (go_at_call 23; (with_reducible refine (HS_.out _ _ HP.out.hr).mono ?_); rintro e w' ⟨rfl, rfl⟩)
        | (go_at_call 23; (with_reducible refine (HS2_.out _ _ HP.out.hr).mono ?_); rintro e w' ⟨rfl, rfl⟩)
        | (go_at_call 24; (with_reducible refine (HN_.out _ (HT.out.below HP.out.hb)).mono ?_); rintro e w5 ⟨rfl, hb_⟩; have n0_ := Aside0.mk (HP.out.step hb_); clear HP hb_; have HP := n0_; clear n0_)
        | ((with_reducible refine gate_store (t := 30) (p := 5) (v := .tmp 22) rfl ?_); refine store30 rfl _ _ rfl g5 _ _ _ _ _ rfl rfl HP.out.h5 ?_; intro WS hWS; have n0_ := Aside0.mk (hWS ▸ HP.out.set5 #[.int .i64 1, .string r1, .string ⟨#[]⟩, .int .i64 v, .int .i64 0]); clear HP hWS; have HP := n0_; clear n0_; have hc1 := HP.out.cell5 1 _ rfl; have hc3 := HP.out.cell5 3 _ rfl)
        | (go_at_call 7; (with_reducible refine (HM_.out _ (HT.out.tabs.below HP.out.hb)).mono ?_); rintro e w6 ⟨rfl, hb_⟩; clear hc1 hc3; have n0_ := Aside0.mk (HP.out.step hb_); clear HP hb_; have HP := n0_; clear n0_)
        | ((with_reducible refine gate_store (t := 30) (p := 2) (v := .tmp 77) rfl ?_); refine store30 rfl _ _ rfl g2 _ _ _ _ _ rfl rfl HP.out.h2 ?_; intro WZ hWZ; have n0_ := Aside0.mk (hWZ ▸ HP.out.set2 #[.int .i64 0, .string ⟨#[]⟩, .string ⟨#[]⟩, .int .i64 0, .int .i64 0]); clear HP hWZ; have HP := n0_; clear n0_))
      refine bodyPost_ret (ret30 rfl _ _ g2 rfl HP.out.h2) rfl ?_
      exact ⟨rfl, HP.out.hb⟩
  · rw [if_neg (fun h => hne h.1)]
    have f1 : (ne != 0) = true := bne_iff_ne.mpr hne
    rw [hz]
    generalize mkB nb = bk at *
    clear hne
    go_enter Tryd.func13, Tryd.ntmps13
    go_wp2_with (first
      | ((with_reducible refine gate_dst (N := 2) rfl ?_); refine box_event ?hg (N := 2) ?hd (cs := #[.int .i64 0, .string ⟨#[]⟩, .string ⟨#[]⟩, .int .i64 0, .int .i64 0]) (t := 30) ?hr ?_; (case hd => rfl); (case hg => rfl); (case hr => first | (go_simp; done) | (go_simp; rfl)); intro g2 eg2 Wg2 hxg2 hbg2; have b2 := Aside0.mk (show St2 w g2 _ Wg2 from ⟨hbg2, hxg2, by omega⟩); clear hbg2 hxg2 eg2)
      | (go_at_call 22; (with_reducible refine (hSp _).mono ?_); clear hSp; rintro e w1 ⟨B, hB, rfl, hrow, hb_⟩; have b3 := Aside0.mk (b2.out.row hB hrow hb_); clear b2 hB hrow hb_)
      | ((with_reducible refine gate_dst (N := 5) rfl ?_); refine box_event ?hg (N := 5) ?hd (cs := #[.int .i64 0, .string ⟨#[]⟩, .string ⟨#[]⟩, .int .i64 0, .int .i64 0]) (t := 30) ?hr ?_; (case hd => rfl); (case hg => rfl); (case hr => first | (go_simp; done) | (go_simp; rfl)); intro g5 eg5 Wg5 hxg5 hbg5; have HP := Aside0.mk (b3.out.box hxg5 hbg5 eg5); clear b3 hxg5 hbg5 eg5; have hc0 := HP.out.hr.at_ 0 _ hx0)
      | (go_at_call 23; (with_reducible refine (HS_.out _ _ HP.out.hr).mono ?_); rintro e w' ⟨rfl, rfl⟩)
      | (go_at_call 23; (with_reducible refine (HS2_.out _ _ HP.out.hr).mono ?_); rintro e w' ⟨rfl, rfl⟩)
      | (go_at_call 24; (with_reducible refine (HN_.out _ (HT.out.below HP.out.hb)).mono ?_); rintro e w5 ⟨rfl, hb_⟩; have n0_ := Aside0.mk (HP.out.step hb_); clear HP hb_; have HP := n0_; clear n0_)
      | ((with_reducible refine gate_store (t := 30) (p := 5) (v := .tmp 22) rfl ?_); refine store30 rfl _ _ rfl g5 _ _ _ _ _ rfl rfl HP.out.h5 ?_; intro WS hWS; have n0_ := Aside0.mk (hWS ▸ HP.out.set5 #[.int .i64 1, .string r1, .string ⟨#[]⟩, .int .i64 v, .int .i64 0]); clear HP hWS; have HP := n0_; clear n0_; have hc1 := HP.out.cell5 1 _ rfl; have hc3 := HP.out.cell5 3 _ rfl)
      | (go_at_call 7; (with_reducible refine (HM_.out _ (HT.out.tabs.below HP.out.hb)).mono ?_); rintro e w6 ⟨rfl, hb_⟩; clear hc1 hc3; have n0_ := Aside0.mk (HP.out.step hb_); clear HP hb_; have HP := n0_; clear n0_)
      | ((with_reducible refine gate_store (t := 30) (p := 2) (v := .tmp 77) rfl ?_); refine store30 rfl _ _ rfl g2 _ _ _ _ _ rfl rfl HP.out.h2 ?_; intro WZ hWZ; have n0_ := Aside0.mk (hWZ ▸ HP.out.set2 #[.int .i64 0, .string ⟨#[]⟩, .string ⟨#[]⟩, .int .i64 0, .int .i64 0]); clear HP hWZ; have HP := n0_; clear n0_))
    refine bodyPost_ret (ret30 rfl _ _ g2 rfl HP.out.h2) rfl ?_
    exact ⟨rfl, HP.out.hb⟩
theorem unhex_len : ∀ l : List UInt8, ((S.unhex l).getD []).length ≤ l.length
  | [] => by simp [S.unhex]
  | [_] => by simp [S.unhex]
  | a :: b :: r => by
    have ih := unhex_len r
    rw [D.unhex_cons]
    cases S.undig a <;> cases S.undig b <;> simp
    cases h : S.unhex r with
    | none => simp
    | some l => rw [h] at ih; simp at ih ⊢; omega
set_option maxHeartbeats 4000000 in
set_option maxRecDepth 100000 in
theorem Parse_data (s : ByteArray) (w : World) (hs : s.size ≤ 1000) (ht : Tabs5 w) (h0 : ((parts s).getD 0 ⟨#[]⟩).data.toList = Nm.DATA) :
    Calls Tryd.prog 13 #[.string s] w (Parsed w s) := by
  have hSp := fun W => split_c s W hs
  have hpl := parts_len s
  have e : Nm.parseN s.data.toList = if (Nm.dataN ((S.unhex ((parts s).getD 1 ⟨#[]⟩).data.toList).getD [])).2 = 0 ∧ (Nm.dataN ((S.unhex ((parts s).getD 1 ⟨#[]⟩).data.toList).getD [])).1 = s.data.toList then ((2, [], (S.unhex ((parts s).getD 1 ⟨#[]⟩).data.toList).getD [], 0, 0), 0) else (Nm.nil, 36) := by
    unfold Nm.parseN Nm.asked
    rw [part_at, part_at, h0, if_neg Nm.dm, if_pos rfl]
  have hz1 := part_size s 1 hs
  have hx0 : (parts s)[0]? = some (⟨#[100, 97, 116, 97]⟩ : ByteArray) := by
    have e0 : (parts s).getD 0 ⟨#[]⟩ = (⟨#[100, 97, 116, 97]⟩ : ByteArray) := by
      rw [← S.mkB_data ((parts s).getD 0 ⟨#[]⟩), h0]; rfl
    rw [← e0]; simp [hpl.1]
  have hz : asksV Nm.nil = .agg #[.int .i64 0, .string ⟨#[]⟩, .string ⟨#[]⟩, .int .i64 0, .int .i64 0] := rfl
  have hU : ∀ W, Calls Tryd.prog 25 #[.string ((parts s).getD 1 ⟨#[]⟩)] W fun e w' => (∃ c, e = .returned (.tuple #[.string (mkB ((S.unhex ((parts s).getD 1 ⟨#[]⟩).data.toList).getD [])), .int .i64 c])) ∧ Below W.heap.size W w' := fun W => by
    have hf := D.unhex_f ((parts s).getD 1 ⟨#[]⟩) (by omega) (((parts s).getD 1 ⟨#[]⟩).size + 1) (by omega)
    refine (Y.octet_Unhex.calls _ _ (D.uRes [] (S.unhex ((parts s).getD 1 ⟨#[]⟩).data.toList)).1 (D.uRes [] (S.unhex ((parts s).getD 1 ⟨#[]⟩).data.toList)).2 W hf).mono fun e w' ⟨he, hb⟩ => ⟨⟨(D.uRes [] (S.unhex ((parts s).getD 1 ⟨#[]⟩).data.toList)).2, he.trans ?_⟩, hb⟩
    cases S.unhex ((parts s).getD 1 ⟨#[]⟩).data.toList <;> rfl
  have hul : ((S.unhex ((parts s).getD 1 ⟨#[]⟩).data.toList).getD []).length ≤ 1000 := by
    have := unhex_len ((parts s).getD 1 ⟨#[]⟩).data.toList
    rw [S.size_list] at this; omega
  have hM := fun W => Data_any (mkB ((S.unhex ((parts s).getD 1 ⟨#[]⟩).data.toList).getD [])) W (by rw [S.mkB_size]; omega)
  rw [S.mkB_list] at hM
  have hP1 : ∀ B W, Row B (parts s) W → Calls Tryd.prog 23 #[.slice (some ⟨B, 0, none⟩) (parts s).length (parts s).length, .int .i64 1] W fun e w' => e = .returned (.string ((parts s).getD 1 ⟨#[]⟩)) ∧ W = w' := fun B W hr => part_any B (parts s) 1 W hr (by omega) (by omega)
  unfold Parsed
  rw [e]
  clear e h0 hz1
  generalize (parts s).getD 1 ⟨#[]⟩ = r1 at *
  generalize (S.unhex r1.data.toList).getD [] = sm at *
  generalize Nm.dataN sm = nm at *
  obtain ⟨nb, ne⟩ := nm
  have hM : _ := hM
  unfold Named at hM
  have hn0 : (0 : Int) < ((parts s).length : Int) := by omega
  generalize parts s = xs at *
  have hsm : asksV (2, [], sm, 0, 0) = .agg #[.int .i64 2, .string ⟨#[]⟩, .string (mkB sm), .int .i64 0, .int .i64 0] := rfl
  generalize mkB sm = sb at *
  have HT := Aside0.mk ht
  have HS_ := Aside0.mk hP1
  have HM_ := Aside0.mk hM
  have HN_ := Aside0.mk hU
  generalize hnn : xs.length = n at hSp hn0 hpl HS_
  clear ht hP1 hM hU hul hs hnn
  by_cases hne : ne = 0
  · have f1 : (ne != 0) = false := bne_eq_false_iff_eq.mpr hne
    by_cases hbk : nb = s.data.toList
    · rw [if_pos ⟨hne, hbk⟩]
      have f2 : ((mkB nb).toList == s.toList) = true := beq_iff_eq.mpr (by rw [S.toList_list, S.toList_list, S.mkB_list]; exact hbk)
      have ea : asksV (((2, [], sm, 0, 0) : Nm.Ask)) = .agg #[.int .i64 2, .string ⟨#[]⟩, .string sb, .int .i64 0, .int .i64 0] := hsm
      rw [ea]
      generalize mkB nb = bk at *
      clear hbk hne ea
      go_enter Tryd.func13, Tryd.ntmps13
      go_wp2_with (first
        | ((with_reducible refine gate_dst (N := 2) rfl ?_); refine box_event ?hg (N := 2) ?hd (cs := #[.int .i64 0, .string ⟨#[]⟩, .string ⟨#[]⟩, .int .i64 0, .int .i64 0]) (t := 30) ?hr ?_; (case hd => rfl); (case hg => rfl); (case hr => first | (go_simp; done) | (go_simp; rfl)); intro g2 eg2 Wg2 hxg2 hbg2; have b2 := Aside0.mk (show St2 w g2 _ Wg2 from ⟨hbg2, hxg2, by omega⟩); clear hbg2 hxg2 eg2)
        | (go_at_call 22; (with_reducible refine (hSp _).mono ?_); clear hSp; rintro e w1 ⟨B, hB, rfl, hrow, hb_⟩; have b3 := Aside0.mk (b2.out.row hB hrow hb_); clear b2 hB hrow hb_)
        | ((with_reducible refine gate_dst (N := 5) rfl ?_); refine box_event ?hg (N := 5) ?hd (cs := #[.int .i64 0, .string ⟨#[]⟩, .string ⟨#[]⟩, .int .i64 0, .int .i64 0]) (t := 30) ?hr ?_; (case hd => rfl); (case hg => rfl); (case hr => first | (go_simp; done) | (go_simp; rfl)); intro g5 eg5 Wg5 hxg5 hbg5; have HP := Aside0.mk (b3.out.box hxg5 hbg5 eg5); clear b3 hxg5 hbg5 eg5; have hc0 := HP.out.hr.at_ 0 _ hx0)
        | (go_at_call 23; (with_reducible refine (HS_.out _ _ HP.out.hr).mono ?_); rintro e w' ⟨rfl, rfl⟩)
        | (go_at_call 25; (with_reducible refine (HN_.out _).mono ?_); rintro e w5 ⟨⟨c_, rfl⟩, hb_⟩; have n0_ := Aside0.mk (HP.out.step hb_); clear HP hb_; have HP := n0_; clear n0_)
        | ((with_reducible refine gate_store (t := 30) (p := 5) (v := .tmp 40) rfl ?_); refine store30 rfl _ _ rfl g5 _ _ _ _ _ rfl rfl HP.out.h5 ?_; intro WS hWS; have n0_ := Aside0.mk (hWS ▸ HP.out.set5 #[.int .i64 2, .string ⟨#[]⟩, .string sb, .int .i64 0, .int .i64 0]); clear HP hWS; have HP := n0_; clear n0_)
        | (go_at_call 8; (with_reducible refine (HM_.out _).mono ?_); rintro e w6 ⟨rfl, hb_⟩; have n0_ := Aside0.mk (HP.out.step hb_); clear HP hb_; have HP := n0_; clear n0_)
        | ((with_reducible refine gate_dst (N := 78) rfl ?_); refine load30 rfl _ rfl g5 rfl HP.out.h5 ?_)
        | ((with_reducible refine gate_store (t := 30) (p := 2) (v := .tmp 78) rfl ?_); refine store30 rfl _ _ rfl g2 _ _ _ _ _ rfl rfl HP.out.h2 ?_; intro WZ hWZ; have n0_ := Aside0.mk (hWZ ▸ HP.out.set2 #[.int .i64 2, .string ⟨#[]⟩, .string sb, .int .i64 0, .int .i64 0]); clear HP hWZ; have HP := n0_; clear n0_))
      refine bodyPost_ret (ret30 rfl _ _ g2 rfl HP.out.h2) rfl ?_
      exact ⟨rfl, HP.out.hb⟩
    · rw [if_neg (fun h => hbk h.2)]
      have f2 : ((mkB nb).toList == s.toList) = false := beq_eq_false_iff_ne.mpr (by rw [S.toList_list, S.toList_list, S.mkB_list]; exact hbk)
      rw [hz]
      generalize mkB nb = bk at *
      clear hbk hne
      go_enter Tryd.func13, Tryd.ntmps13
      go_wp2_with (first
        | ((with_reducible refine gate_dst (N := 2) rfl ?_); refine box_event ?hg (N := 2) ?hd (cs := #[.int .i64 0, .string ⟨#[]⟩, .string ⟨#[]⟩, .int .i64 0, .int .i64 0]) (t := 30) ?hr ?_; (case hd => rfl); (case hg => rfl); (case hr => first | (go_simp; done) | (go_simp; rfl)); intro g2 eg2 Wg2 hxg2 hbg2; have b2 := Aside0.mk (show St2 w g2 _ Wg2 from ⟨hbg2, hxg2, by omega⟩); clear hbg2 hxg2 eg2)
        | (go_at_call 22; (with_reducible refine (hSp _).mono ?_); clear hSp; rintro e w1 ⟨B, hB, rfl, hrow, hb_⟩; have b3 := Aside0.mk (b2.out.row hB hrow hb_); clear b2 hB hrow hb_)
        | ((with_reducible refine gate_dst (N := 5) rfl ?_); refine box_event ?hg (N := 5) ?hd (cs := #[.int .i64 0, .string ⟨#[]⟩, .string ⟨#[]⟩, .int .i64 0, .int .i64 0]) (t := 30) ?hr ?_; (case hd => rfl); (case hg => rfl); (case hr => first | (go_simp; done) | (go_simp; rfl)); intro g5 eg5 Wg5 hxg5 hbg5; have HP := Aside0.mk (b3.out.box hxg5 hbg5 eg5); clear b3 hxg5 hbg5 eg5; have hc0 := HP.out.hr.at_ 0 _ hx0)
        | (go_at_call 23; (with_reducible refine (HS_.out _ _ HP.out.hr).mono ?_); rintro e w' ⟨rfl, rfl⟩)
        | (go_at_call 25; (with_reducible refine (HN_.out _).mono ?_); rintro e w5 ⟨⟨c_, rfl⟩, hb_⟩; have n0_ := Aside0.mk (HP.out.step hb_); clear HP hb_; have HP := n0_; clear n0_)
        | ((with_reducible refine gate_store (t := 30) (p := 5) (v := .tmp 40) rfl ?_); refine store30 rfl _ _ rfl g5 _ _ _ _ _ rfl rfl HP.out.h5 ?_; intro WS hWS; have n0_ := Aside0.mk (hWS ▸ HP.out.set5 #[.int .i64 2, .string ⟨#[]⟩, .string sb, .int .i64 0, .int .i64 0]); clear HP hWS; have HP := n0_; clear n0_)
        | (go_at_call 8; (with_reducible refine (HM_.out _).mono ?_); rintro e w6 ⟨rfl, hb_⟩; have n0_ := Aside0.mk (HP.out.step hb_); clear HP hb_; have HP := n0_; clear n0_)
        | ((with_reducible refine gate_store (t := 30) (p := 2) (v := .tmp 77) rfl ?_); refine store30 rfl _ _ rfl g2 _ _ _ _ _ rfl rfl HP.out.h2 ?_; intro WZ hWZ; have n0_ := Aside0.mk (hWZ ▸ HP.out.set2 #[.int .i64 0, .string ⟨#[]⟩, .string ⟨#[]⟩, .int .i64 0, .int .i64 0]); clear HP hWZ; have HP := n0_; clear n0_))
      refine bodyPost_ret (ret30 rfl _ _ g2 rfl HP.out.h2) rfl ?_
      exact ⟨rfl, HP.out.hb⟩
  · rw [if_neg (fun h => hne h.1)]
    have f1 : (ne != 0) = true := bne_iff_ne.mpr hne
    rw [hz]
    generalize mkB nb = bk at *
    clear hne
    go_enter Tryd.func13, Tryd.ntmps13
    go_wp2_with (first
      | ((with_reducible refine gate_dst (N := 2) rfl ?_); refine box_event ?hg (N := 2) ?hd (cs := #[.int .i64 0, .string ⟨#[]⟩, .string ⟨#[]⟩, .int .i64 0, .int .i64 0]) (t := 30) ?hr ?_; (case hd => rfl); (case hg => rfl); (case hr => first | (go_simp; done) | (go_simp; rfl)); intro g2 eg2 Wg2 hxg2 hbg2; have b2 := Aside0.mk (show St2 w g2 _ Wg2 from ⟨hbg2, hxg2, by omega⟩); clear hbg2 hxg2 eg2)
      | (go_at_call 22; (with_reducible refine (hSp _).mono ?_); clear hSp; rintro e w1 ⟨B, hB, rfl, hrow, hb_⟩; have b3 := Aside0.mk (b2.out.row hB hrow hb_); clear b2 hB hrow hb_)
      | ((with_reducible refine gate_dst (N := 5) rfl ?_); refine box_event ?hg (N := 5) ?hd (cs := #[.int .i64 0, .string ⟨#[]⟩, .string ⟨#[]⟩, .int .i64 0, .int .i64 0]) (t := 30) ?hr ?_; (case hd => rfl); (case hg => rfl); (case hr => first | (go_simp; done) | (go_simp; rfl)); intro g5 eg5 Wg5 hxg5 hbg5; have HP := Aside0.mk (b3.out.box hxg5 hbg5 eg5); clear b3 hxg5 hbg5 eg5; have hc0 := HP.out.hr.at_ 0 _ hx0)
      | (go_at_call 23; (with_reducible refine (HS_.out _ _ HP.out.hr).mono ?_); rintro e w' ⟨rfl, rfl⟩)
      | (go_at_call 25; (with_reducible refine (HN_.out _).mono ?_); rintro e w5 ⟨⟨c_, rfl⟩, hb_⟩; have n0_ := Aside0.mk (HP.out.step hb_); clear HP hb_; have HP := n0_; clear n0_)
      | ((with_reducible refine gate_store (t := 30) (p := 5) (v := .tmp 40) rfl ?_); refine store30 rfl _ _ rfl g5 _ _ _ _ _ rfl rfl HP.out.h5 ?_; intro WS hWS; have n0_ := Aside0.mk (hWS ▸ HP.out.set5 #[.int .i64 2, .string ⟨#[]⟩, .string sb, .int .i64 0, .int .i64 0]); clear HP hWS; have HP := n0_; clear n0_)
      | (go_at_call 8; (with_reducible refine (HM_.out _).mono ?_); rintro e w6 ⟨rfl, hb_⟩; have n0_ := Aside0.mk (HP.out.step hb_); clear HP hb_; have HP := n0_; clear n0_)
      | ((with_reducible refine gate_store (t := 30) (p := 2) (v := .tmp 77) rfl ?_); refine store30 rfl _ _ rfl g2 _ _ _ _ _ rfl rfl HP.out.h2 ?_; intro WZ hWZ; have n0_ := Aside0.mk (hWZ ▸ HP.out.set2 #[.int .i64 0, .string ⟨#[]⟩, .string ⟨#[]⟩, .int .i64 0, .int .i64 0]); clear HP hWZ; have HP := n0_; clear n0_))
    refine bodyPost_ret (ret30 rfl _ _ g2 rfl HP.out.h2) rfl ?_
    exact ⟨rfl, HP.out.hb⟩
end Go.Proofs.YtmgkgjacnbeboaaDoor.E
