/- name.part; a law for a region that draws its order, by what holds behind each of its operations. -/
import Derived.Test.YtmgkgjacnbeboaaDoorH4
import Derived.Test.YtmgkgjacnbeboaaDoorSpl
import Derived.Test.YtmgkgjacnbeboaaDoorD1
import Derived.Laws.CopyOwn
section
set_option linter.unusedVariables false
set_option linter.unusedSimpArgs false
namespace Go.Proofs.YtmgkgjacnbeboaaDoor.E
open Go.RowKit Go.Lib Go.Shelf Go.Proofs.YtmgkgjacnbeboaaDoorW.PrintWords Go.Proofs.YtmgkgjacnbeboaaDoorW.PrintLast Go.Proofs.YtmgkgjacnbeboaaDoorW.PrintMore
open S (mkB)
/-- A row of texts lies in block B from its start. -/
structure Row (B : Nat) (xs : List ByteArray) (w : World) : Prop where
  at_ : ∀ (j : Nat) x, xs[j]? = some x → w.cell? ⟨B, j, none⟩ = some (.string x)
  lt : B < w.heap.size
theorem Row.below {B : Nat} {xs : List ByteArray} {w w' : World} (h : Row B xs w) (hb : Below w.heap.size w w') : Row B xs w' :=
  ⟨fun j x hx => (hb.cell (p := ⟨B, j, none⟩) h.lt).trans (h.at_ j x hx), Nat.lt_of_lt_of_le h.lt hb.size⟩
theorem Row.new (w : World) (xs : List ByteArray) : Row w.heap.size xs (w.alloc (.cells (xs.map Value.string).toArray 9)) :=
  ⟨fun j x hx => by have := lit_cell w xs j x hx; rwa [Nat.zero_add] at this, by simp⟩
set_option maxHeartbeats 1000000 in
theorem part_any (B : Nat) (xs : List ByteArray) (i : Nat) (w : World) (hr : Row B xs w) (hn : xs.length ≤ 8589934592) (hi : i ≤ 3) :
    Calls Tryd.prog 23 #[.slice (some ⟨B, 0, none⟩) xs.length xs.length, .int .i64 i] w fun e w' => e = .returned (.string (xs.getD i ⟨#[]⟩)) ∧ w = w' := by
  by_cases h : i < xs.length
  · have hx : xs[i]? = some (xs.getD i ⟨#[]⟩) := by simp [h]
    have hc := hr.at_ i _ hx
    generalize xs.getD i ⟨#[]⟩ = x at hc ⊢
    generalize xs.length = n at *
    have h1 : ¬ ((n : Int) ≤ (i : Int)) := by omega
    have h2 : (i : Int) < (n : Int) := by omega
    have h3 : (0 : Int) ≤ (i : Int) := by omega
    clear hr hx
    go_enter Tryd.func23, Tryd.ntmps23
    go_wp2
    go_ret
    exact ⟨rfl, rfl⟩
  · have hx : xs.getD i ⟨#[]⟩ = ⟨#[]⟩ := by simp [List.getElem?_eq_none (Nat.le_of_not_lt h)]
    rw [hx]
    generalize xs.length = n at *
    have h1 : (n : Int) ≤ (i : Int) := by omega
    clear hr hx
    go_enter Tryd.func23, Tryd.ntmps23
    go_wp2
    go_ret
    exact ⟨rfl, rfl⟩
/-- A region that draws its order, by what holds behind each of its operations ('listed': which have come up): each is shown once. -/
theorem wpAny_inv {P : Program} {ops : Array Oper} {Q : Exit → Act → World → Prop} {md : Region.Mode} (Inv : Array Bool → Act → World → Prop)
    (hstep : ∀ listed a w i o, Inv listed a w → ops[i]? = some o → listed.getD i true = false → (∀ e ∈ o.after, Region.binds md e = true → listed.getD e.on false = true) → wpOp P ops Q i (fun a' w' => Inv (listed.setIfInBounds i true) a' w') a w)
    (hdone : ∀ listed a w, Inv listed a w → Region.ready md ops listed = [] → Q .normal a w) :
    ∀ (fuel : Nat) (listed : Array Bool) (a : Act) (w : World), Inv listed a w → listed.toList.count false ≤ fuel → wpAny P md ops Q fuel listed a w := by
  have hgone : ∀ (listed : Array Bool) (i : Nat), listed.getD i true = false → ∃ h : i < listed.toList.length, listed.toList[i] = false := fun listed i h => by
    by_cases hlt : i < listed.size
    · refine ⟨by simpa using hlt, ?_⟩
      simp [hlt] at h
      simpa using h
    · simp [Array.getElem?_eq_none (Nat.le_of_not_lt hlt)] at h
  intro fuel
  induction fuel with
  | zero =>
    intro listed a w hI hc
    have hr : Region.ready md ops listed = [] := by
      apply List.eq_nil_iff_forall_not_mem.2
      intro i hi
      obtain ⟨hl, he⟩ := hgone listed i (mem_ready.1 hi).1
      have : 0 < listed.toList.count false := List.count_pos_iff.2 (he ▸ List.getElem_mem hl)
      omega
    exact ⟨hr, hdone listed a w hI hr⟩
  | succ fuel ih =>
    intro listed a w hI hc
    refine ⟨fun hr => hdone listed a w hI hr, fun i hi => ?_⟩
    obtain ⟨hn, o, ho, hd⟩ := mem_ready.1 hi
    refine wpOp_mono (fun a' w' h' => ih _ a' w' h' ?_) (hstep listed a w i o hI ho hn hd)
    obtain ⟨hl, he⟩ := hgone listed i hn
    rw [Array.toList_setIfInBounds, List.count_set hl, he]
    have : 0 < listed.toList.count false := List.count_pos_iff.2 (he ▸ List.getElem_mem hl)
    have e1 : (if (false == false) = true then 1 else 0) = 1 := rfl
    have e2 : (if (true == false) = true then 1 else 0) = 0 := rfl
    rw [e1, e2]; omega
/-- Nothing may come up any more: all have come up. -/
theorem all_listed {ops : Array Oper} {md : Region.Mode} {listed : Array Bool} (hs : listed.size = ops.size) (hac : ∀ (i : Nat) (o : Oper), ops[i]? = some o → ∀ e ∈ o.after, e.on < i) (hr : Region.ready md ops listed = []) :
    ∀ i, i < ops.size → listed.getD i true = true := by
  intro i
  induction i using Nat.strongRecOn with
  | ind i ih =>
    intro hi
    cases hv : listed.getD i true with
    | true => rfl
    | false =>
      exfalso
      have ho : ops[i]? = some ops[i] := by simp [hi]
      have : i ∈ Region.ready md ops listed := mem_ready.2 ⟨hv, ops[i], ho, fun e he _ => by
        have hlt := hac i _ ho e he
        have h1 := ih e.on hlt (by omega)
        have hlt' : e.on < listed.size := by omega
        simp [hlt'] at h1 ⊢; exact h1⟩
      rw [hr] at this; cases this
end Go.Proofs.YtmgkgjacnbeboaaDoor.E

end
section
set_option linter.unusedVariables false
set_option linter.unusedSimpArgs false
namespace Go.Proofs.YtmgkgjacnbeboaaDoor.E
open Go.RowKit Go.Lib Go.Shelf Go.Proofs.YtmgkgjacnbeboaaDoorW.PrintWords Go.Proofs.YtmgkgjacnbeboaaDoorW.PrintLast Go.Proofs.YtmgkgjacnbeboaaDoorW.PrintMore
open S (mkB)
attribute [local irreducible] Nm.nameOk Nm.within Lib.itoa Lib.mapD Lib.join S.hexs Nm.kd KD Nm.metaN Nm.dataN Nm.logN Nm.nmS G.split Nm.atoiV S.unhex
def asksV (a : Nm.Ask) : Value := .agg #[.int .i64 a.1, .string (mkB a.2.1), .string (mkB a.2.2.1), .int .i64 a.2.2.2.1, .int .i64 a.2.2.2.2]
def Parsed (w : World) (s : ByteArray) (e : Ending) (w' : World) : Prop := e = .returned (.tuple #[asksV (Nm.parseN s.data.toList).1, .int .i64 (Nm.parseN s.data.toList).2]) ∧ Below w.heap.size w w'
theorem part_at (s : ByteArray) (i : Nat) : Nm.part (G.split s.data.toList) i = ((parts s).getD i ⟨#[]⟩).data.toList := by
  unfold Nm.part
  rw [← parts_data s]
  by_cases h : i < (parts s).length
  · simp [h]
  · simp [List.getElem?_eq_none (Nat.le_of_not_lt h)]
theorem parts_len (s : ByteArray) : 0 < (parts s).length ∧ (parts s).length ≤ s.size + 1 := by
  have h1 : 1 ≤ (⟨#[47]⟩ : ByteArray).size := Nat.le_refl _
  have hle := Lib.countB_le ⟨#[47]⟩ h1 s.size s (Nat.le_refl _)
  have hlen := Lib.splitB_all ⟨#[47]⟩ h1 0 _ s rfl
  unfold parts
  rw [hlen]; omega
theorem split_c (s : ByteArray) (W : World) (hs : s.size ≤ 1000) : Calls Tryd.prog 22 #[.string s, .string ⟨#[47]⟩] W fun e w' => ∃ B, B = W.heap.size ∧ e = .returned (.slice (some ⟨B, 0, none⟩) (parts s).length (parts s).length) ∧ Row B (parts s) w' ∧ Below W.heap.size W w' :=
  (split_one s 47 W (by omega)).mono fun e w' ⟨he, hw⟩ => ⟨_, rfl, he, by rw [hw]; exact Row.new W _, by rw [hw]; exact below_alloc (Below.refl _ _) _⟩
/-- What is known of memory while a name is parsed: the result's block, what is asked for, the parts. -/
structure Pst (w : World) (g2 g5 B : Nat) (xs : List ByteArray) (c2 c5 : Array Value) (W : World) : Prop where
  hb : Below w.heap.size w W
  h2 : W.heap[g2]? = some (.cells c2 30 (0, 0))
  h5 : W.heap[g5]? = some (.cells c5 30 (0, 0))
  hr : Row B xs W
  l2 : w.heap.size ≤ g2
  l5 : w.heap.size ≤ g5
  n25 : g2 ≠ g5
  n2B : B ≠ g2
  n5B : B ≠ g5
theorem lt_of_at {h : Array Obj} {g : Nat} {o : Obj} (e : h[g]? = some o) : g < h.size := (Array.getElem?_eq_some_iff.1 e).1
theorem Pst.step {w : World} {g2 g5 B : Nat} {xs : List ByteArray} {c2 c5 : Array Value} {W W' : World} (h : Pst w g2 g5 B xs c2 c5 W) (hb : Below W.heap.size W W') : Pst w g2 g5 B xs c2 c5 W' :=
  ⟨below_step h.hb hb, (hb.block g2 (lt_of_at h.h2)).trans h.h2, (hb.block g5 (lt_of_at h.h5)).trans h.h5, h.hr.below hb, h.l2, h.l5, h.n25, h.n2B, h.n5B⟩
theorem Pst.set5 {w : World} {g2 g5 B : Nat} {xs : List ByteArray} {c2 c5 : Array Value} {W : World} (h : Pst w g2 g5 B xs c2 c5 W) (cs : Array Value) : Pst w g2 g5 B xs c2 cs (W.setRow g5 cs) :=
  ⟨below_setRow h.hb h.l5 cs, (setRow_other W g5 g2 cs h.n25).trans h.h2, setRow_heap W g5 c5 cs 30 (0, 0) h.h5, ⟨fun j x hx => (cell_setRow_other W g5 cs ⟨B, j, none⟩ h.n5B).trans (h.hr.at_ j x hx), by rw [setRow_size]; exact h.hr.lt⟩, h.l2, h.l5, h.n25, h.n2B, h.n5B⟩
theorem Pst.set2 {w : World} {g2 g5 B : Nat} {xs : List ByteArray} {c2 c5 : Array Value} {W : World} (h : Pst w g2 g5 B xs c2 c5 W) (cs : Array Value) : Pst w g2 g5 B xs cs c5 (W.setRow g2 cs) :=
  ⟨below_setRow h.hb h.l2 cs, setRow_heap W g2 c2 cs 30 (0, 0) h.h2, (setRow_other W g2 g5 cs h.n25.symm).trans h.h5, ⟨fun j x hx => (cell_setRow_other W g2 cs ⟨B, j, none⟩ h.n2B).trans (h.hr.at_ j x hx), by rw [setRow_size]; exact h.hr.lt⟩, h.l2, h.l5, h.n25, h.n2B, h.n5B⟩
theorem Pst.cell5 {w : World} {g2 g5 B : Nat} {xs : List ByteArray} {c2 c5 : Array Value} {W : World} (h : Pst w g2 g5 B xs c2 c5 W) (j : Nat) (v : Value) (hv : c5[j]? = some v) : W.cell? ⟨g5, j, none⟩ = some v := by
  simp [World.cell?, h.h5, hv]
structure St2 (w : World) (g2 : Nat) (c2 : Array Value) (W : World) : Prop where
  hb : Below w.heap.size w W
  h2 : W.heap[g2]? = some (.cells c2 30 (0, 0))
  l2 : w.heap.size ≤ g2
structure St3 (w : World) (g2 B : Nat) (xs : List ByteArray) (c2 : Array Value) (W : World) : Prop where
  hb : Below w.heap.size w W
  h2 : W.heap[g2]? = some (.cells c2 30 (0, 0))
  hr : Row B xs W
  l2 : w.heap.size ≤ g2
  n2B : B ≠ g2
theorem St2.row {w : World} {g2 B : Nat} {xs : List ByteArray} {c2 : Array Value} {W W' : World} (h : St2 w g2 c2 W) (hB : B = W.heap.size) (hr : Row B xs W') (hb : Below W.heap.size W W') : St3 w g2 B xs c2 W' :=
  ⟨below_step h.hb hb, (hb.block g2 (lt_of_at h.h2)).trans h.h2, hr, h.l2, by have := lt_of_at h.h2; omega⟩
theorem St3.box {w : World} {g2 g5 B : Nat} {xs : List ByteArray} {c2 c5 : Array Value} {W W' : World} (h : St3 w g2 B xs c2 W) (h5 : W'.heap[g5]? = some (.cells c5 30 (0, 0))) (hb : Below W.heap.size W W') (e : g5 = W.heap.size) : Pst w g2 g5 B xs c2 c5 W' :=
  ⟨below_step h.hb hb, (hb.block g2 (lt_of_at h.h2)).trans h.h2, h5, h.hr.below hb, h.l2, by have := h.hb.size; omega, by have := lt_of_at h.h2; omega, h.n2B, by have := h.hr.lt; omega⟩
def cs5 (k : Int) (r s : ByteArray) (a b : Int) : Array Value := #[.int .i64 k, .string r, .string s, .int .i64 a, .int .i64 b]
theorem store30 {ops : Array Oper} {rest : List Oper} {o : Oper} {act : Act} {W : World} {Q : Exit → Act → World → Prop} (hgd : o.guard = none) (x y : Operand) (ho : o.op = .store 30 x y) (g : Nat) (k : Int) (r1 r2 : ByteArray) (v1 v2 : Int)
    (hx : act.eval x = .pointer (some ⟨g, 0, none⟩)) (hy : act.eval y = .agg #[.int .i64 k, .string r1, .string r2, .int .i64 v1, .int .i64 v2]) {u0 u1 u2 u3 u4 : Value}
    (hg : W.heap[g]? = some (.cells #[u0, u1, u2, u3, u4] 30 (0, 0)))
    (h : ∀ W', W' = W.setRow g #[.int .i64 k, .string r1, .string r2, .int .i64 v1, .int .i64 v2] → wpList Tryd.prog ops Q rest (act.put o.dst undef) W') : wpList Tryd.prog ops Q (o :: rest) act W :=
  wpList_store_row hgd 30 x y ho g _ hx hy 30 _ hg (by kernel_rfl) rfl (by simp [Value.oneCell']) (h _ rfl)
set_option maxHeartbeats 4000000 in
set_option maxRecDepth 100000 in
theorem Parse_none (s : ByteArray) (w : World) (hs : s.size ≤ 1000) (hm : ((parts s).getD 0 ⟨#[]⟩).data.toList ≠ Nm.META) (hd : ((parts s).getD 0 ⟨#[]⟩).data.toList ≠ Nm.DATA) (hl : ((parts s).getD 0 ⟨#[]⟩).data.toList ≠ Nm.LOG) :
    Calls Tryd.prog 13 #[.string s] w (Parsed w s) := by
  have hu30 := Tryd.underlying30
  have hSp := fun W => split_c s W hs
  have hpl := parts_len s
  have e : Nm.parseN s.data.toList = (Nm.nil, 36) := by
    unfold Nm.parseN Nm.asked
    rw [part_at, if_neg hm, if_neg hd, if_neg hl]
    exact if_neg (fun h => by simp at h)
  unfold Parsed
  rw [e]
  have hx0 : (parts s)[0]? = some ((parts s).getD 0 ⟨#[]⟩) := by simp [hpl.1]
  have m1 : (((parts s).getD 0 ⟨#[]⟩).toList == ([109, 101, 116, 97] : List UInt8)) = false := by rw [S.toList_list]; exact beq_eq_false_iff_ne.mpr hm
  have m2 : (((parts s).getD 0 ⟨#[]⟩).toList == ([100, 97, 116, 97] : List UInt8)) = false := by rw [S.toList_list]; exact beq_eq_false_iff_ne.mpr hd
  have m3 : (((parts s).getD 0 ⟨#[]⟩).toList == ([108, 111, 103] : List UInt8)) = false := by rw [S.toList_list]; exact beq_eq_false_iff_ne.mpr hl
  generalize (parts s).getD 0 ⟨#[]⟩ = h0 at hx0 m1 m2 m3
  have hz : asksV Nm.nil = .agg #[.int .i64 0, .string ⟨#[]⟩, .string ⟨#[]⟩, .int .i64 0, .int .i64 0] := rfl
  rw [hz]
  generalize parts s = xs at hx0 hSp hpl
  have hn0 : (0 : Int) < (xs.length : Int) := by omega
  generalize hnn : xs.length = n at hSp hn0 hpl
  clear e hz hm hd hl hs hnn
  go_enter Tryd.func13, Tryd.ntmps13
  go_wp2_with (first
    | ((with_reducible refine gate_dst (N := 2) rfl ?_); refine box_event ?hg (N := 2) ?hd (cs := #[.int .i64 0, .string ⟨#[]⟩, .string ⟨#[]⟩, .int .i64 0, .int .i64 0]) (t := 30) ?hr ?_; (case hd => rfl); (case hg => rfl); (case hr => first | (go_simp; done) | (go_simp; rfl)); intro g2 eg2 Wg2 hxg2 hbg2; have b2 := Aside0.mk (show St2 w g2 _ Wg2 from ⟨hbg2, hxg2, by omega⟩); clear hbg2 hxg2 eg2)
    | (go_at_call 22; (with_reducible refine (hSp _).mono ?_); clear hSp; rintro e w1 ⟨B, hB, rfl, hrow, hb_⟩; have b3 := Aside0.mk (b2.out.row hB hrow hb_); clear b2 hB hrow hb_)
    | ((with_reducible refine gate_dst (N := 5) rfl ?_); refine box_event ?hg (N := 5) ?hd (cs := #[.int .i64 0, .string ⟨#[]⟩, .string ⟨#[]⟩, .int .i64 0, .int .i64 0]) (t := 30) ?hr ?_; (case hd => rfl); (case hg => rfl); (case hr => first | (go_simp; done) | (go_simp; rfl)); intro g5 eg5 Wg5 hxg5 hbg5; have HP := Aside0.mk (b3.out.box hxg5 hbg5 eg5); clear b3 hxg5 hbg5 eg5; have hc0 := HP.out.hr.at_ 0 _ hx0)
    | (refine store30 rfl _ _ rfl g2 _ _ _ _ _ rfl rfl HP.out.h2 ?_; intro WZ hWZ; have n0_ := Aside0.mk (hWZ ▸ HP.out.set2 #[.int .i64 0, .string ⟨#[]⟩, .string ⟨#[]⟩, .int .i64 0, .int .i64 0]); clear HP hWZ; have HP := n0_; clear n0_))
  refine bodyPost_ret (results_ct rfl _ _ g2 30 #[.int .i64 0, .string ⟨#[]⟩, .string ⟨#[]⟩, .int .i64 0, .int .i64 0] (0, 0) _ rfl HP.out.h2 hu30 rfl (by kernel_rfl)) rfl ?_
  exact ⟨rfl, HP.out.hb⟩
end Go.Proofs.YtmgkgjacnbeboaaDoor.E

end
