/- name.Meta, Data, Log: the names of metadata, bytes, anything of a log. -/
import Derived.Test.YtmgkgjacnbeboaaDoorH2
set_option linter.unusedVariables false
set_option linter.unusedSimpArgs false
namespace Go.Proofs.YtmgkgjacnbeboaaDoor.E
open Go.RowKit Go.Lib Go.Shelf Go.Proofs.YtmgkgjacnbeboaaDoorW.PrintWords Go.Proofs.YtmgkgjacnbeboaaDoorW.PrintLast Go.Proofs.YtmgkgjacnbeboaaDoorW.PrintMore
open S (mkB)
attribute [local irreducible] Nm.nameOk Nm.within Lib.itoa Lib.mapD Lib.join S.hexs
theorem mk_eq (l : List UInt8) : (⟨l.toArray⟩ : ByteArray) = mkB l := rfl
set_option maxHeartbeats 2000000 in
theorem metaName_any (s : ByteArray) (w : World) (hs : s.size < 35184372088832) (ht : Tabs w) :
    Calls Tryd.prog 15 #[.string s] w fun e w' => e = .returned (.bool (Nm.nameOk s.data.toList)) ∧ Below w.heap.size w w' := by
  have hl := S.size_list s
  by_cases h1 : 1 ≤ s.size
  · by_cases h2 : s.size ≤ 32
    · have hM := map_any s w hs ht
      have e : Nm.nameOk s.data.toList = s.data.toList.all Nm.plainR := by unfold Nm.nameOk; rw [hl]; simp [h1, h2]
      have hp := Nm.map_plain s.data.toList
      rw [e]
      cases ha : s.data.toList.all Nm.plainR with
      | true =>
        rw [hp.2 ha] at hM
        have hM' : Calls Tryd.prog 30 #[.func (.func 29) #[] #[], .string s] w fun e w' => e = .returned (.string ⟨#[]⟩) ∧ Below w.heap.size w w' := hM
        clear hM e hp ha hl ht
        go_enter Tryd.func15, Tryd.ntmps15
        go_wp2_with (go_at_call 30; (with_reducible refine hM'.mono ?_); rintro e w' ⟨rfl, hb⟩; have HC := Aside0.mk hb; clear hb)
        go_ret
        exact ⟨by simp, HC.out⟩
      | false =>
        have hne : Lib.mapD Nm.dropPlain s.data.toList ≠ [] := fun h => by rw [hp.1 h] at ha; cases ha
        obtain ⟨r, hr⟩ : ∃ r : ByteArray, r = ⟨(Lib.mapD Nm.dropPlain s.data.toList).toArray⟩ := ⟨_, rfl⟩
        rw [← hr] at hM
        have hrn : r.toList = [] → False := fun h => hne (by rw [S.toList_list] at h; rw [hr] at h; simpa using h)
        have hr1 : r.toList.isEmpty = false := by cases h : r.toList with
          | nil => exact absurd h (fun h => hrn h)
          | cons _ _ => rfl
        have hr2 : (r.toList = []) = False := eq_false (fun h => hrn h)
        clear e hp ha hl ht hne hr
        go_enter Tryd.func15, Tryd.ntmps15
        go_wp2_with (go_at_call 30; (with_reducible refine hM.mono ?_); rintro e w' ⟨rfl, hb⟩; have HC := Aside0.mk hb; clear hb)
        go_ret
        exact ⟨by simp [hr1, hr2], HC.out⟩
    · have e : Nm.nameOk s.data.toList = false := by unfold Nm.nameOk; rw [hl]; simp [h2]
      rw [e]
      clear e ht hl
      go_enter Tryd.func15, Tryd.ntmps15
      go_wp2
      go_ret
      exact ⟨rfl, Below.refl _ _⟩
  · have e : Nm.nameOk s.data.toList = false := by unfold Nm.nameOk; rw [hl]; simp [show s.size = 0 by omega]
    have h0 : s.size = 0 := by omega
    rw [e]
    clear e ht hl h1
    go_enter Tryd.func15, Tryd.ntmps15
    go_wp2
    go_ret
    exact ⟨rfl, Below.refl _ _⟩
set_option maxHeartbeats 1000000 in
theorem within_any (n : Int) (w : World) : Calls Tryd.prog 16 #[.int .i64 n] w fun e w' => e = .returned (.bool (Nm.within n)) ∧ w = w' := by
  by_cases h1 : 0 ≤ n
  · by_cases h2 : n ≤ 1000000
    · have e : Nm.within n = true := by unfold Nm.within; simp [h1, h2]
      rw [e]; clear e
      go_enter Tryd.func16, Tryd.ntmps16
      go_wp2
      go_ret
      exact ⟨rfl, rfl⟩
    · have e : Nm.within n = false := by unfold Nm.within; simp [h2]
      have h3 : decide (n ≤ 1000000) = false := by simpa using h2
      rw [e]; clear e
      go_enter Tryd.func16, Tryd.ntmps16
      go_wp2
      go_ret
      exact ⟨rfl, rfl⟩
  · have e : Nm.within n = false := by unfold Nm.within; simp [h1]
    have h3 : decide (0 ≤ n) = false := by simpa using h1
    rw [e]; clear e
    go_enter Tryd.func16, Tryd.ntmps16
    go_wp2
    go_ret
    exact ⟨rfl, rfl⟩
set_option maxHeartbeats 1000000 in
theorem joined_any (B c : Nat) (xs : List ByteArray) (W : World) (hc : ∀ (j : Nat) x, xs[j]? = some x → W.cell? ⟨B, 0 + j, none⟩ = some (.string x)) (hB : B < W.heap.size) (hn : xs.length ≤ 1000) (hcap : xs.length ≤ c)
    (hlen : (Lib.join (xs.map (·.data.toList)) [47]).length ≤ 140737488355328) :
    Calls Tryd.prog 17 #[.slice (some ⟨B, 0, none⟩) xs.length c] W fun e w' => e = .returned (.string (mkB (Lib.join (xs.map (·.data.toList)) [47]))) ∧ Below W.heap.size W w' := by
  have hJ := Tryd.strings_Join B 0 c xs ⟨#[47]⟩ W hc hB (by omega) hcap hlen
  have hJ' : Calls Tryd.prog 31 #[.slice (some ⟨B, 0, none⟩) xs.length c, .string ⟨#[47]⟩] W fun e w' => e = .returned (.string (mkB (Lib.join (xs.map (·.data.toList)) [47]))) ∧ Below W.heap.size W w' := hJ
  clear hJ hc hlen
  generalize mkB (Lib.join (xs.map (·.data.toList)) [47]) = r at hJ'
  generalize xs.length = n at hJ' hcap hn
  go_enter Tryd.func17, Tryd.ntmps17
  go_wp2_with (go_at_call 31; (with_reducible refine hJ'.mono ?_); rintro e w' ⟨rfl, hb⟩; have HC := Aside0.mk hb; clear hb)
  go_ret
  exact ⟨rfl, HC.out⟩
/-- A row of strings that was just laid. -/
theorem lit_cell (W : World) (xs : List ByteArray) (j : Nat) (x : ByteArray) (h : xs[j]? = some x) : (W.alloc (.cells ((xs.map Value.string).toArray) 9)).cell? ⟨W.heap.size, 0 + j, none⟩ = some (.string x) := by
  rw [Nat.zero_add]
  have : (W.alloc (.cells ((xs.map Value.string).toArray) 9)).cell? ⟨W.heap.size, j, none⟩ = ((xs.map Value.string).toArray)[j]? := by simp
  rw [this]; simp [h]
theorem joined_lit (xs : List ByteArray) (c m : Nat) (W : World) (hm : m ≤ xs.length) (hn : xs.length ≤ 100) (hc : m ≤ c) (hlen : (Lib.join ((xs.take m).map (·.data.toList)) [47]).length ≤ 140737488355328) :
    Calls Tryd.prog 17 #[.slice (some ⟨W.heap.size, 0, none⟩) m c] (W.alloc (.cells ((xs.map Value.string).toArray) 9)) fun e w' => e = .returned (.string (mkB (Lib.join ((xs.take m).map (·.data.toList)) [47]))) ∧ Below W.heap.size W w' := by
  have hml : (xs.take m).length = m := by rw [List.length_take]; omega
  have := joined_any W.heap.size c (xs.take m) (W.alloc (.cells ((xs.map Value.string).toArray) 9)) (fun j x h => by
    refine lit_cell W xs j x ?_
    have hj : j < m := by
      have := (List.getElem?_eq_some_iff.1 h).1; omega
    rw [List.getElem?_take_of_lt hj] at h; exact h) (by simp) (by omega) (by omega) hlen
  rw [hml] at this
  refine this.mono fun e w' ⟨he, hb⟩ => ⟨he, below_step (below_alloc (Below.refl _ _) _) hb⟩
def Named (w : World) (r : List UInt8 × Int) (e : Ending) (w' : World) : Prop := e = .returned (.tuple #[.string (mkB r.1), .int .i64 r.2]) ∧ Below w.heap.size w w'
theorem join3_len (a b c : List UInt8) : (Lib.join [a, b, c] [47]).length = a.length + b.length + c.length + 2 := by rw [Nm.join_cc, Nm.join_cc, Lib.join_one]; simp; omega
theorem join2_len (a b : List UInt8) : (Lib.join [a, b] [47]).length = a.length + b.length + 1 := by rw [Nm.join_cc, Lib.join_one]; simp; omega
theorem itoa_len (n : Int) (h : Nm.within n = true) : (Lib.itoa n).length ≤ 7 := by
  obtain ⟨h1, h2, _⟩ := Nm.itoa_in n h
  rw [h1]; exact Nm.dec_len _ h2
theorem within_range {n : Int} (h : Nm.within n = true) : 0 ≤ n ∧ n ≤ 1000000 := by
  unfold Nm.within at h
  simpa using h
set_option maxHeartbeats 4000000 in
theorem Meta_any (r : ByteArray) (v : Int) (w : World) (hs : r.size < 35184372088832) (ht : Tabs w) :
    Calls Tryd.prog 7 #[.string r, .int .i64 v] w (Named w (Nm.metaN r.data.toList v)) := by
  have hN := metaName_any r w hs ht
  have hW := fun W => within_any v W
  unfold Nm.metaN
  have HB := Aside0.mk (Below.refl w.heap.size w)
  cases hn : Nm.nameOk r.data.toList with
  | false =>
    rw [hn] at hN
    rw [if_neg (by simp)]
    clear hn ht
    go_enter Tryd.func7, Tryd.ntmps7
    go_wp2_with (first
      | (go_at_call 15; (with_reducible refine hN.mono ?_); rintro e w' ⟨rfl, hb⟩; have n0_ := Aside0.mk (below_then HB.out HB.out.size hb); clear HB hb; have HB := n0_; clear n0_)
      | (go_at_call 16; (with_reducible refine (hW _).mono ?_); rintro e w' ⟨rfl, rfl⟩))
    go_ret2
    exact ⟨rfl, HB.out⟩
  | true =>
    rw [hn] at hN
    cases hw : Nm.within v with
    | false =>
      rw [hw] at hW
      rw [if_neg (by simp)]
      clear hn ht hw
      go_enter Tryd.func7, Tryd.ntmps7
      go_wp2_with (first
        | (go_at_call 15; (with_reducible refine hN.mono ?_); rintro e w' ⟨rfl, hb⟩; have n0_ := Aside0.mk (below_then HB.out HB.out.size hb); clear HB hb; have HB := n0_; clear n0_)
        | (go_at_call 16; (with_reducible refine (hW _).mono ?_); rintro e w' ⟨rfl, rfl⟩))
      go_ret2
      exact ⟨rfl, HB.out⟩
    | true =>
      have hr := within_range hw
      have hI := fun W (hb : Below w.heap.size w W) => itoa_any v W (by omega) (by omega) (ht.below hb)
      have hJ := fun W => joined_lit [⟨#[109, 101, 116, 97]⟩, r, ⟨(Lib.itoa v).toArray⟩] 3 3 W (by simp) (by simp) (Nat.le_refl _) (by
        show (Lib.join [_, r.data.toList, (⟨(Lib.itoa v).toArray⟩ : ByteArray).data.toList] [47]).length ≤ _
        rw [join3_len]
        have := itoa_len v hw
        have := S.size_list r
        simp; omega)
      have e : Lib.join (([⟨#[109, 101, 116, 97]⟩, r, ⟨(Lib.itoa v).toArray⟩].take 3).map (fun (x : ByteArray) => x.data.toList)) [47] = Lib.join [Nm.META, r.data.toList, Lib.itoa v] [47] := by simp [Nm.META]
      rw [e] at hJ
      simp only [List.map_cons, List.map_nil] at hJ
      rw [hw] at hW
      rw [if_pos (by simp)]
      have HI := Aside0.mk hI
      clear hn ht hw e hI hr
      generalize Lib.join [Nm.META, r.data.toList, Lib.itoa v] [47] = out at hJ
      generalize (⟨(Lib.itoa v).toArray⟩ : ByteArray) = iv at hJ HI
      go_enter Tryd.func7, Tryd.ntmps7
      go_wp2_with (first
        | (go_at_call 15; (with_reducible refine hN.mono ?_); rintro e w' ⟨rfl, hb⟩; have n0_ := Aside0.mk (below_then HB.out HB.out.size hb); clear HB hb; have HB := n0_; clear n0_)
        | (go_at_call 16; (with_reducible refine (hW _).mono ?_); rintro e w' ⟨rfl, rfl⟩)
        | (go_at_call 18; (with_reducible refine (HI.out _ HB.out).mono ?_); rintro e w' ⟨rfl, hb⟩; have n0_ := Aside0.mk (below_then HB.out HB.out.size hb); clear HB hb; have HB := n0_; clear n0_)
        | (go_at_call 17; (with_reducible refine (hJ _).mono ?_); rintro e w' ⟨rfl, hb⟩; have n0_ := Aside0.mk (below_then HB.out HB.out.size hb); clear HB hb; have HB := n0_; clear n0_))
      go_ret2
      exact ⟨rfl, HB.out⟩
set_option maxHeartbeats 4000000 in
theorem Data_any (s : ByteArray) (w : World) (hs : s.size < 35184372088832) :
    Calls Tryd.prog 8 #[.string s] w (Named w (Nm.dataN s.data.toList)) := by
  unfold Nm.dataN
  have hl := S.size_list s
  have HB := Aside0.mk (Below.refl w.heap.size w)
  by_cases h : s.size = 32
  · rw [if_pos (by omega)]
    have hH := fun W => hex_any s W (by omega)
    have hJ := fun W => joined_lit [⟨#[100, 97, 116, 97]⟩, ⟨(S.hexs s.data.toList).toArray⟩] 2 2 W (by simp) (by simp) (Nat.le_refl _) (by
        show (Lib.join [_, (⟨(S.hexs s.data.toList).toArray⟩ : ByteArray).data.toList] [47]).length ≤ _
        rw [join2_len]
        have := S.hexs_length s.data.toList
        simp; omega)
    have e : Lib.join (([⟨#[100, 97, 116, 97]⟩, ⟨(S.hexs s.data.toList).toArray⟩].take 2).map (fun (x : ByteArray) => x.data.toList)) [47] = Lib.join [Nm.DATA, S.hexs s.data.toList] [47] := by simp [Nm.DATA]
    rw [e] at hJ
    simp only [List.map_cons, List.map_nil] at hJ
    clear e hl
    generalize Lib.join [Nm.DATA, S.hexs s.data.toList] [47] = out at hJ
    generalize (⟨(S.hexs s.data.toList).toArray⟩ : ByteArray) = hx at hJ hH
    have h1 : ((s.size : Int) != 32) = false := by simpa using (show (s.size : Int) = 32 by omega)
    have h2 : ((s.size : Int) == 32) = true := by simpa using (show (s.size : Int) = 32 by omega)
    go_enter Tryd.func8, Tryd.ntmps8
    go_wp2_with (first
      | (go_at_call 19; (with_reducible refine (hH _).mono ?_); rintro e w' ⟨rfl, hb⟩; have n0_ := Aside0.mk (below_then HB.out HB.out.size hb); clear HB hb; have HB := n0_; clear n0_)
      | (go_at_call 17; (with_reducible refine (hJ _).mono ?_); rintro e w' ⟨rfl, hb⟩; have n0_ := Aside0.mk (below_then HB.out HB.out.size hb); clear HB hb; have HB := n0_; clear n0_))
    go_ret2
    exact ⟨rfl, HB.out⟩
  · rw [if_neg (by omega)]
    have h1 : ((s.size : Int) != 32) = true := by simpa using (show ¬ (s.size : Int) = 32 by omega)
    have h2 : ((s.size : Int) == 32) = false := by simpa using (show ¬ (s.size : Int) = 32 by omega)
    clear hl
    go_enter Tryd.func8, Tryd.ntmps8
    go_wp2
    go_ret2
    exact ⟨rfl, HB.out⟩
end Go.Proofs.YtmgkgjacnbeboaaDoor.E
