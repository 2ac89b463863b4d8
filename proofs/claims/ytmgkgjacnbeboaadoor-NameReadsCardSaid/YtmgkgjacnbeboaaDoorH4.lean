/- name.Log: the name of anything of a log. -/
import Derived.Test.YtmgkgjacnbeboaaDoorH3
set_option linter.unusedVariables false
set_option linter.unusedSimpArgs false
namespace Go.Proofs.YtmgkgjacnbeboaaDoor.E
open Go.RowKit Go.Lib Go.Shelf Go.Proofs.YtmgkgjacnbeboaaDoorW.PrintWords Go.Proofs.YtmgkgjacnbeboaaDoorW.PrintLast Go.Proofs.YtmgkgjacnbeboaaDoorW.PrintMore
open S (mkB)
attribute [local irreducible] Nm.nameOk Nm.within Lib.itoa Lib.mapD Lib.join S.hexs Nm.kd KD
theorem zero43 (w : World) : (zeroValue 43).run Tryd.prog w = .ok (.agg #[.int .i64 0, .int .i64 0]) w := by kernel_rfl
/-- What is told of a word in the map that kinds made. -/
theorem look_any (W : World) (B : Nat) (s : ByteArray) (hs : s.size ≤ 9223372036854775807) (h : W.ownsMap Tryd.prog 9 pairR B 4 KD) :
    (∀ k n, Nm.kd s.data.toList = some (k, n) → (Instr.lookup 45 (.map (some B)) (.string s) true).run Tryd.prog W = .ok (.tuple #[.agg #[.int .i64 k, .int .i64 n], .bool true]) W ∧ (Instr.lookup 45 (.map (some B)) (.string s) false).run Tryd.prog W = .ok (.agg #[.int .i64 k, .int .i64 n]) W) ∧
    (Nm.kd s.data.toList = none → (Instr.lookup 45 (.map (some B)) (.string s) true).run Tryd.prog W = .ok (.tuple #[.agg #[.int .i64 0, .int .i64 0], .bool false]) W ∧ (Instr.lookup 45 (.map (some B)) (.string s) false).run Tryd.prog W = .ok (.agg #[.int .i64 0, .int .i64 0]) W) := by
  have K := Maps.string_keyed Tryd.underlying9
  obtain ⟨v, ps, h1, h2⟩ := h.look_ok K Tryd.underlying45 (zero43 W) (pairR_mk 0 0) (key_str s hs)
  obtain ⟨v', ps', h3, h4⟩ := h.lookup K Tryd.underlying45 (zero43 W) (pairR_mk 0 0) (key_str s hs)
  rw [KD_at] at h2 h4
  rw [KD_has] at h1
  constructor
  · intro k n hk
    rw [hk] at h1 h2 h4
    obtain rfl := pairR_inv h2
    obtain rfl := pairR_inv h4
    exact ⟨h1, h3⟩
  · intro hk
    rw [hk] at h1 h2 h4
    obtain rfl := pairR_inv h2
    obtain rfl := pairR_inv h4
    exact ⟨h1, h3⟩
set_option maxHeartbeats 4000000 in
theorem Log_none (s : ByteArray) (a b : Int) (w : World) (hs : s.size ≤ 9223372036854775807) (hk : Nm.kd s.data.toList = none) :
    Calls Tryd.prog 9 #[.string s, .int .i64 a, .int .i64 b] w (Named w ([], 1)) := by
  have hK := kinds_any w
  have hL := fun W (hW : W.ownsMap Tryd.prog 9 pairR w.heap.size 4 KD) => ((look_any W w.heap.size s hs hW).2 hk).1
  have HL := Aside0.mk hL
  clear hk hL
  go_enter Tryd.func9, Tryd.ntmps9
  go_wp2_with (go_at_call 20; (with_reducible refine hK.mono ?_); rintro e w1 ⟨rfl, hb, ho⟩; have hl := HL.out _ ho; have HB := Aside0.mk hb; clear hb ho)
  go_ret2
  exact ⟨rfl, HB.out.alloc HB.out.size _⟩
/-- The block of two numbers, from when it was laid on. -/
structure Boxed2 (B : Nat) (k n : Int) (W : World) : Prop where
  two : W.cell? ⟨B, 1, none⟩ = some (.int .i64 n)
  lt : B < W.heap.size
theorem Boxed2.new (w : World) (k n : Int) : Boxed2 w.heap.size k n (w.alloc (.cells #[.int .i64 k, .int .i64 n] 43)) := ⟨by simp, by simp⟩
theorem Boxed2.step {B : Nat} {k n : Int} {W W' : World} (h : Boxed2 B k n W) (hb : Below W.heap.size W W') : Boxed2 B k n W' :=
  ⟨(hb.cell (p := ⟨B, 1, none⟩) h.lt).trans h.two, Nat.lt_of_lt_of_le h.lt hb.size⟩
set_option maxHeartbeats 8000000 in
theorem Log_0 (s : ByteArray) (k a b : Int) (w : World) (hs : s.size ≤ 1000) (ht : Tabs w) (hk : Nm.kd s.data.toList = some (k, 0)) :
    Calls Tryd.prog 9 #[.string s, .int .i64 a, .int .i64 b] w (Named w (Nm.logN s.data.toList a b)) := by
  have hK := kinds_any w
  have hL := fun W (hW : W.ownsMap Tryd.prog 9 pairR w.heap.size 4 KD) => ((look_any W w.heap.size s (by omega) hW).1 k 0 hk).1
  have HL := Aside0.mk hL
  have hA := fun W => within_any a W
  have hB := fun W => within_any b W
  have hsl := S.size_list s
  unfold Nm.logN
  rw [hk]
  simp only []
  clear hk hL
  cases ha : Nm.within a with
  | false =>
    rw [ha] at hA
    rw [if_neg (by simp)]
    clear ha ht
    go_enter Tryd.func9, Tryd.ntmps9
    go_wp2_with (first
      | (go_at_call 20; (with_reducible refine hK.mono ?_); rintro e w1 ⟨rfl, hb, ho⟩; have hl := HL.out _ ho; have HB := Aside0.mk (hb.alloc hb.size (.cells #[.int .i64 k, .int .i64 0] 43)); clear hb ho)
      | (go_at_call 16; (with_reducible refine (hA _).mono ?_); clear hA; rintro e w' ⟨rfl, rfl⟩)
      | (go_at_call 16; (with_reducible refine (hB _).mono ?_); clear hB; rintro e w' ⟨rfl, rfl⟩))
    go_ret2
    exact ⟨rfl, HB.out⟩
  | true =>
    rw [ha] at hA
    cases hb : Nm.within b with
    | false =>
      rw [hb] at hB
      rw [if_neg (by simp)]
      clear ha hb ht
      go_enter Tryd.func9, Tryd.ntmps9
      go_wp2_with (first
        | (go_at_call 20; (with_reducible refine hK.mono ?_); rintro e w1 ⟨rfl, hb, ho⟩; have hl := HL.out _ ho; have HB := Aside0.mk (hb.alloc hb.size (.cells #[.int .i64 k, .int .i64 0] 43)); clear hb ho)
        | (go_at_call 16; (with_reducible refine (hA _).mono ?_); clear hA; rintro e w' ⟨rfl, rfl⟩)
        | (go_at_call 16; (with_reducible refine (hB _).mono ?_); clear hB; rintro e w' ⟨rfl, rfl⟩))
      go_ret2
      exact ⟨rfl, HB.out⟩
    | true =>
      rw [hb] at hB
      have ra := within_range ha
      have rb := within_range hb
      by_cases ha0 : a = 0
      · by_cases hb0 : b = 0
        · subst ha0
          subst hb0
          have hIa := fun W (hb : Below w.heap.size w W) => itoa_any 0 W (by omega) (by omega) (ht.below hb)
          have hJ := fun W => joined_lit [⟨#[108, 111, 103]⟩, s, ⟨(Lib.itoa 0).toArray⟩, ⟨(Lib.itoa 0).toArray⟩] 4 2 W (by simp) (by simp) (by omega) (by
            have la := itoa_len 0 ha
            have lb := itoa_len 0 hb
            have e : (([⟨#[108, 111, 103]⟩, s, ⟨(Lib.itoa 0).toArray⟩, ⟨(Lib.itoa 0).toArray⟩] : List ByteArray).take 2).map (fun (x : ByteArray) => x.data.toList) = ([[108, 111, 103], s.data.toList, Lib.itoa 0, Lib.itoa 0] : List (List UInt8)).take 2 := by simp
            rw [e]
            simp only [List.take_succ_cons, List.take_zero]
            rw [Nm.join_cc, Lib.join_one]
            simp; omega)
          have e : Lib.join ((([⟨#[108, 111, 103]⟩, s, ⟨(Lib.itoa 0).toArray⟩, ⟨(Lib.itoa 0).toArray⟩] : List ByteArray).take 2).map (fun (x : ByteArray) => x.data.toList)) [47] = Lib.join ([Nm.LOG, s.data.toList, Lib.itoa 0, Lib.itoa 0].take (2 + (0 : Int)).toNat) [47] := by
            show _ = Lib.join ([Nm.LOG, s.data.toList, Lib.itoa 0, Lib.itoa 0].take 2) [47]
            simp [Nm.LOG]
          rw [e] at hJ
          simp only [List.map_cons, List.map_nil] at hJ
          generalize Lib.join ([Nm.LOG, s.data.toList, Lib.itoa 0, Lib.itoa 0].take (2 + (0 : Int)).toNat) [47] = out at hJ ⊢
          have HIa := Aside0.mk hIa
          clear e hIa
          generalize (⟨(Lib.itoa 0).toArray⟩ : ByteArray) = ia at hJ HIa
          rw [if_pos ⟨rfl, rfl, by omega, by omega⟩]
          clear ha hb ht ra rb hsl
          go_enter Tryd.func9, Tryd.ntmps9
          go_wp2_with (first
            | (go_at_call 20; (with_reducible refine hK.mono ?_); rintro e w1 ⟨rfl, hb, ho⟩; have hl := HL.out _ ho; have HB := Aside0.mk (hb.alloc hb.size (.cells #[.int .i64 k, .int .i64 0] 43)); have hbx := Aside0.mk (Boxed2.new w1 k 0); clear hb ho)
            | (go_at_call 16; (with_reducible refine (hA _).mono ?_); clear hA; rintro e w' ⟨rfl, rfl⟩)
            | (go_at_call 16; (with_reducible refine (hB _).mono ?_); clear hB; rintro e w' ⟨rfl, rfl⟩)
            | (go_at_call 18; (with_reducible refine (HIa.out _ HB.out).mono ?_); rintro e w' ⟨rfl, hb⟩; have n1_ := Aside0.mk (hbx.out.step hb); clear hbx; have hbx := n1_; clear n1_; have hcell := hbx.out.two; have hlt := hbx.out.lt; have n0_ := Aside0.mk (below_then HB.out HB.out.size hb); clear HB hb; have HB := n0_; clear n0_)
            | (go_at_call 18; (with_reducible refine (HIa.out _ HB.out).mono ?_); rintro e w' ⟨rfl, hb⟩; have n1_ := Aside0.mk (hbx.out.step hb); clear hbx; have hbx := n1_; clear n1_; have hcell := hbx.out.two; have hlt := hbx.out.lt; have n0_ := Aside0.mk (below_then HB.out HB.out.size hb); clear HB hb; have HB := n0_; clear n0_)
            | (go_at_call 17; (with_reducible refine (hJ _).mono ?_); rintro e w' ⟨rfl, hb⟩; have n0_ := Aside0.mk (below_then HB.out HB.out.size hb); clear HB hb; have HB := n0_; clear n0_))
          go_ret2
          exact ⟨rfl, HB.out⟩
        · subst ha0
          rw [if_neg (fun h => h.2.2.2 ⟨by omega, hb0⟩)]
          have n1 : (b != 0) = true := by simpa using hb0
          have n2 : (b == 0) = false := by simpa using hb0
          clear ha hb ht hsl
          go_enter Tryd.func9, Tryd.ntmps9
          go_wp2_with (first
            | (go_at_call 20; (with_reducible refine hK.mono ?_); rintro e w1 ⟨rfl, hb, ho⟩; have hl := HL.out _ ho; have HB := Aside0.mk (hb.alloc hb.size (.cells #[.int .i64 k, .int .i64 0] 43)); clear hb ho)
            | (go_at_call 16; (with_reducible refine (hA _).mono ?_); clear hA; rintro e w' ⟨rfl, rfl⟩)
            | (go_at_call 16; (with_reducible refine (hB _).mono ?_); clear hB; rintro e w' ⟨rfl, rfl⟩))
          go_ret2
          exact ⟨rfl, HB.out⟩
      · rw [if_neg (fun h => h.2.2.1 ⟨by omega, ha0⟩)]
        have n1 : (a != 0) = true := by simpa using ha0
        have n2 : (a == 0) = false := by simpa using ha0
        clear ha hb ht hsl
        go_enter Tryd.func9, Tryd.ntmps9
        go_wp2_with (first
          | (go_at_call 20; (with_reducible refine hK.mono ?_); rintro e w1 ⟨rfl, hb, ho⟩; have hl := HL.out _ ho; have HB := Aside0.mk (hb.alloc hb.size (.cells #[.int .i64 k, .int .i64 0] 43)); clear hb ho)
          | (go_at_call 16; (with_reducible refine (hA _).mono ?_); clear hA; rintro e w' ⟨rfl, rfl⟩)
          | (go_at_call 16; (with_reducible refine (hB _).mono ?_); clear hB; rintro e w' ⟨rfl, rfl⟩))
        go_ret2
        exact ⟨rfl, HB.out⟩
set_option maxHeartbeats 8000000 in
theorem Log_1 (s : ByteArray) (k a b : Int) (w : World) (hs : s.size ≤ 1000) (ht : Tabs w) (hk : Nm.kd s.data.toList = some (k, 1)) :
    Calls Tryd.prog 9 #[.string s, .int .i64 a, .int .i64 b] w (Named w (Nm.logN s.data.toList a b)) := by
  have hK := kinds_any w
  have hL := fun W (hW : W.ownsMap Tryd.prog 9 pairR w.heap.size 4 KD) => ((look_any W w.heap.size s (by omega) hW).1 k 1 hk).1
  have HL := Aside0.mk hL
  have hA := fun W => within_any a W
  have hB := fun W => within_any b W
  have hsl := S.size_list s
  unfold Nm.logN
  rw [hk]
  simp only []
  clear hk hL
  cases ha : Nm.within a with
  | false =>
    rw [ha] at hA
    rw [if_neg (by simp)]
    clear ha ht
    go_enter Tryd.func9, Tryd.ntmps9
    go_wp2_with (first
      | (go_at_call 20; (with_reducible refine hK.mono ?_); rintro e w1 ⟨rfl, hb, ho⟩; have hl := HL.out _ ho; have HB := Aside0.mk (hb.alloc hb.size (.cells #[.int .i64 k, .int .i64 1] 43)); clear hb ho)
      | (go_at_call 16; (with_reducible refine (hA _).mono ?_); clear hA; rintro e w' ⟨rfl, rfl⟩)
      | (go_at_call 16; (with_reducible refine (hB _).mono ?_); clear hB; rintro e w' ⟨rfl, rfl⟩))
    go_ret2
    exact ⟨rfl, HB.out⟩
  | true =>
    rw [ha] at hA
    cases hb : Nm.within b with
    | false =>
      rw [hb] at hB
      rw [if_neg (by simp)]
      clear ha hb ht
      go_enter Tryd.func9, Tryd.ntmps9
      go_wp2_with (first
        | (go_at_call 20; (with_reducible refine hK.mono ?_); rintro e w1 ⟨rfl, hb, ho⟩; have hl := HL.out _ ho; have HB := Aside0.mk (hb.alloc hb.size (.cells #[.int .i64 k, .int .i64 1] 43)); clear hb ho)
        | (go_at_call 16; (with_reducible refine (hA _).mono ?_); clear hA; rintro e w' ⟨rfl, rfl⟩)
        | (go_at_call 16; (with_reducible refine (hB _).mono ?_); clear hB; rintro e w' ⟨rfl, rfl⟩))
      go_ret2
      exact ⟨rfl, HB.out⟩
    | true =>
      rw [hb] at hB
      have ra := within_range ha
      have rb := within_range hb
      by_cases hb0 : b = 0
      · subst hb0
        have hIa := fun W (hb : Below w.heap.size w W) => itoa_any a W (by omega) (by omega) (ht.below hb)
        have hIb := fun W (hb : Below w.heap.size w W) => itoa_any 0 W (by omega) (by omega) (ht.below hb)
        have hJ := fun W => joined_lit [⟨#[108, 111, 103]⟩, s, ⟨(Lib.itoa a).toArray⟩, ⟨(Lib.itoa 0).toArray⟩] 4 3 W (by simp) (by simp) (by omega) (by
          have la := itoa_len a ha
          have lb := itoa_len 0 hb
          have e : (([⟨#[108, 111, 103]⟩, s, ⟨(Lib.itoa a).toArray⟩, ⟨(Lib.itoa 0).toArray⟩] : List ByteArray).take 3).map (fun (x : ByteArray) => x.data.toList) = ([[108, 111, 103], s.data.toList, Lib.itoa a, Lib.itoa 0] : List (List UInt8)).take 3 := by simp
          rw [e]
          simp only [List.take_succ_cons, List.take_zero]
          rw [Nm.join_cc, Nm.join_cc, Lib.join_one]
          simp; omega)
        have e : Lib.join ((([⟨#[108, 111, 103]⟩, s, ⟨(Lib.itoa a).toArray⟩, ⟨(Lib.itoa 0).toArray⟩] : List ByteArray).take 3).map (fun (x : ByteArray) => x.data.toList)) [47] = Lib.join ([Nm.LOG, s.data.toList, Lib.itoa a, Lib.itoa 0].take (2 + (1 : Int)).toNat) [47] := by
          show _ = Lib.join ([Nm.LOG, s.data.toList, Lib.itoa a, Lib.itoa 0].take 3) [47]
          simp [Nm.LOG]
        rw [e] at hJ
        simp only [List.map_cons, List.map_nil] at hJ
        generalize Lib.join ([Nm.LOG, s.data.toList, Lib.itoa a, Lib.itoa 0].take (2 + (1 : Int)).toNat) [47] = out at hJ ⊢
        have HIa := Aside0.mk hIa
        have HIb := Aside0.mk hIb
        clear e hIa hIb
        generalize (⟨(Lib.itoa a).toArray⟩ : ByteArray) = ia at hJ HIa
        generalize (⟨(Lib.itoa 0).toArray⟩ : ByteArray) = ib at hJ HIb
        rw [if_pos ⟨rfl, rfl, by omega, by omega⟩]
        clear ha hb ht ra rb hsl
        go_enter Tryd.func9, Tryd.ntmps9
        go_wp2_with (first
          | (go_at_call 20; (with_reducible refine hK.mono ?_); rintro e w1 ⟨rfl, hb, ho⟩; have hl := HL.out _ ho; have HB := Aside0.mk (hb.alloc hb.size (.cells #[.int .i64 k, .int .i64 1] 43)); have hbx := Aside0.mk (Boxed2.new w1 k 1); clear hb ho)
          | (go_at_call 16; (with_reducible refine (hA _).mono ?_); clear hA; rintro e w' ⟨rfl, rfl⟩)
          | (go_at_call 16; (with_reducible refine (hB _).mono ?_); clear hB; rintro e w' ⟨rfl, rfl⟩)
          | (go_at_call 18; (with_reducible refine (HIa.out _ HB.out).mono ?_); rintro e w' ⟨rfl, hb⟩; have n1_ := Aside0.mk (hbx.out.step hb); clear hbx; have hbx := n1_; clear n1_; have hcell := hbx.out.two; have hlt := hbx.out.lt; have n0_ := Aside0.mk (below_then HB.out HB.out.size hb); clear HB hb; have HB := n0_; clear n0_)
          | (go_at_call 18; (with_reducible refine (HIb.out _ HB.out).mono ?_); rintro e w' ⟨rfl, hb⟩; have n1_ := Aside0.mk (hbx.out.step hb); clear hbx; have hbx := n1_; clear n1_; have hcell := hbx.out.two; have hlt := hbx.out.lt; have n0_ := Aside0.mk (below_then HB.out HB.out.size hb); clear HB hb; have HB := n0_; clear n0_)
          | (go_at_call 17; (with_reducible refine (hJ _).mono ?_); rintro e w' ⟨rfl, hb⟩; have n0_ := Aside0.mk (below_then HB.out HB.out.size hb); clear HB hb; have HB := n0_; clear n0_))
        go_ret2
        exact ⟨rfl, HB.out⟩
      · rw [if_neg (fun h => h.2.2.2 ⟨by omega, hb0⟩)]
        have n1 : (b != 0) = true := by simpa using hb0
        have n2 : (b == 0) = false := by simpa using hb0
        clear ha hb ht hsl
        go_enter Tryd.func9, Tryd.ntmps9
        go_wp2_with (first
          | (go_at_call 20; (with_reducible refine hK.mono ?_); rintro e w1 ⟨rfl, hb, ho⟩; have hl := HL.out _ ho; have HB := Aside0.mk (hb.alloc hb.size (.cells #[.int .i64 k, .int .i64 1] 43)); clear hb ho)
          | (go_at_call 16; (with_reducible refine (hA _).mono ?_); clear hA; rintro e w' ⟨rfl, rfl⟩)
          | (go_at_call 16; (with_reducible refine (hB _).mono ?_); clear hB; rintro e w' ⟨rfl, rfl⟩))
        go_ret2
        exact ⟨rfl, HB.out⟩
set_option maxHeartbeats 8000000 in
theorem Log_2 (s : ByteArray) (k a b : Int) (w : World) (hs : s.size ≤ 1000) (ht : Tabs w) (hk : Nm.kd s.data.toList = some (k, 2)) :
    Calls Tryd.prog 9 #[.string s, .int .i64 a, .int .i64 b] w (Named w (Nm.logN s.data.toList a b)) := by
  have hK := kinds_any w
  have hL := fun W (hW : W.ownsMap Tryd.prog 9 pairR w.heap.size 4 KD) => ((look_any W w.heap.size s (by omega) hW).1 k 2 hk).1
  have HL := Aside0.mk hL
  have hA := fun W => within_any a W
  have hB := fun W => within_any b W
  have hsl := S.size_list s
  unfold Nm.logN
  rw [hk]
  simp only []
  clear hk hL
  cases ha : Nm.within a with
  | false =>
    rw [ha] at hA
    rw [if_neg (by simp)]
    clear ha ht
    go_enter Tryd.func9, Tryd.ntmps9
    go_wp2_with (first
      | (go_at_call 20; (with_reducible refine hK.mono ?_); rintro e w1 ⟨rfl, hb, ho⟩; have hl := HL.out _ ho; have HB := Aside0.mk (hb.alloc hb.size (.cells #[.int .i64 k, .int .i64 2] 43)); clear hb ho)
      | (go_at_call 16; (with_reducible refine (hA _).mono ?_); clear hA; rintro e w' ⟨rfl, rfl⟩)
      | (go_at_call 16; (with_reducible refine (hB _).mono ?_); clear hB; rintro e w' ⟨rfl, rfl⟩))
    go_ret2
    exact ⟨rfl, HB.out⟩
  | true =>
    rw [ha] at hA
    cases hb : Nm.within b with
    | false =>
      rw [hb] at hB
      rw [if_neg (by simp)]
      clear ha hb ht
      go_enter Tryd.func9, Tryd.ntmps9
      go_wp2_with (first
        | (go_at_call 20; (with_reducible refine hK.mono ?_); rintro e w1 ⟨rfl, hb, ho⟩; have hl := HL.out _ ho; have HB := Aside0.mk (hb.alloc hb.size (.cells #[.int .i64 k, .int .i64 2] 43)); clear hb ho)
        | (go_at_call 16; (with_reducible refine (hA _).mono ?_); clear hA; rintro e w' ⟨rfl, rfl⟩)
        | (go_at_call 16; (with_reducible refine (hB _).mono ?_); clear hB; rintro e w' ⟨rfl, rfl⟩))
      go_ret2
      exact ⟨rfl, HB.out⟩
    | true =>
      rw [hb] at hB
      have ra := within_range ha
      have rb := within_range hb
      have hIa := fun W (hb : Below w.heap.size w W) => itoa_any a W (by omega) (by omega) (ht.below hb)
      have hIb := fun W (hb : Below w.heap.size w W) => itoa_any b W (by omega) (by omega) (ht.below hb)
      have hJ := fun W => joined_lit [⟨#[108, 111, 103]⟩, s, ⟨(Lib.itoa a).toArray⟩, ⟨(Lib.itoa b).toArray⟩] 4 4 W (by simp) (by simp) (by omega) (by
        have la := itoa_len a ha
        have lb := itoa_len b hb
        have e : (([⟨#[108, 111, 103]⟩, s, ⟨(Lib.itoa a).toArray⟩, ⟨(Lib.itoa b).toArray⟩] : List ByteArray).take 4).map (fun (x : ByteArray) => x.data.toList) = ([[108, 111, 103], s.data.toList, Lib.itoa a, Lib.itoa b] : List (List UInt8)).take 4 := by simp
        rw [e]
        simp only [List.take_succ_cons, List.take_zero]
        rw [Nm.join_cc, Nm.join_cc, Nm.join_cc, Lib.join_one]
        simp; omega)
      have e : Lib.join ((([⟨#[108, 111, 103]⟩, s, ⟨(Lib.itoa a).toArray⟩, ⟨(Lib.itoa b).toArray⟩] : List ByteArray).take 4).map (fun (x : ByteArray) => x.data.toList)) [47] = Lib.join ([Nm.LOG, s.data.toList, Lib.itoa a, Lib.itoa b].take (2 + (2 : Int)).toNat) [47] := by
        show _ = Lib.join ([Nm.LOG, s.data.toList, Lib.itoa a, Lib.itoa b].take 4) [47]
        simp [Nm.LOG]
      rw [e] at hJ
      simp only [List.map_cons, List.map_nil] at hJ
      generalize Lib.join ([Nm.LOG, s.data.toList, Lib.itoa a, Lib.itoa b].take (2 + (2 : Int)).toNat) [47] = out at hJ ⊢
      have HIa := Aside0.mk hIa
      have HIb := Aside0.mk hIb
      clear e hIa hIb
      generalize (⟨(Lib.itoa a).toArray⟩ : ByteArray) = ia at hJ HIa
      generalize (⟨(Lib.itoa b).toArray⟩ : ByteArray) = ib at hJ HIb
      rw [if_pos ⟨rfl, rfl, by omega, by omega⟩]
      clear ha hb ht ra rb hsl
      go_enter Tryd.func9, Tryd.ntmps9
      go_wp2_with (first
        | (go_at_call 20; (with_reducible refine hK.mono ?_); rintro e w1 ⟨rfl, hb, ho⟩; have hl := HL.out _ ho; have HB := Aside0.mk (hb.alloc hb.size (.cells #[.int .i64 k, .int .i64 2] 43)); have hbx := Aside0.mk (Boxed2.new w1 k 2); clear hb ho)
        | (go_at_call 16; (with_reducible refine (hA _).mono ?_); clear hA; rintro e w' ⟨rfl, rfl⟩)
        | (go_at_call 16; (with_reducible refine (hB _).mono ?_); clear hB; rintro e w' ⟨rfl, rfl⟩)
        | (go_at_call 18; (with_reducible refine (HIa.out _ HB.out).mono ?_); rintro e w' ⟨rfl, hb⟩; have n1_ := Aside0.mk (hbx.out.step hb); clear hbx; have hbx := n1_; clear n1_; have hcell := hbx.out.two; have hlt := hbx.out.lt; have n0_ := Aside0.mk (below_then HB.out HB.out.size hb); clear HB hb; have HB := n0_; clear n0_)
        | (go_at_call 18; (with_reducible refine (HIb.out _ HB.out).mono ?_); rintro e w' ⟨rfl, hb⟩; have n1_ := Aside0.mk (hbx.out.step hb); clear hbx; have hbx := n1_; clear n1_; have hcell := hbx.out.two; have hlt := hbx.out.lt; have n0_ := Aside0.mk (below_then HB.out HB.out.size hb); clear HB hb; have HB := n0_; clear n0_)
        | (go_at_call 17; (with_reducible refine (hJ _).mono ?_); rintro e w' ⟨rfl, hb⟩; have n0_ := Aside0.mk (below_then HB.out HB.out.size hb); clear HB hb; have HB := n0_; clear n0_))
      go_ret2
      exact ⟨rfl, HB.out⟩
theorem Log_any (s : ByteArray) (a b : Int) (w : World) (hs : s.size ≤ 1000) (ht : Tabs w) :
    Calls Tryd.prog 9 #[.string s, .int .i64 a, .int .i64 b] w (Named w (Nm.logN s.data.toList a b)) := by
  cases hk : Nm.kd s.data.toList with
  | none =>
    have e : Nm.logN s.data.toList a b = ([], 1) := by unfold Nm.logN; rw [hk]
    rw [e]; exact Log_none s a b w (by omega) hk
  | some p =>
    obtain ⟨k, n⟩ := p
    have hn : n = 0 ∨ n = 1 ∨ n = 2 := by
      unfold Nm.kd at hk
      split at hk
      · have := congrArg Prod.snd (Option.some.inj hk); exact .inl this.symm
      · split at hk
        · have := congrArg Prod.snd (Option.some.inj hk); exact .inr (.inr this.symm)
        · split at hk
          · have := congrArg Prod.snd (Option.some.inj hk); exact .inr (.inr this.symm)
          · split at hk
            · have := congrArg Prod.snd (Option.some.inj hk); exact .inr (.inl this.symm)
            · cases hk
    rcases hn with rfl | rfl | rfl
    · exact Log_0 s k a b w hs ht hk
    · exact Log_1 s k a b w hs ht hk
    · exact Log_2 s k a b w hs ht hk
end Go.Proofs.YtmgkgjacnbeboaaDoor.E
