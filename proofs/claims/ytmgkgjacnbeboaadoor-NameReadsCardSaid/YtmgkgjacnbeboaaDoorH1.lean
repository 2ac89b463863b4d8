/- What the library's functions do in a world that holds their tables: Itoa, Atoi, Join; a role's name; a row's part. -/
import Derived.Test.YtmgkgjacnbeboaaDoorX0
import Derived.Test.YtmgkgjacnbeboaaDoorShelf
import Derived.Test.YtmgkgjacnbeboaaDoorN3
import Derived.Test.YtmgkgjacnbeboaaDoorOct
import Derived.Test.YtmgkgjacnbeboaaDoorSpl
import Derived.Lib.Hide
import Derived.Lib.AppendIntMem
import Derived.Lib.AtoiErrMem
import Derived.Shelf.Unicode.PredsPay
set_option linter.unusedVariables false
set_option linter.unusedSimpArgs false
namespace Go.Proofs.YtmgkgjacnbeboaaDoor.E
open Go.RowKit Go.Lib Go.Shelf Go.Proofs.YtmgkgjacnbeboaaDoorW.PrintWords Go.Proofs.YtmgkgjacnbeboaaDoorW.PrintLast Go.Proofs.YtmgkgjacnbeboaaDoorW.PrintMore
/-- The library's tables and sentinels lie as its initialisers lay them. -/
structure Tabs (w : World) : Prop where
  pow : Lib.TabIs Tryd.prog w "internal/strconv.uint64pow10" .u64 Lib.pow10Tab
  utf : Lib.Utf8Tabs 0 1 w
theorem Tabs.below {w w' : World} (h : Tabs w) (hb : Below w.heap.size w w') : Tabs w' := by
  obtain ⟨h1, h2⟩ := h
  exact ⟨TabIs_below (g := 2) (by kernel_rfl) h1 hb, Utf8Tabs_below h2 hb⟩
/-- .. with what strconv's errors wrap. -/
structure Tabs5 (w : World) : Prop where
  tabs : Tabs w
  es : ∃ ev, w.cell? ⟨4, 0, none⟩ = some ev ∧ (ev = .nilIface ∨ ∃ te pe, ev = .iface te pe)
  er : ∃ ev, w.cell? ⟨5, 0, none⟩ = some ev ∧ (ev = .nilIface ∨ ∃ te pe, ev = .iface te pe)
theorem Tabs5.below {w w' : World} (h : Tabs5 w) (hb : Below w.heap.size w w') : Tabs5 w' := by
  obtain ⟨h1, ⟨e1, c1, k1⟩, ⟨e2, c2, k2⟩⟩ := h
  exact ⟨h1.below hb, ⟨e1, (hb.cell (World.block_lt_of_cell? w _ c1)).trans c1, k1⟩, ⟨e2, (hb.cell (World.block_lt_of_cell? w _ c2)).trans c2, k2⟩⟩
theorem itoa_any (n : Int) (w : World) (h0 : -9223372036854775808 ≤ n) (h1 : n ≤ 9223372036854775807) (ht : Tabs w) :
    Calls Tryd.prog 18 #[.int .i64 n] w fun e w' => e = .returned (.string ⟨(Lib.itoa n).toArray⟩) ∧ Below w.heap.size w w' :=
  (Tryd.strconv_Itoa n h0 h1 w ht.pow).mono fun e w' ⟨he, k, os, hw⟩ => ⟨he, hw ▸ below_grow w.heap.size w (Nat.le_refl _) k os⟩
theorem atoi_any (s : ByteArray) (w : World) (hs : s.size ≤ 281474976710656) (ht : Tabs5 w) :
    Calls Tryd.prog 36 #[.string s] w fun e w' => (∃ ev, e = .returned (.tuple #[.int .i64 (Nm.atoiV s.data.toList), ev])) ∧ Below w.heap.size w w' := by
  obtain ⟨e1, c1, k1⟩ := ht.es
  obtain ⟨e2, c2, k2⟩ := ht.er
  unfold Nm.atoiV
  cases h : Lib.atoiAll s.data.toList with
  | ok v =>
    refine (Tryd.strconv_Atoi_ok s (by omega) v h w).mono ?_
    rintro e w' ⟨rfl, hw⟩
    refine ⟨⟨_, rfl⟩, ?_⟩
    rcases hw with rfl | ⟨t, rfl⟩
    · exact Below.refl _ _
    · exact bytesWorld_below w _ t
  | «syntax» =>
    refine (Tryd.strconv_Atoi_syntax s hs h e1 w c1 k1).mono ?_
    rintro e w' ⟨N, rfl, _, _, hb⟩
    exact ⟨⟨_, rfl⟩, hb⟩
  | range =>
    refine (Tryd.strconv_Atoi_range s hs h e2 w c2 k2).mono ?_
    rintro e w' ⟨N, rfl, _, _, hb⟩
    exact ⟨⟨_, rfl⟩, hb⟩
set_option maxHeartbeats 1000000 in
theorem number_any (s : ByteArray) (w : World) (hs : s.size ≤ 281474976710656) (ht : Tabs5 w) :
    Calls Tryd.prog 24 #[.string s] w fun e w' => e = .returned (.int .i64 (Nm.atoiV s.data.toList)) ∧ Below w.heap.size w w' := by
  have hA := atoi_any s w hs ht
  generalize Nm.atoiV s.data.toList = v at hA
  go_enter Tryd.func24, Tryd.ntmps24
  go_wp2_with (go_at_call 36; refine hA.mono ?_; clear hA; rintro e w' ⟨⟨ev, rfl⟩, hb⟩; have HC := Aside0.mk hb; clear hb)
  go_ret
  exact ⟨rfl, HC.out⟩
set_option maxHeartbeats 1000000 in
theorem plain_any (x : Int) (w : World) :
    Calls Tryd.prog 29 #[.int .i32 x] w fun e w' => e = .returned (.int .i32 (Nm.dropPlain x)) ∧ w = w' := by
  have hd : ∀ b, decide ((97 ≤ x ∧ x ≤ 122) ∨ (48 ≤ x ∧ x ≤ 57) ∨ x = 45) = b → Nm.dropPlain x = if b = true then -1 else x := fun b hb => by
    unfold Nm.dropPlain; rw [← hb]; simp
  by_cases h1 : 97 ≤ x
  · by_cases h2 : x ≤ 122
    · have e : Nm.dropPlain x = -1 := by unfold Nm.dropPlain; rw [if_pos (by omega)]
      rw [e]; clear e hd
      go_enter Tryd.func29, Tryd.ntmps29
      go_wp2
      go_ret
      exact ⟨rfl, rfl⟩
    · have e : Nm.dropPlain x = x := by unfold Nm.dropPlain; rw [if_neg (by omega)]
      rw [e]; clear e hd
      have h3 : 48 ≤ x := by omega
      have h4 : ¬ x ≤ 57 := by omega
      have h5 : (x == 45) = false := by simpa using (show ¬ x = 45 by omega)
      have h6 : ¬ x = 45 := by omega
      go_enter Tryd.func29, Tryd.ntmps29
      go_wp2
      go_ret
      exact ⟨rfl, rfl⟩
  · by_cases h3 : 48 ≤ x
    · by_cases h4 : x ≤ 57
      · have e : Nm.dropPlain x = -1 := by unfold Nm.dropPlain; rw [if_pos (by omega)]
        rw [e]; clear e hd
        go_enter Tryd.func29, Tryd.ntmps29
        go_wp2
        go_ret
        exact ⟨rfl, rfl⟩
      · have e : Nm.dropPlain x = x := by unfold Nm.dropPlain; rw [if_neg (by omega)]
        rw [e]; clear e hd
        have h5 : (x == 45) = false := by simpa using (show ¬ x = 45 by omega)
        have h6 : ¬ x = 45 := by omega
        go_enter Tryd.func29, Tryd.ntmps29
        go_wp2
        go_ret
        exact ⟨rfl, rfl⟩
    · by_cases h6 : x = 45
      · have e : Nm.dropPlain x = -1 := by unfold Nm.dropPlain; rw [if_pos (by omega)]
        rw [e]; clear e hd
        have h5 : (x == 45) = true := by simpa using h6
        go_enter Tryd.func29, Tryd.ntmps29
        go_wp2
        go_ret
        exact ⟨rfl, rfl⟩
      · have e : Nm.dropPlain x = x := by unfold Nm.dropPlain; rw [if_neg (by omega)]
        rw [e]; clear e hd
        have h5 : (x == 45) = false := by simpa using h6
        go_enter Tryd.func29, Tryd.ntmps29
        go_wp2
        go_ret
        exact ⟨rfl, rfl⟩
theorem map_any (s : ByteArray) (w : World) (hs : s.size < 35184372088832) (ht : Tabs w) :
    Calls Tryd.prog 30 #[.func (.func 29) #[] #[], .string s] w fun e w' => e = .returned (.string ⟨(Lib.mapD Nm.dropPlain s.data.toList).toArray⟩) ∧ Below w.heap.size w w' := by
  refine Tryd.strings_Map_grows 29 #[] (fun a w => enters_of Tryd.func29 (by kernel_rfl) rfl a w) Nm.dropPlain s w hs (fun W x hx hb => ?_) (fun x hx => ?_) ht.utf
  · refine (plain_any (x : Int) W).mono ?_
    rintro e w' ⟨rfl, rfl⟩
    exact ⟨rfl, Below.refl _ _⟩
  · unfold Nm.dropPlain; split <;> omega
end Go.Proofs.YtmgkgjacnbeboaaDoor.E
