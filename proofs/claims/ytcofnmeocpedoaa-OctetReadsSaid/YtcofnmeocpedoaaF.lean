/- The contracts with what they come to told, and the walks of OctetReads and OctetWide. -/
import Derived.Test.YtcofnmeocpedoaaD4
import Derived.Outline
set_option linter.unusedVariables false
set_option linter.unusedSimpArgs false
namespace Go.Proofs.Ytcofnmeocpedoaa.F
open Go.RowKit Go.Proofs.YtcofnmeocpedoaaW.PrintWords Go.Proofs.YtcofnmeocpedoaaW.PrintLast Go.Proofs.YtcofnmeocpedoaaW.PrintMore
attribute [local go_sem] max2_int min2_int max_two min_two
open S X E D

theorem drawn_below {w w' : World} (h : Drawn0 w w') : Below w.heap.size w w' := h.below
theorem unhex_c (s : ByteArray) (w : World) (hs : s.size < 70368744177664) : Calls Try.prog 8 #[.string s] w fun e w' => e = .returned (.tuple #[.string (uRes [] (unhex s.data.toList)).1, .int .i64 (uRes [] (unhex s.data.toList)).2]) ∧ Below w.heap.size w w' :=
  octet_Unhex.calls (s.size + 1) s _ _ w (unhex_f s hs _ (by omega))
theorem runhex_c (s : ByteArray) (w : World) (hs : s.size < 70368744177664) : Calls Try.prog 11 #[.string s] w fun e w' => e = .returned (.tuple #[.string (rRes [] (unhex s.data.toList)).1, .bool (rRes [] (unhex s.data.toList)).2]) ∧ Below w.heap.size w w' :=
  imprimaturref01_Unhex.calls (2 * s.size + 4) s _ _ w (runhex_f s hs _ (by omega))
theorem hex_c (s : ByteArray) (w : World) (hs : s.size ≤ 70368744177664) : Calls Try.prog 12 #[.string s] w fun e w' => e = .returned (.string (mkB (hexs s.data.toList))) ∧ Below w.heap.size w w' :=
  octet_Hex.calls s _ w (hex_f s hs)
theorem rhex_c (s : ByteArray) (w : World) (hs : s.size < 70368744177664) : Calls Try.prog 13 #[.string s] w fun e w' => e = .returned (.string (mkB (hexs s.data.toList))) ∧ Below w.heap.size w w' :=
  imprimaturref01_Hex.calls (s.size + 1) s _ w (rhex_f s hs _ (by omega))
theorem number_short (s : ByteArray) (w : World) (hs : s.size ≤ 8) : Calls Try.prog 10 #[.string s] w fun e w' => e = .returned (.tuple #[.int .u64 (num s.data.toList), .int .i64 0]) ∧ Below w.heap.size w w' :=
  (octet_Number.calls 9 s _ _ w (by rw [number_f s 9 (by omega), if_neg (by omega)])).mono fun e w' ⟨h1, h2⟩ => ⟨h1, h2.below⟩
theorem number_long (s : ByteArray) (w : World) (hs : 8 < s.size) : Calls Try.prog 10 #[.string s] w fun e w' => e = .returned (.tuple #[.int .u64 0, .int .i64 1]) ∧ Below w.heap.size w w' :=
  (octet_Number.calls 9 s _ _ w (by rw [number_f s 9 (by omega), if_pos hs])).mono fun e w' ⟨h1, h2⟩ => ⟨h1, h2.below⟩
theorem rnumber_c (s : ByteArray) (w : World) (hs : s.size ≤ 8) : Calls Try.prog 17 #[.string s] w fun e w' => e = .returned (.int .u64 (num s.data.toList)) ∧ Below w.heap.size w w' :=
  (imprimaturref01_Number.calls 9 s _ w (rnumber_f s hs 9 (by omega))).mono fun e w' ⟨h1, h2⟩ => ⟨h1, h2.below⟩
theorem alive_c (w : World) : Calls Try.prog 14 #[] w fun e w' => e = .returned (.bool true) ∧ Below w.heap.size w w' := imprimaturlaw01_alive.calls 11 _ w (alive_f 11 (by omega))
theorem fits_c (n wd : Nat) (w : World) (hn : n < 18446744073709551616) (hw : wd ≤ 8) : Calls Try.prog 15 #[.int .u64 n, .int .i64 wd] w fun e w' => e = .returned (.bool (decide (n / 256 ^ wd = 0))) ∧ Below w.heap.size w w' :=
  (imprimaturref01_Fits.calls 9 n wd _ w (fits_f n wd hn hw 9 (by omega))).mono fun e w' ⟨h1, h2⟩ => ⟨h1, h2.below⟩
theorem rbig_c (n wd : Nat) (w : World) (hn : n < 18446744073709551616) (hw : wd ≤ 8) : Calls Try.prog 16 #[.int .u64 n, .int .i64 wd] w fun e w' => e = .returned (.string (mkB (be wd n))) ∧ Below w.heap.size w w' :=
  imprimaturref01_Big.calls 9 n wd _ w (rbig_f n wd hn hw 9 (by omega))

theorem cut_any (s : ByteArray) (m : Nat) : ∃ n : Nat, (if (m : Int) < (s.size : Int) then (m : Int) else (s.size : Int)) = (n : Int) ∧ n ≤ s.size ∧ n ≤ m := by
  split
  · exact ⟨m, rfl, by omega, by omega⟩
  · exact ⟨_, rfl, by omega, by omega⟩
theorem extract_size (s : ByteArray) (n : Nat) (h : n ≤ s.size) : (s.extract 0 n).size = n := by
  conv => lhs; rw [← mkB_data s, mkB_extract]
  rw [mkB_size, List.length_take]; simp; omega

set_option maxHeartbeats 4000000 in
set_option maxRecDepth 100000 in
theorem reads_walk (s : ByteArray) (hs : s.size ≤ 500) (n : Nat) (hn : n < 18446744073709551616) (wd : Int) (w : World) (n0 : Nat) (s0 : ByteArray) (hcut : (if (500 : Int) < (s0.size : Int) then (500 : Int) else (s0.size : Int)) = (n0 : Int)) (hn0 : n0 ≤ s0.size) (hex : s0.extract 0 n0 = s) :
    Calls Try.prog 3 #[.string s0, .int .u64 n, .int .i64 wd] w fun e w' => e = .returned (.bool true) ∧ Below w.heap.size w w' := by
  have HB := Aside0.mk (Below.refl w.heap.size w)
  have hu : (∃ r, (∀ w, Calls Try.prog 8 #[.string s] w fun e w' => e = .returned (.tuple #[.string (mkB r), .int .i64 0]) ∧ Below w.heap.size w w') ∧ (∀ w, Calls Try.prog 11 #[.string s] w fun e w' => e = .returned (.tuple #[.string (mkB r), .bool true]) ∧ Below w.heap.size w w')) ∨
      ((∀ w, Calls Try.prog 8 #[.string s] w fun e w' => e = .returned (.tuple #[.string (mkB []), .int .i64 4]) ∧ Below w.heap.size w w') ∧ (∀ w, Calls Try.prog 11 #[.string s] w fun e w' => e = .returned (.tuple #[.string (mkB []), .bool false]) ∧ Below w.heap.size w w')) := by
    have U1 := fun w => unhex_c s w (by omega)
    have U2 := fun w => runhex_c s w (by omega)
    cases hu : unhex s.data.toList with
    | none => rw [hu] at U1 U2; exact .inr ⟨U1, U2⟩
    | some r => rw [hu] at U1 U2; exact .inl ⟨r, U1, U2⟩
  have H1 := fun w => hex_c s w (by omega)
  have H2 := fun w => rhex_c s w (by omega)
  have hbig : (wd < 0 ∨ 8 < wd) ∨ ∃ k : Nat, wd = k ∧ k ≤ 8 := by
    by_cases h : wd < 0 ∨ 8 < wd
    · exact .inl h
    · exact .inr ⟨wd.toNat, by omega, by omega⟩
  have hw : (∃ hx : wd < 0 ∨ 8 < wd, ∀ w, Calls Try.prog 9 #[.int .u64 n, .int .i64 wd] w fun e w' => e = .returned (.tuple #[.string (⟨#[]⟩ : ByteArray), .int .i64 1]) ∧ Below w.heap.size w w') ∨
      (∃ b, (0 ≤ wd ∧ wd ≤ 8) ∧ (∀ w, Calls Try.prog 9 #[.int .u64 n, .int .i64 wd] w fun e w' => e = .returned (.tuple #[.string (mkB b), .int .i64 0]) ∧ Below w.heap.size w w') ∧ (∀ w, Calls Try.prog 15 #[.int .u64 n, .int .i64 wd] w fun e w' => e = .returned (.bool true) ∧ Below w.heap.size w w') ∧ (∀ w, Calls Try.prog 16 #[.int .u64 n, .int .i64 wd] w fun e w' => e = .returned (.string (mkB b)) ∧ Below w.heap.size w w')) ∨
      ((0 ≤ wd ∧ wd ≤ 8) ∧ (∀ w, Calls Try.prog 9 #[.int .u64 n, .int .i64 wd] w fun e w' => e = .returned (.tuple #[.string (⟨#[]⟩ : ByteArray), .int .i64 1]) ∧ Below w.heap.size w w') ∧ (∀ w, Calls Try.prog 15 #[.int .u64 n, .int .i64 wd] w fun e w' => e = .returned (.bool false) ∧ Below w.heap.size w w')) := by
    rcases hbig with h | ⟨k, rfl, hk⟩
    · exact .inl ⟨h, fun w => big_not n wd w hn h⟩
    · by_cases hf : n / 256 ^ k = 0
      · refine .inr (.inl ⟨be k n, by omega, fun w => big_ok n k w hn hk hf, fun w => ?_, fun w => rbig_c n k w hn hk⟩)
        have := fits_c n k w hn hk
        simpa [hf] using this
      · refine .inr (.inr ⟨by omega, fun w => ?_, fun w => ?_⟩)
        · refine big_over n k w hn ?_ hf
          have : k ≠ 8 := by
            intro e
            subst e
            exact hf (Nat.div_eq_of_lt (by omega))
          omega
        · have := fits_c n k w hn hk
          simpa [hf] using this
  have hl : (8 < s.size ∧ ∀ w, Calls Try.prog 10 #[.string s] w fun e w' => e = .returned (.tuple #[.int .u64 0, .int .i64 1]) ∧ Below w.heap.size w w') ∨
      (∃ m : Nat, s.size ≤ 8 ∧ (∀ w, Calls Try.prog 10 #[.string s] w fun e w' => e = .returned (.tuple #[.int .u64 m, .int .i64 0]) ∧ Below w.heap.size w w') ∧ (∀ w, Calls Try.prog 17 #[.string s] w fun e w' => e = .returned (.int .u64 m) ∧ Below w.heap.size w w')) := by
    by_cases h : 8 < s.size
    · exact .inl ⟨h, fun w => number_long s w h⟩
    · exact .inr ⟨num s.data.toList, by omega, fun w => number_short s w (by omega), fun w => rnumber_c s w (by omega)⟩
  clear hbig
  generalize hexs s.data.toList = hh at *
  rcases hw with ⟨hx | hx, B1⟩ | ⟨b, hx, B1, F1, RB1⟩ | ⟨hx, B1, F1⟩
  all_goals
    rcases hl with ⟨hl, N1⟩ | ⟨m, hl, N1, RN1⟩
  all_goals
    rcases hu with ⟨r, U1, U2⟩ | ⟨U1, U2⟩
  all_goals
    go_enter Try.func3, Try.ntmps3
    go_wp2_with (first | ((go_at_call 8; with_reducible refine (U1 _).mono ?_); rintro e w' ⟨rfl, hb⟩; have HBn := Aside0.mk (below_step HB.out hb); clear HB hb; have HB := HBn; clear HBn) | ((go_at_call 11; with_reducible refine (U2 _).mono ?_); rintro e w' ⟨rfl, hb⟩; have HBn := Aside0.mk (below_step HB.out hb); clear HB hb; have HB := HBn; clear HBn) | ((go_at_call 12; with_reducible refine (H1 _).mono ?_); rintro e w' ⟨rfl, hb⟩; have HBn := Aside0.mk (below_step HB.out hb); clear HB hb; have HB := HBn; clear HBn) | ((go_at_call 13; with_reducible refine (H2 _).mono ?_); rintro e w' ⟨rfl, hb⟩; have HBn := Aside0.mk (below_step HB.out hb); clear HB hb; have HB := HBn; clear HBn) | ((go_at_call 9; with_reducible refine (B1 _).mono ?_); rintro e w' ⟨rfl, hb⟩; have HBn := Aside0.mk (below_step HB.out hb); clear HB hb; have HB := HBn; clear HBn) | ((go_at_call 10; with_reducible refine (N1 _).mono ?_); rintro e w' ⟨rfl, hb⟩; have HBn := Aside0.mk (below_step HB.out hb); clear HB hb; have HB := HBn; clear HBn) | ((go_at_call 14; with_reducible refine (alive_c _).mono ?_); rintro e w' ⟨rfl, hb⟩; have HBn := Aside0.mk (below_step HB.out hb); clear HB hb; have HB := HBn; clear HBn) | ((go_at_call 15; with_reducible refine (F1 _).mono ?_); rintro e w' ⟨rfl, hb⟩; have HBn := Aside0.mk (below_step HB.out hb); clear HB hb; have HB := HBn; clear HBn) | ((go_at_call 16; with_reducible refine (RB1 _).mono ?_); rintro e w' ⟨rfl, hb⟩; have HBn := Aside0.mk (below_step HB.out hb); clear HB hb; have HB := HBn; clear HBn) | ((go_at_call 17; with_reducible refine (RN1 _).mono ?_); rintro e w' ⟨rfl, hb⟩; have HBn := Aside0.mk (below_step HB.out hb); clear HB hb; have HB := HBn; clear HBn))
    go_ret
    exact ⟨rfl, HB.out⟩
end Go.Proofs.Ytcofnmeocpedoaa.F
