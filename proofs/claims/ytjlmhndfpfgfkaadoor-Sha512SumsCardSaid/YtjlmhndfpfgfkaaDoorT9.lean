import Derived.Test.YtjlmhndfpfgfkaaDoorT8
set_option linter.unusedVariables false
set_option linter.unusedSimpArgs false
namespace Go.Proofs.YtjlmhndfpfgfkaaDoor.E
open Go.RowKit Go.Proofs.YtjlmhndfpfgfkaaDoorW.PrintWords Go.Proofs.YtjlmhndfpfgfkaaDoorW.PrintLast Go.Proofs.YtjlmhndfpfgfkaaDoorW.PrintMore
attribute [local go_sem] max2_int min2_int max_two min_two
open S (mkB be num)
theorem one_str (s : ByteArray) (w : World) : Kd.C Kd.string (w.alloc (.cells #[.string s] 9)) (some ⟨w.heap.size, 0, none⟩) [s].length [s] := by
  have h : Kd.string.R 9 (w.alloc (.cells #[.string s] 9)) w.heap.size (fun _ => True) (.slice (some ⟨w.heap.size, 0, none⟩) 1 1) [s] :=
    Kd.R_of_own (World.ownsRow_lit (size := 1) w #[.string s] 1 (Nat.le_refl _) (by unfold maxLen; omega) rfl) (fun _ _ => trivial)
  exact (Kd.R_reads' h).2.2
attribute [local irreducible] Sh.sched Sh.rr Sh.ad Sh.sg0 Sh.sg1 S.num Sh.kw Sh.t1 Sh.t2 Sh.nt Sh.comp Sh.blocks Sh.take Sh.tail Sh.fin Sh.h0 Sh.sum
set_option maxHeartbeats 4000000 in
set_option maxRecDepth 100000 in
theorem alive_c (w : World) (hK : Keys w) : Calls Tryd.prog 7 #[] w fun e w' => e = .returned (.bool true) ∧ Below w.heap.size w w' := by
  have hS : Calls Tryd.prog 8 #[.slice (some ⟨w.heap.size, 0, none⟩) 1 1] (w.alloc (.cells #[.string ⟨#[97, 98, 99]⟩] 9)) fun e w' => e = .returned (.string (mkB (Sh.sum (dats [⟨#[97, 98, 99]⟩])))) ∧ Below (w.alloc (.cells #[.string ⟨#[97, 98, 99]⟩] 9)).heap.size (w.alloc (.cells #[.string ⟨#[97, 98, 99]⟩] 9)) w' := Sum_any (some ⟨w.heap.size, 0, none⟩) 1 [⟨#[97, 98, 99]⟩] (w.alloc (.cells #[.string ⟨#[97, 98, 99]⟩] 9)) (one_str _ w) (Nat.le_refl _) (by simp) (by simp [dats, dat]) (keys_below ((Below.refl _ _).alloc (Nat.le_refl _) _) hK)
  have habc := Sh.abc
  rw [show dats [⟨#[97, 98, 99]⟩] = [97, 98, 99] from rfl] at hS
  obtain ⟨l, hl⟩ : ∃ l, l = Sh.sum [97, 98, 99] := ⟨_, rfl⟩
  rw [← hl] at hS habc
  clear hl
  obtain ⟨h4, h64⟩ := habc
  have hsz : (mkB l).size = 64 := by rw [S.mkB_size, h64]
  have hex : (mkB l).extract 0 4 = ⟨#[0xdd, 0xaf, 0x35, 0xa1]⟩ := by rw [S.mkB_extract, List.drop_zero, h4]; rfl
  generalize mkB l = r at *
  go_enter Tryd.func7, Tryd.ntmps7
  go_wp2_with (go_at_call 8; with_reducible refine hS.mono ?_; rintro e w1 ⟨rfl, hb1⟩)
  go_ret
  exact ⟨rfl, below_step ((Below.refl _ _).alloc (Nat.le_refl _) _) hb1⟩
end Go.Proofs.YtjlmhndfpfgfkaaDoor.E
