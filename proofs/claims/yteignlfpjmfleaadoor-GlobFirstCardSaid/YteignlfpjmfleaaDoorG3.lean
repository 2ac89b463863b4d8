/- glob.right, Right, Path. -/
import Derived.Test.YteignlfpjmfleaaDoorG2
import Derived.Lib.ConvBytes
set_option linter.unusedVariables false
set_option linter.unusedSimpArgs false
namespace Go.Proofs.YteignlfpjmfleaaDoor.E
open Go.RowKit Go.Lib Go.Proofs.YteignlfpjmfleaaDoorW.PrintWords Go.Proofs.YteignlfpjmfleaaDoorW.PrintLast Go.Proofs.YteignlfpjmfleaaDoorW.PrintMore
attribute [local irreducible] G.right G.split G.bad G.byt parts

theorem any_not (pat : Bool) (l : List UInt8) : l.any (fun c => !G.byt pat c) = !l.all (G.byt pat) := by
  induction l with
  | nil => rfl
  | cons c l ih => simp [ih]
/-- Behind the conversion: is there a byte that may not be? -/
theorem anyByte (pat : Bool) (s : ByteArray) (w : World) (hs : s.size < 4294967281) (cap : Nat) :
    Calls Tryd.prog 44 #[.slice (some ⟨w.heap.size + 1, 0, none⟩) s.size cap, .func (.func 45) #[] #[.pointer (some ⟨w.heap.size, 0, none⟩)]] (Lib.bytesWorld (w.alloc (.cells #[tst pat] 42)) 5 s)
      fun e w' => e = .returned (.bool (!s.data.toList.all (G.byt pat))) ∧ Below w.heap.size w w' := by
  have hsz : (w.alloc (.cells #[tst pat] 42)).heap.size = w.heap.size + 1 := by simp
  have hB2 : Below (w.heap.size + 1) (w.alloc (.cells #[tst pat] 42)) (Lib.bytesWorld (w.alloc (.cells #[tst pat] 42)) 5 s) := bytes_below (Below.refl _ _) (by omega) 5 s
  rw [← any_not]
  have h := byteContains (fun c => !G.byt pat c) 45 #[.pointer (some ⟨w.heap.size, 0, none⟩)] (fun a w => enters_of Tryd.func45 (by kernel_rfl) rfl a w)
    (some ⟨w.heap.size + 1, 0, none⟩) s.size cap s.data.toList (Lib.bytesWorld (w.alloc (.cells #[tst pat] 42)) 5 s)
    (fun W c hb => by
      have hc : W.cell? ⟨w.heap.size, 0, none⟩ = some (tst pat) := by
        rw [hb.cell (p := ⟨w.heap.size, 0, none⟩) (by rw [Lib.bytesWorld_size, hsz]; show w.heap.size < _; omega), Lib.bytesWorld_old _ _ _ _ (by rw [hsz]; show w.heap.size < _; omega)]
        simp
      refine (not_any pat w.heap.size c W hc).mono ?_
      rintro e w' ⟨rfl, q, rfl⟩
      exact ⟨rfl, pw_below_drewN hb q⟩)
    (by simp) (by omega)
    (.inr ⟨w.heap.size + 1, 0, rfl, by rw [Lib.bytesWorld_size, hsz]; omega, fun j hj => by
      have := Lib.bytesWorld_cell (w.alloc (.cells #[tst pat] 42)) 5 s j (by simpa using hj)
      rw [hsz] at this
      rw [Nat.zero_add, this, List.getD_eq_getElem?_getD, List.getElem?_eq_getElem hj]; rfl⟩)
  refine h.mono ?_
  rintro e w' ⟨rfl, hb⟩
  have hB3 := below_then hB2 (by rw [Lib.bytesWorld_size, hsz]; omega) hb
  rw [← hsz] at hB3
  exact ⟨rfl, below_step (below_alloc (Below.refl _ _) _) hB3⟩
/-- The parts that may not be. -/
theorem anyBad (s : ByteArray) (w : World) (hs : s.size < 4294967281) (hn : (parts s).length ≤ 9223372036854775807) :
    Calls Tryd.prog 24 #[.slice (some ⟨w.heap.size, 0, none⟩) (parts s).length (parts s).length, .func (.func 47) #[] #[]] (w.alloc (.cells ((parts s).map Value.string).toArray 9))
      fun e w' => e = .returned (.bool ((G.split s.data.toList).any G.bad)) ∧ Below w.heap.size w w' := by
  have hsz : (w.alloc (.cells ((parts s).map Value.string).toArray 9)).heap.size = w.heap.size + 1 := by simp
  have hB1 : Below w.heap.size w (w.alloc (.cells ((parts s).map Value.string).toArray 9)) := below_alloc (Below.refl _ _) _
  have e : (G.split s.data.toList).any G.bad = (parts s).any (fun p => G.bad p.data.toList) := by rw [← parts_data, List.any_map]; rfl
  rw [e]
  have h := strContains (fun p => G.bad p.data.toList) 47 #[] (fun a w => enters_of Tryd.func47 (by kernel_rfl) rfl a w)
    (some ⟨w.heap.size, 0, none⟩) (parts s).length (parts s).length (parts s) (w.alloc (.cells ((parts s).map Value.string).toArray 9))
    (fun W x _ hb => by
      refine (bad_any x W).mono ?_
      rintro e w' ⟨rfl, q, rfl⟩
      exact ⟨rfl, pw_below_drewN hb q⟩)
    rfl hn (str_mk hn (fun j hj => by
      have : (w.alloc (.cells ((parts s).map Value.string).toArray 9)).cell? ⟨w.heap.size, j, none⟩ = (((parts s).map Value.string).toArray)[j]? := by simp
      rw [Nat.zero_add, this]; simp [hj]))
  refine h.mono ?_
  rintro e w' ⟨rfl, hb⟩
  exact ⟨rfl, below_step hB1 hb⟩
theorem parts_len (s : ByteArray) : (parts s).length ≤ s.size + 1 := by
  unfold parts
  have h1 := Lib.splitB_length_le ⟨#[47]⟩ 0 (Lib.countB s ⟨#[47]⟩) s
  have h2 := Lib.countB_le ⟨#[47]⟩ (Nat.le_refl _) s.size s (Nat.le_refl _)
  omega
set_option maxHeartbeats 2000000 in
set_option maxRecDepth 100000 in
theorem right_any (pat : Bool) (s : ByteArray) (w : World) (hs : s.size < 4294967281) :
    Calls Tryd.prog 28 #[.string s, tst pat] w fun e w' => e = .returned (.bool (G.right pat s.data.toList)) ∧ Below w.heap.size w w' := by
  have hmf : ∀ (fn : Fn) (first cap : Array Value) (w : World), (Instr.makeFunc fn first cap).run Tryd.prog w = .ok (.func fn first cap) w := fun _ _ _ _ => rfl
  have kb := fun W => print_bytes (P := Tryd.prog) 9 50 5 Tryd.underlying9 Tryd.underlying50 Tryd.underlying5 s W
  have hll : s.data.toList.length = s.size := by simp
  have er : G.right pat s.data.toList = (decide (s.size ≤ 200) && s.data.toList.all (G.byt pat) && !(G.split s.data.toList).any G.bad) := by unfold G.right; rw [hll]
  have HA := anyByte pat s w hs
  have HBad := fun W => anyBad s W hs (by have := parts_len s; omega)
  have hsp : ∀ W, Calls Tryd.prog 46 #[.string s, .string ⟨#[47]⟩] W fun e w' => e = .returned (.slice (some ⟨W.heap.size, 0, none⟩) (parts s).length (parts s).length) ∧ w' = W.alloc (.cells ((parts s).map Value.string).toArray 9) := fun W => by
    unfold parts; exact split_one s 47 W hs
  have hbt : Below w.heap.size w (w.alloc (.cells #[tst pat] 42)) := below_alloc (Below.refl _ _) _
  obtain ⟨g, hg⟩ : ∃ g, tst pat = .func (.func g) #[] #[] := ⟨_, rfl⟩
  rw [er]
  rw [hg] at HA hbt ⊢
  clear er hll hg
  have HT := Aside0.mk hbt
  clear hbt
  generalize s.data.toList.all (G.byt pat) = A at HA ⊢
  generalize (G.split s.data.toList).any G.bad = B at HBad ⊢
  by_cases hl : 200 < s.size
  · have hlz : (200 : Int) < (s.size : Int) := by omega
    rw [show decide (s.size ≤ 200) = false from by simp; omega]
    clear HA HBad hsp kb hmf
    go_enter Tryd.func28, Tryd.ntmps28
    go_wp2
    go_ret
    exact ⟨rfl, HT.out⟩
  · have hlz : ¬ (200 : Int) < (s.size : Int) := by omega
    rw [show decide (s.size ≤ 200) = true from by simp; omega]
    cases A with
    | false =>
      clear HBad hsp
      go_enter Tryd.func28, Tryd.ntmps28
      go_wp2_with (go_at_call 44; refine (HA _).mono ?_; rintro e w' ⟨rfl, hb⟩; have HC := Aside0.mk hb; clear hb)
      go_ret
      exact ⟨rfl, HC.out⟩
    | true =>
      go_enter Tryd.func28, Tryd.ntmps28
      go_wp2_with (first
        | (go_at_call 44; refine (HA _).mono ?_; rintro e w' ⟨rfl, hb⟩; have HC := Aside0.mk hb; clear hb)
        | (go_at_call 46; refine (hsp _).mono ?_; rintro e w' ⟨rfl, rfl⟩)
        | (go_at_call 24; refine (HBad _).mono ?_; rintro e w' ⟨rfl, hb⟩; have HD := Aside0.mk (below_step HC.out hb); clear hb))
      go_ret
      exact ⟨rfl, HD.out⟩
set_option maxHeartbeats 2000000 in
set_option maxRecDepth 100000 in
theorem Right_any (s : ByteArray) (w : World) (hs : s.size < 4294967281) :
    Calls Tryd.prog 11 #[.string s] w fun e w' => e = .returned (.bool (G.right true s.data.toList)) ∧ Below w.heap.size w w' := by
  have h := right_any true s w hs
  change Calls Tryd.prog 28 #[.string s, .func (.func 29) #[] #[]] w _ at h
  generalize G.right true s.data.toList = b at h ⊢
  go_enter Tryd.func11, Tryd.ntmps11
  go_wp2_with (go_at_call 28; refine h.mono ?_; rintro e w' ⟨rfl, hb⟩)
  go_ret
  exact ⟨rfl, hb⟩
set_option maxHeartbeats 2000000 in
set_option maxRecDepth 100000 in
theorem Path_any (s : ByteArray) (w : World) (hs : s.size < 4294967281) :
    Calls Tryd.prog 12 #[.string s] w fun e w' => e = .returned (.bool (G.right false s.data.toList)) ∧ Below w.heap.size w w' := by
  have h := right_any false s w hs
  change Calls Tryd.prog 28 #[.string s, .func (.func 30) #[] #[]] w _ at h
  generalize G.right false s.data.toList = b at h ⊢
  go_enter Tryd.func12, Tryd.ntmps12
  go_wp2_with (go_at_call 28; refine h.mono ?_; rintro e w' ⟨rfl, hb⟩)
  go_ret
  exact ⟨rfl, hb⟩
end Go.Proofs.YteignlfpjmfleaaDoor.E
