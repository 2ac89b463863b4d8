/- glob.Any for any row of patterns. -/
import Derived.Test.YteignlfpjmfleaaDoorG9
set_option linter.unusedVariables false
set_option linter.unusedSimpArgs false
namespace Go.Proofs.YteignlfpjmfleaaDoor.E
open Go.RowKit Go.Lib Go.Shelf Go.Proofs.YteignlfpjmfleaaDoorW.PrintWords Go.Proofs.YteignlfpjmfleaaDoorW.PrintLast Go.Proofs.YteignlfpjmfleaaDoorW.PrintMore
attribute [local irreducible] G.split G.right may G.mt
theorem find_first (ps : List (List UInt8)) (f : List UInt8 → Bool) (i : Nat) (h : i < ps.length) (h1 : f ps[i] = true) (h2 : ∀ j, (hj : j < i) → f ps[j] = false) : ps.findIdx? f = some i := by
  rw [List.findIdx?_eq_some_iff_getElem]
  exact ⟨h, h1, fun j hj => by rw [h2 j hj]; simp⟩
theorem find_none (ps : List (List UInt8)) (f : List UInt8 → Bool) (h : ps.any f = false) : ps.findIdx? f = none := by
  rw [List.findIdx?_eq_none_iff]
  intro x hx
  have := List.any_eq_false.1 h x hx
  simpa using this
def dat (zs : List ByteArray) : List (List UInt8) := zs.map (fun z => z.data.toList)
def AnyOut (w : World) (r : Int × Int) (e : Ending) (w' : World) : Prop := e = .returned (.tuple #[.int .i64 r.1, .int .i64 r.2]) ∧ Below w.heap.size w w'
set_option maxHeartbeats 4000000 in
set_option maxRecDepth 100000 in
theorem Any_any (s : ByteArray) (a : Option Addr) (n c : Nat) (zs : List ByteArray) (w : World) (hs : s.size < 4294967281) (hzs : ∀ z ∈ zs, z.size < 4294967281)
    (hz : n = zs.length) (hbig : n ≤ 9223372036854775807) (ha : Kd.C Kd.string w a zs.length zs) :
    Calls Tryd.prog 10 #[.string s, .slice a n c] w (AnyOut w (G.which (dat zs) s.data.toList)) := by
  have hP := fun W => Path_any s W hs
  have hW1 : Below w.heap.size w (w.alloc (.cells #[.string s] 9)) := below_alloc (Below.refl _ _) _
  have ha' : ∀ W, Below w.heap.size w W → Kd.C Kd.string W a zs.length zs := fun W hW => Kd.C_below ha hW
  have hC : ∀ W, Below w.heap.size w W → Calls Tryd.prog 24 #[.slice a n c, .func (.func 25) #[] #[]] W fun e w' => e = .returned (.bool (!(dat zs).all (G.right true))) ∧ Below W.heap.size W w' := fun W hW => by
    have e : (!(dat zs).all (G.right true)) = zs.any (fun p => !G.right true p.data.toList) := by
      unfold dat; rw [List.all_map, List.not_all_eq_any_not]; rfl
    rw [e]
    exact strContains (fun p => !G.right true p.data.toList) 25 #[] (fun a w => enters_of Tryd.func25 (by kernel_rfl) rfl a w) a n c zs W (fun W' x hx hb => (any1 x W' (hzs x hx)).mono fun e w' ⟨h1, h2⟩ => ⟨h1, below_then hb hb.size h2⟩) hz hbig (ha' W hW)
  have hI : ∀ W, Below (w.heap.size + 1) (w.alloc (.cells #[.string s] 9)) W → G.right false s.data.toList = true → (dat zs).all (G.right true) = true → Calls Tryd.prog 26 #[.slice a n c, .func (.func 27) #[] #[.pointer (some ⟨w.heap.size, 0, none⟩)]] W fun e w' =>
      (∃ k : Int, e = .returned (.int .i64 k) ∧ G.which (dat zs) s.data.toList = (if k < 0 then (0, 36) else (k, 0))) ∧ Below W.heap.size W w' := fun W hW hr1 hr2 => by
    have hc : W.cell? ⟨w.heap.size, 0, none⟩ = some (.string s) := (hW.cell (p := ⟨w.heap.size, 0, none⟩) (by show w.heap.size < w.heap.size + 1; omega)).trans (Boxed.new w 9 (.string s)).cell
    have hbW : w.heap.size < W.heap.size := by have := hW.size; simp at this; omega
    have hW0 : Below w.heap.size w W := hW1.trans (hW.mono (by omega))
    refine (strIndex (fun p => may p.data.toList s.data.toList) 27 #[.pointer (some ⟨w.heap.size, 0, none⟩)] (fun a w => enters_of Tryd.func27 (by kernel_rfl) rfl a w) a n c zs W
      (fun W' x hx hb => (any2 x s w.heap.size W' ((hb.cell (p := ⟨w.heap.size, 0, none⟩) hbW).trans hc) (hzs x hx) hs).mono fun e w' ⟨h1, h2⟩ => ⟨h1, below_then hb hb.size h2⟩) hz hbig (ha' W hW0)).mono ?_
    rintro e w' ⟨⟨k, rfl, hk1, hk2, hk3⟩, hb⟩
    refine ⟨⟨k, rfl, ?_⟩, hb⟩
    have hm : ∀ p ∈ zs, may p.data.toList s.data.toList = G.mt p.data.toList s.data.toList := fun p hp => by
      have : G.right true p.data.toList = true := List.all_eq_true.1 hr2 _ (List.mem_map.2 ⟨p, hp, rfl⟩)
      unfold may; rw [hr1, this]; simp
    unfold G.which
    rw [if_pos ⟨hr1, hr2⟩]
    by_cases hk : k < 0
    · rw [if_pos hk, find_none]
      unfold dat
      rw [List.any_map]
      have h0 : ¬ zs.any (fun p => may p.data.toList s.data.toList) = true := fun h => by have := hk1.2 h; omega
      rw [← Bool.not_eq_true]
      intro h
      apply h0
      obtain ⟨x, hx, hf⟩ := List.any_eq_true.1 h
      exact List.any_eq_true.2 ⟨x, hx, by rw [hm x hx]; exact hf⟩
    · rw [if_neg hk]
      obtain ⟨i, rfl⟩ : ∃ i : Nat, k = (i : Int) := ⟨k.toNat, by omega⟩
      obtain ⟨hi, h1, h2⟩ := (hk2 i).1 rfl
      rw [find_first (dat zs) (fun p => G.mt p s.data.toList) i (by unfold dat; simpa using hi)]
      · unfold dat; rw [List.getElem_map]; rw [← hm _ (List.getElem_mem _)]; exact h1
      · intro j hj
        unfold dat; rw [List.getElem_map, ← hm _ (List.getElem_mem _)]; exact h2 j hj
  have hw0 : G.right false s.data.toList = false → G.which (dat zs) s.data.toList = (0, 1) := fun h => by unfold G.which; rw [if_neg (by rw [h]; simp)]
  have hw1 : (dat zs).all (G.right true) = false → G.which (dat zs) s.data.toList = (0, 1) := fun h => by unfold G.which; rw [if_neg (by rw [h]; simp)]
  generalize G.which (dat zs) s.data.toList = r at hI hw0 hw1
  generalize (dat zs).all (G.right true) = r2 at hC hI hw1
  generalize G.right false s.data.toList = r1 at hP hI hw0
  clear ha ha' hzs hz hbig hs
  have hbx := (Boxed.new w 9 (.string s)).cell
  cases r1 with
  | false =>
    obtain rfl := hw0 rfl
    clear hw0 hw1 hI hC
    go_enter Tryd.func10, Tryd.ntmps10
    go_wp2_with (go_at_call 12; refine (hP _).mono ?_; clear hP; rintro e w' ⟨rfl, hb⟩; have HC := Aside0.mk (below_step hW1 hb); clear hb)
    go_ret2
    exact ⟨rfl, HC.out⟩
  | true =>
    clear hw0
    cases r2 with
    | false =>
      obtain rfl := hw1 rfl
      clear hw1 hI
      have HC0 := Aside0.mk hC; clear hC
      go_enter Tryd.func10, Tryd.ntmps10
      go_wp2_with (first
       | (go_at_call 12; refine (hP _).mono ?_; clear hP; rintro e w' ⟨rfl, hb⟩; have HC := Aside0.mk (below_step hW1 hb); clear hb)
       | (go_at_call 24; refine (HC0.out _ HC.out).mono ?_; rintro e w' ⟨rfl, hb⟩; have HD := Aside0.mk (below_then HC.out HC.out.size hb); clear hb))
      go_ret2
      exact ⟨rfl, HD.out⟩
    | true =>
      clear hw1
      have HC0 := Aside0.mk hC; clear hC
      have HI0 := Aside0.mk hI; clear hI
      have HS := Aside0.mk (Below.refl (w.heap.size + 1) (w.alloc (.cells #[.string s] 9)))
      have hsz : (w.alloc (.cells #[.string s] 9)).heap.size = w.heap.size + 1 := by simp
      have HSZ := Aside0.mk hsz; clear hsz
      have HW := Aside0.mk hW1; clear hW1
      go_enter Tryd.func10, Tryd.ntmps10
      go_wp2_with (first
       | (go_at_call 12; refine (hP _).mono ?_; clear hP; rintro e w' ⟨rfl, hb⟩; have HC := Aside0.mk (below_then HS.out (by rw [HSZ.out]; exact Nat.le_refl _) hb); clear hb)
       | (go_at_call 24; refine (HC0.out _ (HW.out.trans (HC.out.mono (by omega)))).mono ?_; rintro e w' ⟨rfl, hb⟩; have HD := Aside0.mk (below_then HC.out (by have := HC.out.size; rw [HSZ.out] at this; exact this) hb); clear hb HC)
       | (go_at_call 26; refine (HI0.out _ HD.out trivial trivial).mono ?_; rintro e w' ⟨⟨k, rfl, hk⟩, hb⟩; have HE := Aside0.mk (below_then HD.out (by have := HD.out.size; rw [HSZ.out] at this; exact this) hb); have HK := Aside0.mk hk; clear hb hk HD))
      all_goals
        go_ret2
        refine ⟨?_, HW.out.trans (HE.out.mono (by omega))⟩
        rw [HK.out]
        first | (rw [if_pos (by assumption)]; rfl) | (rw [if_neg (by omega)]; rfl)
end Go.Proofs.YteignlfpjmfleaaDoor.E
