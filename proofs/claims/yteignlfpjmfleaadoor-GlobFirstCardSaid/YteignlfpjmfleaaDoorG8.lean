/- glob.Match where the two belong together: the loop over the parts. -/
import Derived.Test.YteignlfpjmfleaaDoorG7
import Derived.Lib.Hide
set_option linter.unusedVariables false
set_option linter.unusedSimpArgs false
namespace Go.Proofs.YteignlfpjmfleaaDoor.E
open Go.RowKit Go.Lib Go.Shelf Go.Proofs.YteignlfpjmfleaaDoorW.PrintWords Go.Proofs.YteignlfpjmfleaaDoorW.PrintLast Go.Proofs.YteignlfpjmfleaaDoorW.PrintMore
attribute [local irreducible] G.split G.right
attribute [local go_sem] Oper.semAt_some
/-- The loop's two codes: the assignment to its left sides, its body. -/
def cR : Code → Code | .seq _ b => b | c => c
def cL : Code → Code | .seq a _ => a | c => c
def cB : Code → Code | .block _ c => c | c => c
def rA : Code → Code | .rangeFunc _ _ a _ => a | c => c
def rB : Code → Code | .rangeFunc _ _ _ b => b | c => c
def loopOf (f : Go.Func) : Code := cB (cR (cL (cR (cR (f.body.getD .skip)))))
def mTmps (p s : ByteArray) (c : Int) (Br Ba Bb : Nat) (x y : Value) : Array Value :=
  #[.string p, .string s, undef, undef, .pointer (some ⟨Br, 0, none⟩), undef, undef, .string p, .bool true, .bool false, .bool false, .string s, .bool true, .bool false, .bool false, .bool false, .string p, .int .i64 c, .string s, .int .i64 c, .bool false, .bool false, .string p, .string s, .func (.func 49) #[] #[.pointer (some ⟨Ba, 0, none⟩), .pointer (some ⟨Bb, 0, none⟩)], x, y, undef, undef, undef, undef]
def mRec (A B : Code) (fn : FuncId) (p s : ByteArray) (c : Int) (Br Ba Bb D : Nat) (st : LoopState) (pend : Option Code) : Loop :=
  { state := st, pending := pend, fn, tmps := mTmps p s c Br Ba Bb undef undef, params := #[25, 26], assign := A, body := B, defers := D }
/-- The result's cell holds res; the record stands so; the block of deferred calls is open and empty. -/
structure MAt (fn : FuncId) (p s : ByteArray) (c : Int) (Br Ba Bb l D : Nat) (res : Bool) (st : LoopState) (pend : Option Code) (W : World) : Prop where
  R : W.heap[Br]? = some (.cells #[.bool res] 4 (0, 0))
  L : W.heap[l]? = some (.loop (mRec (rA (loopOf Tryd.f13)) (rB (loopOf Tryd.f13)) fn p s c Br Ba Bb D st pend))
  K : W.heap[D]? = some (.deferred (some []))
theorem MAt.same {fn p s c Br Ba Bb l D res st pend} {W W' : World} (h : MAt fn p s c Br Ba Bb l D res st pend W) (e1 : W'.heap[Br]? = W.heap[Br]?) (e2 : W'.heap[l]? = W.heap[l]?) (e3 : W'.heap[D]? = W.heap[D]?) : MAt fn p s c Br Ba Bb l D res st pend W' :=
  ⟨e1.trans h.R, e2.trans h.L, e3.trans h.K⟩
theorem below_put {B : Nat} {a w : World} (h : Below B a w) {l : Nat} (hl : B ≤ l) (o : Obj) : Below B a (w.putObj l o) :=
  h.trans ⟨rfl, rfl, rfl, by simp [World.putObj], fun k hk => World.putObj_heap_other (by omega)⟩
def AllPm (l : List Pr) : Prop := ∀ y ∈ l, G.pm y.1 y.2 = true
def SomeNot (l : List Pr) : Prop := ∃ y ∈ l, G.pm y.1 y.2 = false
def MPost (p s : ByteArray) (c : Int) (Br Ba Bb l D n0 : Nat) (w : World) (fn : FuncId) (pre : List Pr) (W : World) (e : Ending) (W' : World) : Prop :=
  (e = .returned (.bool true) ∧ (AllPm pre ∧ MAt fn p s c Br Ba Bb l D false .ready none W' ∧ Below n0 w W') ∧ W'.heap[Ba]? = W.heap[Ba]? ∧ W'.heap[Bb]? = W.heap[Bb]?) ∨
  (e = .returned (.bool false) ∧ (SomeNot pre ∧ MAt fn p s c Br Ba Bb l D false .done (some .ret) W' ∧ Below n0 w W'))
theorem box_cell4 {W : World} {B : Nat} {v : Value} (h : W.heap[B]? = some (.cells #[v] 4 (0, 0))) : W.cell? ⟨B, 0, none⟩ = some v ∧ W.frozen? ⟨B, 0, none⟩ = false := by simp [World.cell?, World.frozen?, h]
theorem below_drewN {B : Nat} {a w : World} (h : Below B a w) (q : Nat) : Below B a (w.drewN q) := h.trans ⟨rfl, rfl, rfl, Nat.le_refl _, fun _ _ => rfl⟩
set_option maxRecDepth 100000 in
set_option maxHeartbeats 4000000 in
theorem mYield (m : Nat) (fn : FuncId) (p s : ByteArray) (hp : p.size < 4294967281) (hs : s.size < 4294967281) (c : Int) (Br Ba Bb l D n0 : Nat) (w : World) (h1 : Br ≠ l) (h2 : D ≠ l) (h3 : D ≠ Br) (h4 : Ba ≠ Br) (h5 : Bb ≠ Br) (h6 : Ba ≠ l) (h7 : Bb ≠ l) (h8 : n0 ≤ Br) (h9 : n0 ≤ l)
    (pre : List Pr) (x : Pr) (W : World) (hx1 : x.1.length ≤ p.size) (hx2 : x.2.length ≤ s.size) (hq : AllPm pre) (h : MAt fn p s c Br Ba Bb l D false .ready none W) (hB : Below n0 w W) :
    YieldAt Fence.wide m Tryd.prog l #[.string ⟨x.1.toArray⟩, .string ⟨x.2.toArray⟩] W (MPost p s c Br Ba Bb l D n0 w fn (pre ++ [x]) W) := by
  have hpm := fun W => part_any ⟨x.1.toArray⟩ ⟨x.2.toArray⟩ W (by simp [ByteArray.size]; omega) (by simp [ByteArray.size]; omega)
  simp only [List.toList_toArray] at hpm
  have hq2 : ∀ b, G.pm x.1 x.2 = b → (b = true → AllPm (pre ++ [x])) ∧ (b = false → SomeNot (pre ++ [x])) := by
    intro b hb
    refine ⟨fun e y hy => ?_, fun e => ⟨x, by simp, by rw [hb, e]⟩⟩
    rcases List.mem_append.1 hy with hy | hy
    · exact hq y hy
    · obtain rfl : y = x := by simpa using hy
      rw [hb, e]
  clear hq
  generalize hbe : G.pm x.1 x.2 = b at hpm hq2
  have hq3 := hq2 b rfl
  clear hq2 hbe
  refine ⟨fn, mTmps p s c Br Ba Bb (.string ⟨x.1.toArray⟩) (.string ⟨x.2.toArray⟩), rA (loopOf Tryd.f13), rB (loopOf Tryd.f13), by simpa [mRec, mTmps] using run_yield (P := Tryd.prog) (args := #[.string ⟨x.1.toArray⟩, .string ⟨x.2.toArray⟩]) h.L rfl, roundIn_of_wpIn trivial ?_⟩
  have hl : l < W.heap.size := (Array.getElem?_eq_some_iff.1 h.L).1
  have hbr := run_beginRound (P := Tryd.prog) h.L rfl
  obtain ⟨W2, hW2⟩ : ∃ W2, W.putObj l (.loop { mRec (rA (loopOf Tryd.f13)) (rB (loopOf Tryd.f13)) fn p s c Br Ba Bb D .ready none with state := .busy }) = W2 := ⟨_, rfl⟩
  rw [hW2] at hbr
  have hk : ∀ k, k ≠ l → W2.heap[k]? = W.heap[k]? := fun k hk => by rw [← hW2]; exact World.putObj_heap_other hk
  have hR2 := (hk Br h1).trans h.R
  have hK2 := (hk D h2).trans h.K
  have hL2 : W2.heap[l]? = some (.loop { mRec (rA (loopOf Tryd.f13)) (rB (loopOf Tryd.f13)) fn p s c Br Ba Bb D .ready none with state := .busy }) := by rw [← hW2]; exact World.putObj_heap_same hl
  have hB2 : Below n0 w W2 := by rw [← hW2]; exact below_put hB h9 _
  have hA2 := hk Ba h6
  have hC2 := hk Bb h7
  clear hW2 hk h hB
  have HF := Lib.hid (And.intro hR2 (And.intro hK2 (And.intro hL2 (And.intro hB2 (And.intro hA2 hC2)))))
  clear hR2 hK2 hL2 hB2 hA2 hC2
  dsimp only [loopOf, Tryd.f13, Option.getD, cR, cL, cB, rA, rB]
  unfold mTmps
  cases b with
  | true =>
    have hq4 := hq3.1 rfl
    clear hq3
    gi_wp2
    refine ⟨trivial, fun h => (by cases h), (CallsIn.inRound l (callsIn_wide.2 (hpm _))).mono ?_⟩
    rintro e w' ⟨rfl, q, rfl⟩
    gi_wp2
    obtain ⟨hR2, hK2, hL2, hB2, hA2, hC2⟩ := HF.out
    have hL3 : (W2.drewN q).heap[l]? = _ := hL2
    have hl3 := (Array.getElem?_eq_some_iff.1 hL3).1
    exact ⟨_, _, run_endRound none hL3, .inl ⟨rfl, ⟨hq4, ⟨(World.putObj_heap_other h1).trans hR2, World.putObj_heap_same hl3, (World.putObj_heap_other h2).trans hK2⟩, below_put (below_drewN hB2 q) h9 _⟩, (World.putObj_heap_other h6).trans hA2, (World.putObj_heap_other h7).trans hC2⟩⟩
  | false =>
    have hq4 := hq3.2 rfl
    clear hq3
    have hcr := box_cell4 HF.out.1
    gi_wp2
    refine ⟨trivial, fun h => (by cases h), (CallsIn.inRound l (callsIn_wide.2 (hpm _))).mono ?_⟩
    rintro e w' ⟨rfl, q, rfl⟩
    gi_wp2
    obtain ⟨hR2, hK2, hL2, hB2, hA2, hC2⟩ := HF.out
    have hL3 : ((W2.drewN q).setCell ⟨Br, 0, none⟩ (.bool false)).heap[l]? = _ := (Below.heap_setCell (W2.drewN q) ⟨Br, 0, none⟩ _ l (Ne.symm h1)).trans hL2
    have hl3 := (Array.getElem?_eq_some_iff.1 hL3).1
    have hR3 : Boxed ((W2.drewN q).setCell ⟨Br, 0, none⟩ (.bool false)) Br 4 (.bool false) := Boxed.set (.bool false) (show Boxed (W2.drewN q) Br 4 (.bool false) from hR2)
    exact ⟨_, _, run_endRound (some .ret) hL3, .inr ⟨rfl, hq4, ⟨(World.putObj_heap_other h1).trans hR3, World.putObj_heap_same hl3, (World.putObj_heap_other h2).trans ((Below.heap_setCell (W2.drewN q) ⟨Br, 0, none⟩ _ D h3).trans hK2)⟩, below_put ((below_drewN hB2 q).setCell (p := ⟨Br, 0, none⟩) h8 _) h9 _⟩⟩
def MOut (w : World) (b : Bool) (e : Ending) (w' : World) : Prop := e = .returned (.bool b) ∧ Below w.heap.size w w'
set_option maxRecDepth 100000 in
set_option maxHeartbeats 8000000 in
theorem Match_yes (p s : ByteArray) (w : World) (hp : p.size < 4294967281) (hs : s.size < 4294967281) (h1 : G.right true p.data.toList = true) (h2 : G.right false s.data.toList = true) (h3 : p.data.toList.count 47 = s.data.toList.count 47) :
    Calls Tryd.prog 13 #[.string p, .string s] w (MOut w ((prs p.data.toList s.data.toList).all (fun x => G.pm x.1 x.2))) := by
  have hR := fun W => Right_any p W hp
  have hP := fun W => Path_any s W hs
  have hC1 := fun W => Tryd.strings_Count_one p 47 W
  have hC2 := fun W => Tryd.strings_Count_one s 47 W
  have hPa := fun W => parts_any p s W
  simp only [Lib.countByte] at hC1 hC2
  rw [h1] at hR
  rw [h2] at hP
  rw [← h3] at hC2
  generalize hc : p.data.toList.count 47 = c at hC1 hC2
  have HB := Aside0.mk (Res.start w)
  clear h1 h2 h3 hc
  generalize hr : (prs p.data.toList s.data.toList).all (fun x => G.pm x.1 x.2) = r
  have HR := Lib.hid hr
  clear hr
  refine (callsIn_wide (n := 3)).1 ?_
  refine callsIn_of_wp_marks Tryd.func13 rfl trivial ?_ rfl
  simp only [Tryd.ntmps13, List.size_toArray, List.length_cons, List.length_nil, Nat.reduceAdd, Nat.reduceSub, Array.replicate_succ, Array.replicate_zero, List.push_toArray, List.append_toArray, List.nil_append, List.cons_append]
  gi_wp2
  refine ⟨trivial, (callsIn_wide.2 (hR _)).mono ?_⟩
  rintro e w' ⟨rfl, hb⟩
  have HC := Aside0.mk (HB.out.step hb); clear hb HB
  gi_wp2
  refine ⟨trivial, (callsIn_wide.2 (hP _)).mono ?_⟩
  rintro e w1 ⟨rfl, hb⟩
  have HD := Aside0.mk (HC.out.step hb); clear hb HC
  gi_wp2
  refine ⟨trivial, (callsIn_wide.2 (hC1 _)).mono ?_⟩
  rintro e w' ⟨rfl, rfl⟩
  gi_wp2
  refine ⟨trivial, (callsIn_wide.2 (hC2 _)).mono ?_⟩
  rintro e w' ⟨rfl, rfl⟩
  gi_wp2
  refine ⟨trivial, (callsIn_wide.2 (hPa _)).mono ?_⟩
  rintro e w' ⟨rfl, rfl⟩
  gi_wp2
  refine wpIn_rangeFunc ?_
  intro fn hfn
  have hRb := HD.out.boxed
  have hRl := HD.out.lt
  have hRB := HD.out.below
  clear hR hP hC1 hC2 hPa HD
  obtain ⟨W0, hW0⟩ : ∃ W0, (w'.alloc (.cells #[.string p] 9)).alloc (.cells #[.string s] 9) = W0 := ⟨_, rfl⟩
  have hs0 : W0.heap.size = w'.heap.size + 2 := by rw [← hW0]; simp
  have hR0 : W0.heap[w.heap.size]? = some (.cells #[.bool false] 4 (0, 0)) := by
    rw [← hW0]; exact ((Below.heap_alloc _ _ _ (by simp; omega)).trans (Below.heap_alloc _ _ _ hRl)).trans hRb
  have hA0 : W0.heap[w'.heap.size]? = some (.cells #[.string p] 9 (0, 0)) := by
    rw [← hW0]; exact (Below.heap_alloc _ _ _ (by simp)).trans (World.alloc_heap_new w' _)
  have hB0 : W0.heap[w'.heap.size + 1]? = some (.cells #[.string s] 9 (0, 0)) := by
    rw [← hW0]; have := World.alloc_heap_new (w'.alloc (.cells #[.string p] 9)) (.cells #[.string s] 9); rwa [World.size_alloc] at this
  have hBe0 : Below w.heap.size w W0 := by rw [← hW0]; exact (hRB.alloc (by omega) _).alloc (by simp; omega) _
  rw [hW0]
  clear hW0 hRb hRB
  obtain ⟨Ba, hBa⟩ : ∃ Ba, Ba = w'.heap.size := ⟨_, rfl⟩
  obtain ⟨Bb, hBb⟩ : ∃ Bb, Bb = w'.heap.size + 1 := ⟨_, rfl⟩
  rw [← hBa] at hA0 ⊢
  rw [← hBb] at hB0
  have hbb : Ba + 1 = Bb := by omega
  simp only [hbb]
  obtain ⟨Br, hBr⟩ : ∃ Br, Br = w.heap.size := ⟨_, rfl⟩
  rw [← hBr] at hR0 ⊢
  obtain ⟨W1, hW1⟩ : ∃ W1, (W0.alloc (.deferred (some []))).alloc (.loop (mRec (rA (loopOf Tryd.f13)) (rB (loopOf Tryd.f13)) fn p s (c : Int) Br Ba Bb W0.heap.size .ready none)) = W1 := ⟨_, rfl⟩
  have hold : ∀ k, k < W0.heap.size → W1.heap[k]? = W0.heap[k]? := fun k hk => by
    rw [← hW1]; exact (Below.heap_alloc _ _ k (by simp; omega)).trans (Below.heap_alloc _ _ k hk)
  have hBe1 : Below w.heap.size w W1 := by rw [← hW1]; exact (hBe0.alloc (by omega) _).alloc (by simp; omega) _
  have hM : MAt fn p s (c : Int) Br Ba Bb (W0.heap.size + 1) W0.heap.size false .ready none W1 :=
    ⟨(hold Br (by omega)).trans hR0,
     by rw [← hW1]; have := World.alloc_heap_new (W0.alloc (.deferred (some []))) (.loop (mRec (rA (loopOf Tryd.f13)) (rB (loopOf Tryd.f13)) fn p s (c : Int) Br Ba Bb W0.heap.size .ready none)); rwa [World.size_alloc] at this,
     by rw [← hW1]; exact (Below.heap_alloc _ _ _ (by simp)).trans (World.alloc_heap_new W0 _)⟩
  have hA1 := (hold Ba (by omega)).trans hA0
  have hB1 := (hold Bb (by omega)).trans hB0
  obtain ⟨D, hD⟩ : ∃ D, D = W0.heap.size := ⟨_, rfl⟩
  have hen : (Instr.enterLoop fn (mTmps p s (c : Int) Br Ba Bb undef undef) #[25, 26] (rA (loopOf Tryd.f13)) (rB (loopOf Tryd.f13)) none).run Tryd.prog W0 = .ok (D + 1, [{ target := .collected D, args := #[] }]) W1 := by
    rw [← hW1, hD]; exact run_enterLoop_outer fn _ _ _ _
  rw [← hD] at hM
  have hDB : w.heap.size ≤ Br ∧ Br < Ba ∧ Ba < Bb ∧ Bb < D := by omega
  clear hW1 hold hBe0 hA0 hB0 hR0
  clear hbb hBr hBa hBb hD hs0 hRl
  have HL := Lib.hid (And.intro hBe1 (And.intro hA1 (And.intro hB1 (And.intro hM hen))))
  clear hBe1 hA1 hB1 hM hen
  refine ⟨D + 1, [{ target := .collected D, args := #[] }], W1, { target := .fn (.func 49) #[.pointer (some ⟨Ba, 0, none⟩), .pointer (some ⟨Bb, 0, none⟩)], args := #[.func (.yield (D + 1)) #[] #[]] }, W1, 49,
    #[.func (.yield (D + 1)) #[] #[], .pointer (some ⟨Ba, 0, none⟩), .pointer (some ⟨Bb, 0, none⟩)], W1, HL.out.2.2.2.2, ?_, ?_, ?_, fun _ => (by decide), ?_⟩
  · simp [resolve, go_sem]
  · intro f' hf'; trivial
  · simp [invoke, go_sem]
  · refine (iter_in 2 (D + 1) Ba Bb (by omega) p s hp hs
      (fun pre W => AllPm pre ∧ MAt fn p s (c : Int) Br Ba Bb (D + 1) D false .ready none W ∧ Below w.heap.size w W)
      (fun pre W => SomeNot pre ∧ MAt fn p s (c : Int) Br Ba Bb (D + 1) D false .done (some .ret) W ∧ Below w.heap.size w W)
      (fun pre W q h => ⟨h.1, h.2.1.same rfl rfl rfl, below_drewN h.2.2 q⟩)
      (fun pre W v h => ⟨h.1, h.2.1.same (Below.heap_setCell _ _ _ _ (by show Br ≠ Ba; omega)) (Below.heap_setCell _ _ _ _ (by show D + 1 ≠ Ba; omega)) (Below.heap_setCell _ _ _ _ (by show D ≠ Ba; omega)), h.2.2.setCell (p := ⟨Ba, 0, none⟩) (by show w.heap.size ≤ Ba; omega) _⟩)
      (fun pre W v h => ⟨h.1, h.2.1.same (Below.heap_setCell _ _ _ _ (by show Br ≠ Bb; omega)) (Below.heap_setCell _ _ _ _ (by show D + 1 ≠ Bb; omega)) (Below.heap_setCell _ _ _ _ (by show D ≠ Bb; omega)), h.2.2.setCell (p := ⟨Bb, 0, none⟩) (by show w.heap.size ≤ Bb; omega) _⟩)
      (fun pre x W h hx1 hx2 => mYield (2 - 1) fn p s hp hs (c : Int) Br Ba Bb (D + 1) D w.heap.size w (by omega) (by omega) (by omega) (by omega) (by omega) (by omega) (by omega) (by omega) (by omega) pre x W hx1 hx2 h.1 h.2.1 h.2.2)
      W1 HL.out.2.1 HL.out.2.2.1 ⟨fun y hy => (by cases hy), HL.out.2.2.2.1, HL.out.1⟩).mono ?_
    clear HL
    rintro e W2 ⟨⟨v, rfl⟩, (⟨hall, h2, hBe2⟩ | ⟨pre, hpre, hnot, h2, hBe2⟩)⟩
    · have hres : (prs p.data.toList s.data.toList).all (fun x => G.pm x.1 x.2) = true := List.all_eq_true.2 hall
      have hend := run_endLoop (P := Tryd.prog) h2.L (by simp [mRec])
      obtain ⟨W3, hW3⟩ : ∃ W3, W2.putObj (D + 1) (.loop { mRec (rA (loopOf Tryd.f13)) (rB (loopOf Tryd.f13)) fn p s (c : Int) Br Ba Bb D .ready none with state := .exhausted }) = W3 := ⟨_, rfl⟩
      rw [hW3] at hend
      have hR3 : Boxed W3 Br 4 (.bool false) := by rw [← hW3]; exact (World.putObj_heap_other (by omega)).trans h2.R
      have hK3 : W3.heap[D]? = some (.deferred (some [])) := by rw [← hW3]; exact (World.putObj_heap_other (by omega)).trans h2.K
      have hBe3 : Below w.heap.size w W3 := by rw [← hW3]; exact below_put hBe2 (by omega) _
      clear hW3 h2 hBe2
      have hcr := hR3.cell
      have hfr := hR3.frozen
      refine ⟨none, W3, hend, ?_⟩
      have hBe4 : Below w.heap.size w (W3.setCell ⟨Br, 0, none⟩ (.bool true)) := hBe3.setCell (p := ⟨Br, 0, none⟩) hDB.1 _
      have hK4 : (W3.setCell ⟨Br, 0, none⟩ (.bool true)).heap[D]? = some (.deferred (some [])) := (Below.heap_setCell W3 ⟨Br, 0, none⟩ _ _ (by show D ≠ Br; omega)).trans hK3
      have hR4 : Boxed (W3.setCell ⟨Br, 0, none⟩ (.bool true)) Br 4 (.bool true) := Boxed.set (.bool true) hR3
      have HL := Lib.hid (And.intro hBe4 (And.intro hK4 hR4))
      clear hBe4 hK4 hR4 hend hR3 hK3 hBe3
      have HS := Lib.hid hres
      clear hres
      gi_wp2
      obtain ⟨hBe4, hK4, hR4⟩ := HL.out
      refine ⟨by simp, .inl ⟨_, _, rfl, run_takeDeferred hK4, ?_⟩⟩
      have hR5 : Boxed ((W3.setCell ⟨Br, 0, none⟩ (.bool true)).putObj D (.deferred none)) Br 4 (.bool true) := (World.putObj_heap_other (k := Br) (by omega)).trans hR4
      have hc5 := hR5.cell
      refine ⟨.bool true, ?_, by rw [← HR.out, HS.out], below_put hBe4 (by omega) _⟩
      simp [results, Tryd.f13, go_sem, hc5]
    · have hres : (prs p.data.toList s.data.toList).all (fun x => G.pm x.1 x.2) = false := by
        obtain ⟨y, hy, hn⟩ := hnot
        refine Bool.eq_false_iff.2 fun ha => ?_
        have := List.all_eq_true.1 ha y (hpre.subset hy)
        simp [hn] at this
      have hend := run_endLoop (P := Tryd.prog) h2.L (by simp [mRec])
      obtain ⟨W3, hW3⟩ : ∃ W3, W2.putObj (D + 1) (.loop { mRec (rA (loopOf Tryd.f13)) (rB (loopOf Tryd.f13)) fn p s (c : Int) Br Ba Bb D .done (some .ret) with state := .exhausted }) = W3 := ⟨_, rfl⟩
      rw [hW3] at hend
      have hR3 : Boxed W3 Br 4 (.bool false) := by rw [← hW3]; exact (World.putObj_heap_other (by omega)).trans h2.R
      have hK3 : W3.heap[D]? = some (.deferred (some [])) := by rw [← hW3]; exact (World.putObj_heap_other (by omega)).trans h2.K
      have hBe3 : Below w.heap.size w W3 := by rw [← hW3]; exact below_put hBe2 (by omega) _
      clear hW3 h2 hBe2
      refine ⟨some .ret, W3, hend, ?_⟩
      have HL := Lib.hid (And.intro hBe3 (And.intro hK3 hR3))
      clear hBe3 hend hR3 hK3
      have HS := Lib.hid hres
      clear hres hnot hpre
      gi_wp2
      obtain ⟨hBe4, hK4, hR4⟩ := HL.out
      refine ⟨by simp, .inl ⟨_, _, rfl, run_takeDeferred hK4, ?_⟩⟩
      have hR5 : Boxed (W3.putObj D (.deferred none)) Br 4 (.bool false) := (World.putObj_heap_other (k := Br) (by omega)).trans hR4
      have hc5 := hR5.cell
      refine ⟨.bool false, ?_, by rw [← HR.out, HS.out], below_put hBe4 (by omega) _⟩
      simp [results, Tryd.f13, go_sem, hc5]
end Go.Proofs.YteignlfpjmfleaaDoor.E
