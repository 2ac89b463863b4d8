/- Arguments that are rows of structs, told by the printed kinds. -/
import Derived.Test.YtgcflmhlegagbaaGreatDoorQv
import Derived.SliceStrings
import Derived.SizedLaws
import Derived.Test.YtgcflmhlegagbaaGreatDoorQ4
import Derived.Test.YtgcflmhlegagbaaGreatDoorRows
import Derived.Lib.LaidU8T
import Derived.Lib.LaidTab
import Derived.Deep.DeepLaidRun
section
set_option linter.unusedVariables false
namespace Go.Proofs.YtgcflmhlegagbaaGreatDoor.O
open Go.ChangeShapes Go.WideShapes Go.Proofs.YtgcflmhlegagbaaGreatDoorW.PrintWords
open X (S25 k25 S28 k28 S53 k53 S70 k70 S46 k46 S48 k48)
/-- What is read of a type is of a kind. -/
structure Opens {α : Type} (d : Kd α) (t : TypeId) : Prop where
  size : Tryz.prog.cellsOf t = d.sz
  opens : ∀ {H : Type} {enc : TypeId × Value → H} {w : World} {base : Nat} {spare : Nat → Bool} {held : Bool} {fuel : Nat} {cs : List Value} {x : DataW H × List MemPlace}, DataW.trod enc Tryz.prog w base spare held fuel t cs = some x → ∃ a, d.K w a cs
theorem opString : Opens Kd.string 9 := ⟨by kernel_rfl, fun h => by
  obtain ⟨s, rfl, _, _⟩ := DataW.trod_string Tryz.underlying9 h
  exact ⟨s, rfl⟩⟩
theorem opInt : Opens (Kd.int .i64) 3 := ⟨by kernel_rfl, fun h => by
  obtain ⟨s, rfl, _, _⟩ := DataW.trod_int Tryz.underlying3 h
  exact ⟨s, rfl⟩⟩
theorem opBool : Opens Kd.bool 4 := ⟨by kernel_rfl, fun h => by
  obtain ⟨s, rfl, _⟩ := DataW.trod_bool Tryz.underlying4 h
  exact ⟨s, rfl⟩⟩
theorem cells_each {w : World} {base : Nat} {a : Addr} {n : Nat} {cs : List Value} (h : w.cells? base a n = some cs) : cs.length = n ∧ ∀ i u, cs[i]? = some u → w.cell? (a.add i) = some u := by
  unfold World.cells? at h
  split at h
  · have hl : cs.length = n := by simpa using mapM_some_length h
    refine ⟨hl, fun i u hu => ?_⟩
    have hi : i < n := by have := (List.getElem?_eq_some_iff.1 hu).1; omega
    have := mapM_some_get h i i (by simp [hi])
    rw [this]; exact hu
  · cases h
theorem opSlice {α : Type} {d : Kd α} {e t : TypeId} (k : Nat) (h : Opens d e) (ht : Tryz.prog.underlying t = some (.slice e)) (hc : Tryz.prog.cellsOf t = 1) : Opens (Kd.slice k d) t := ⟨hc, fun {H enc w base spare held fuel cs x} hx => by
  rcases DataW.trod_slice ht hx with ⟨rfl, _⟩ | ⟨a, len, cap, elems, rest, n, _, rfl, _, _, hlc, hcm, hel, hget, _, _⟩
  · exact ⟨[], none, 0, rfl, Nat.le_refl _, rfl, Nat.zero_le _, fun h => absurd h (Nat.lt_irrefl 0)⟩
  · have hch : ∀ i : Fin len, ∃ y : α, ∃ c : List Value, c.length = d.sz ∧ d.K w y c ∧ ∀ j u, c[j]? = some u → w.cell? ((a.add (i.1 * d.sz)).add j) = some u := fun i => by
      have hi := hget i.1 i.2
      have hlt : i.1 < elems.length := by rw [hel]; exact i.2
      rw [List.getElem?_eq_getElem hlt, h.size] at hi
      obtain ⟨c, h1, h2⟩ := Option.bind_eq_some_iff.1 hi
      obtain ⟨hl, hcell⟩ := cells_each h1
      obtain ⟨y, hy⟩ := h.opens h2
      exact ⟨y, c, hl, hy, hcell⟩
    refine ⟨List.ofFn (fun i : Fin len => Classical.choose (hch i)), some a, cap, by rw [List.length_ofFn], by rw [List.length_ofFn]; exact hlc, rfl, by rw [List.length_ofFn]; have := hcm; unfold maxLen at this; omega, fun _ => ⟨a, rfl, fun j p hj => ?_⟩⟩
    have hlt : j < len := by
      have := (List.getElem?_eq_some_iff.1 hj).1
      rwa [List.length_ofFn] at this
    have ep : p = Classical.choose (hch ⟨j, hlt⟩) := by
      rw [List.getElem?_ofFn, dif_pos hlt] at hj
      exact (Option.some.inj hj).symm
    obtain ⟨c, h1, h2, h3⟩ := Classical.choose_spec (hch ⟨j, hlt⟩)
    rw [← ep] at h2
    refine ⟨c, h1, h2, fun i u hu => ?_⟩
    have := h3 i u hu
    rwa [add_add] at this⟩
set_option maxRecDepth 100000 in
theorem op70 : Opens k70 70 := ⟨by kernel_rfl, fun {H enc w base spare held fuel cs x} h => by
  obtain ⟨xs, n, _, _, hl, hlen, hf⟩ := DataW.trod_struct Tryz.underlying70 h
  have hl' : cs.length = 2 := hl.trans (by kernel_rfl)
  obtain ⟨c0, c1, rfl⟩ : ∃ c0 c1, cs = [c0, c1] := by
    match cs, hl' with
    | [c0, c1], _ => exact ⟨c0, c1, rfl⟩
  have hx : ∀ i, i < 2 → ∃ y, xs[i]? = some y := fun i hi => ⟨xs[i]'(by rw [hlen]; exact hi), List.getElem?_eq_getElem _⟩
  have h0 : DataW.trod enc Tryz.prog w base spare held n 9 (([c0, c1].drop 0).take (Tryz.prog.cellsOf 9)) = xs[0]? := hf 0 _ rfl
  obtain ⟨y0, e0⟩ := hx 0 (by decide)
  rw [e0, show Tryz.prog.cellsOf 9 = 1 from by kernel_rfl] at h0
  obtain ⟨a0, k0⟩ := opString.opens h0
  have h1 : DataW.trod enc Tryz.prog w base spare held n 9 (([c0, c1].drop 1).take (Tryz.prog.cellsOf 9)) = xs[1]? := hf 1 _ rfl
  obtain ⟨y1, e1⟩ := hx 1 (by decide)
  rw [e1, show Tryz.prog.cellsOf 9 = 1 from by kernel_rfl] at h1
  obtain ⟨a1, k1⟩ := opString.opens h1
  exact ⟨⟨a0, a1⟩, ⟨[c0], [c1], rfl, k0, k1⟩⟩⟩
set_option maxRecDepth 100000 in
theorem op25 : Opens k25 25 := ⟨by kernel_rfl, fun {H enc w base spare held fuel cs x} h => by
  obtain ⟨xs, n, _, _, hl, hlen, hf⟩ := DataW.trod_struct Tryz.underlying25 h
  have hl' : cs.length = 4 := hl.trans (by kernel_rfl)
  obtain ⟨c0, c1, c2, c3, rfl⟩ : ∃ c0 c1 c2 c3, cs = [c0, c1, c2, c3] := by
    match cs, hl' with
    | [c0, c1, c2, c3], _ => exact ⟨c0, c1, c2, c3, rfl⟩
  have hx : ∀ i, i < 4 → ∃ y, xs[i]? = some y := fun i hi => ⟨xs[i]'(by rw [hlen]; exact hi), List.getElem?_eq_getElem _⟩
  have h0 : DataW.trod enc Tryz.prog w base spare held n 9 (([c0, c1, c2, c3].drop 0).take (Tryz.prog.cellsOf 9)) = xs[0]? := hf 0 _ rfl
  obtain ⟨y0, e0⟩ := hx 0 (by decide)
  rw [e0, show Tryz.prog.cellsOf 9 = 1 from by kernel_rfl] at h0
  obtain ⟨a0, k0⟩ := opString.opens h0
  have h1 : DataW.trod enc Tryz.prog w base spare held n 3 (([c0, c1, c2, c3].drop 1).take (Tryz.prog.cellsOf 3)) = xs[1]? := hf 1 _ rfl
  obtain ⟨y1, e1⟩ := hx 1 (by decide)
  rw [e1, show Tryz.prog.cellsOf 3 = 1 from by kernel_rfl] at h1
  obtain ⟨a1, k1⟩ := opInt.opens h1
  have h2 : DataW.trod enc Tryz.prog w base spare held n 3 (([c0, c1, c2, c3].drop 2).take (Tryz.prog.cellsOf 3)) = xs[2]? := hf 2 _ rfl
  obtain ⟨y2, e2⟩ := hx 2 (by decide)
  rw [e2, show Tryz.prog.cellsOf 3 = 1 from by kernel_rfl] at h2
  obtain ⟨a2, k2⟩ := opInt.opens h2
  have h3 : DataW.trod enc Tryz.prog w base spare held n 9 (([c0, c1, c2, c3].drop 3).take (Tryz.prog.cellsOf 9)) = xs[3]? := hf 3 _ rfl
  obtain ⟨y3, e3⟩ := hx 3 (by decide)
  rw [e3, show Tryz.prog.cellsOf 9 = 1 from by kernel_rfl] at h3
  obtain ⟨a3, k3⟩ := opString.opens h3
  exact ⟨⟨a0, a1, a2, a3⟩, ⟨[c0], [c1, c2, c3], rfl, k0, ⟨[c1], [c2, c3], rfl, k1, ⟨[c2], [c3], rfl, k2, k3⟩⟩⟩⟩⟩
set_option maxRecDepth 100000 in
theorem op28 : Opens k28 28 := ⟨by kernel_rfl, fun {H enc w base spare held fuel cs x} h => by
  obtain ⟨xs, n, _, _, hl, hlen, hf⟩ := DataW.trod_struct Tryz.underlying28 h
  have hl' : cs.length = 2 := hl.trans (by kernel_rfl)
  obtain ⟨c0, c1, rfl⟩ : ∃ c0 c1, cs = [c0, c1] := by
    match cs, hl' with
    | [c0, c1], _ => exact ⟨c0, c1, rfl⟩
  have hx : ∀ i, i < 2 → ∃ y, xs[i]? = some y := fun i hi => ⟨xs[i]'(by rw [hlen]; exact hi), List.getElem?_eq_getElem _⟩
  have h0 : DataW.trod enc Tryz.prog w base spare held n 26 (([c0, c1].drop 0).take (Tryz.prog.cellsOf 26)) = xs[0]? := hf 0 _ rfl
  obtain ⟨y0, e0⟩ := hx 0 (by decide)
  rw [e0, show Tryz.prog.cellsOf 26 = 1 from by kernel_rfl] at h0
  obtain ⟨a0, k0⟩ := (opSlice 9 opString Tryz.underlying26 (by kernel_rfl)).opens h0
  have h1 : DataW.trod enc Tryz.prog w base spare held n 3 (([c0, c1].drop 1).take (Tryz.prog.cellsOf 3)) = xs[1]? := hf 1 _ rfl
  obtain ⟨y1, e1⟩ := hx 1 (by decide)
  rw [e1, show Tryz.prog.cellsOf 3 = 1 from by kernel_rfl] at h1
  obtain ⟨a1, k1⟩ := opInt.opens h1
  exact ⟨⟨a0, a1⟩, ⟨[c0], [c1], rfl, k0, k1⟩⟩⟩
set_option maxRecDepth 100000 in
theorem op53 : Opens k53 53 := ⟨by kernel_rfl, fun {H enc w base spare held fuel cs x} h => by
  obtain ⟨xs, n, _, _, hl, hlen, hf⟩ := DataW.trod_struct Tryz.underlying53 h
  have hl' : cs.length = 5 := hl.trans (by kernel_rfl)
  obtain ⟨c0, c1, c2, c3, c4, rfl⟩ : ∃ c0 c1 c2 c3 c4, cs = [c0, c1, c2, c3, c4] := by
    match cs, hl' with
    | [c0, c1, c2, c3, c4], _ => exact ⟨c0, c1, c2, c3, c4, rfl⟩
  have hx : ∀ i, i < 4 → ∃ y, xs[i]? = some y := fun i hi => ⟨xs[i]'(by rw [hlen]; exact hi), List.getElem?_eq_getElem _⟩
  have h0 : DataW.trod enc Tryz.prog w base spare held n 9 (([c0, c1, c2, c3, c4].drop 0).take (Tryz.prog.cellsOf 9)) = xs[0]? := hf 0 _ rfl
  obtain ⟨y0, e0⟩ := hx 0 (by decide)
  rw [e0, show Tryz.prog.cellsOf 9 = 1 from by kernel_rfl] at h0
  obtain ⟨a0, k0⟩ := opString.opens h0
  have h1 : DataW.trod enc Tryz.prog w base spare held n 28 (([c0, c1, c2, c3, c4].drop 1).take (Tryz.prog.cellsOf 28)) = xs[1]? := hf 1 _ rfl
  obtain ⟨y1, e1⟩ := hx 1 (by decide)
  rw [e1, show Tryz.prog.cellsOf 28 = 2 from by kernel_rfl] at h1
  obtain ⟨a1, k1⟩ := op28.opens h1
  have h2 : DataW.trod enc Tryz.prog w base spare held n 26 (([c0, c1, c2, c3, c4].drop 3).take (Tryz.prog.cellsOf 26)) = xs[2]? := hf 2 _ rfl
  obtain ⟨y2, e2⟩ := hx 2 (by decide)
  rw [e2, show Tryz.prog.cellsOf 26 = 1 from by kernel_rfl] at h2
  obtain ⟨a2, k2⟩ := (opSlice 9 opString Tryz.underlying26 (by kernel_rfl)).opens h2
  have h3 : DataW.trod enc Tryz.prog w base spare held n 4 (([c0, c1, c2, c3, c4].drop 4).take (Tryz.prog.cellsOf 4)) = xs[3]? := hf 3 _ rfl
  obtain ⟨y3, e3⟩ := hx 3 (by decide)
  rw [e3, show Tryz.prog.cellsOf 4 = 1 from by kernel_rfl] at h3
  obtain ⟨a3, k3⟩ := opBool.opens h3
  exact ⟨⟨a0, a1, a2, a3⟩, ⟨[c0], [c1, c2, c3, c4], rfl, k0, ⟨[c1, c2], [c3, c4], rfl, k1, ⟨[c3], [c4], rfl, k2, k3⟩⟩⟩⟩⟩
set_option maxRecDepth 100000 in
theorem op46 : Opens k46 46 := ⟨by kernel_rfl, fun {H enc w base spare held fuel cs x} h => by
  obtain ⟨xs, n, _, _, hl, hlen, hf⟩ := DataW.trod_struct Tryz.underlying46 h
  have hl' : cs.length = 8 := hl.trans (by kernel_rfl)
  obtain ⟨c0, c1, c2, c3, c4, c5, c6, c7, rfl⟩ : ∃ c0 c1 c2 c3 c4 c5 c6 c7, cs = [c0, c1, c2, c3, c4, c5, c6, c7] := by
    match cs, hl' with
    | [c0, c1, c2, c3, c4, c5, c6, c7], _ => exact ⟨c0, c1, c2, c3, c4, c5, c6, c7, rfl⟩
  have hx : ∀ i, i < 8 → ∃ y, xs[i]? = some y := fun i hi => ⟨xs[i]'(by rw [hlen]; exact hi), List.getElem?_eq_getElem _⟩
  have h0 : DataW.trod enc Tryz.prog w base spare held n 3 (([c0, c1, c2, c3, c4, c5, c6, c7].drop 0).take (Tryz.prog.cellsOf 3)) = xs[0]? := hf 0 _ rfl
  obtain ⟨y0, e0⟩ := hx 0 (by decide)
  rw [e0, show Tryz.prog.cellsOf 3 = 1 from by kernel_rfl] at h0
  obtain ⟨a0, k0⟩ := opInt.opens h0
  have h1 : DataW.trod enc Tryz.prog w base spare held n 3 (([c0, c1, c2, c3, c4, c5, c6, c7].drop 1).take (Tryz.prog.cellsOf 3)) = xs[1]? := hf 1 _ rfl
  obtain ⟨y1, e1⟩ := hx 1 (by decide)
  rw [e1, show Tryz.prog.cellsOf 3 = 1 from by kernel_rfl] at h1
  obtain ⟨a1, k1⟩ := opInt.opens h1
  have h2 : DataW.trod enc Tryz.prog w base spare held n 3 (([c0, c1, c2, c3, c4, c5, c6, c7].drop 2).take (Tryz.prog.cellsOf 3)) = xs[2]? := hf 2 _ rfl
  obtain ⟨y2, e2⟩ := hx 2 (by decide)
  rw [e2, show Tryz.prog.cellsOf 3 = 1 from by kernel_rfl] at h2
  obtain ⟨a2, k2⟩ := opInt.opens h2
  have h3 : DataW.trod enc Tryz.prog w base spare held n 29 (([c0, c1, c2, c3, c4, c5, c6, c7].drop 3).take (Tryz.prog.cellsOf 29)) = xs[3]? := hf 3 _ rfl
  obtain ⟨y3, e3⟩ := hx 3 (by decide)
  rw [e3, show Tryz.prog.cellsOf 29 = 1 from by kernel_rfl] at h3
  obtain ⟨a3, k3⟩ := (opSlice 70 op70 Tryz.underlying29 (by kernel_rfl)).opens h3
  have h4 : DataW.trod enc Tryz.prog w base spare held n 42 (([c0, c1, c2, c3, c4, c5, c6, c7].drop 4).take (Tryz.prog.cellsOf 42)) = xs[4]? := hf 4 _ rfl
  obtain ⟨y4, e4⟩ := hx 4 (by decide)
  rw [e4, show Tryz.prog.cellsOf 42 = 1 from by kernel_rfl] at h4
  obtain ⟨a4, k4⟩ := (opSlice 28 op28 Tryz.underlying42 (by kernel_rfl)).opens h4
  have h5 : DataW.trod enc Tryz.prog w base spare held n 9 (([c0, c1, c2, c3, c4, c5, c6, c7].drop 5).take (Tryz.prog.cellsOf 9)) = xs[5]? := hf 5 _ rfl
  obtain ⟨y5, e5⟩ := hx 5 (by decide)
  rw [e5, show Tryz.prog.cellsOf 9 = 1 from by kernel_rfl] at h5
  obtain ⟨a5, k5⟩ := opString.opens h5
  have h6 : DataW.trod enc Tryz.prog w base spare held n 43 (([c0, c1, c2, c3, c4, c5, c6, c7].drop 6).take (Tryz.prog.cellsOf 43)) = xs[6]? := hf 6 _ rfl
  obtain ⟨y6, e6⟩ := hx 6 (by decide)
  rw [e6, show Tryz.prog.cellsOf 43 = 1 from by kernel_rfl] at h6
  obtain ⟨a6, k6⟩ := (opSlice 25 op25 Tryz.underlying43 (by kernel_rfl)).opens h6
  have h7 : DataW.trod enc Tryz.prog w base spare held n 44 (([c0, c1, c2, c3, c4, c5, c6, c7].drop 7).take (Tryz.prog.cellsOf 44)) = xs[7]? := hf 7 _ rfl
  obtain ⟨y7, e7⟩ := hx 7 (by decide)
  rw [e7, show Tryz.prog.cellsOf 44 = 1 from by kernel_rfl] at h7
  obtain ⟨a7, k7⟩ := (opSlice 53 op53 Tryz.underlying44 (by kernel_rfl)).opens h7
  exact ⟨⟨a0, a1, a2, a3, a4, a5, a6, a7⟩, ⟨[c0], [c1, c2, c3, c4, c5, c6, c7], rfl, k0, ⟨[c1], [c2, c3, c4, c5, c6, c7], rfl, k1, ⟨[c2], [c3, c4, c5, c6, c7], rfl, k2, ⟨[c3], [c4, c5, c6, c7], rfl, k3, ⟨[c4], [c5, c6, c7], rfl, k4, ⟨[c5], [c6, c7], rfl, k5, ⟨[c6], [c7], rfl, k6, k7⟩⟩⟩⟩⟩⟩⟩⟩⟩
set_option maxRecDepth 100000 in
theorem op48 : Opens k48 48 := ⟨by kernel_rfl, fun {H enc w base spare held fuel cs x} h => by
  obtain ⟨xs, n, _, _, hl, hlen, hf⟩ := DataW.trod_struct Tryz.underlying48 h
  have hl' : cs.length = 9 := hl.trans (by kernel_rfl)
  obtain ⟨c0, c1, c2, c3, c4, c5, c6, c7, c8, rfl⟩ : ∃ c0 c1 c2 c3 c4 c5 c6 c7 c8, cs = [c0, c1, c2, c3, c4, c5, c6, c7, c8] := by
    match cs, hl' with
    | [c0, c1, c2, c3, c4, c5, c6, c7, c8], _ => exact ⟨c0, c1, c2, c3, c4, c5, c6, c7, c8, rfl⟩
  have hx : ∀ i, i < 2 → ∃ y, xs[i]? = some y := fun i hi => ⟨xs[i]'(by rw [hlen]; exact hi), List.getElem?_eq_getElem _⟩
  have h0 : DataW.trod enc Tryz.prog w base spare held n 9 (([c0, c1, c2, c3, c4, c5, c6, c7, c8].drop 0).take (Tryz.prog.cellsOf 9)) = xs[0]? := hf 0 _ rfl
  obtain ⟨y0, e0⟩ := hx 0 (by decide)
  rw [e0, show Tryz.prog.cellsOf 9 = 1 from by kernel_rfl] at h0
  obtain ⟨a0, k0⟩ := opString.opens h0
  have h1 : DataW.trod enc Tryz.prog w base spare held n 46 (([c0, c1, c2, c3, c4, c5, c6, c7, c8].drop 1).take (Tryz.prog.cellsOf 46)) = xs[1]? := hf 1 _ rfl
  obtain ⟨y1, e1⟩ := hx 1 (by decide)
  rw [e1, show Tryz.prog.cellsOf 46 = 8 from by kernel_rfl] at h1
  obtain ⟨a1, k1⟩ := op46.opens h1
  exact ⟨⟨a0, a1⟩, ⟨[c0], [c1, c2, c3, c4, c5, c6, c7, c8], rfl, k0, k1⟩⟩⟩
theorem opHelds : Opens (Kd.slice 48 k48) 22 := opSlice 48 op48 Tryz.underlying22 (by kernel_rfl)
/-- A row of what is held, among a law's arguments. -/
theorem open_helds {H : Type} {enc : TypeId × Value → H} {W : World} {base : Nat} {spare : Nat → Bool} {held : Bool} {a : Option Addr} {len cap : Nat} {d : DataW H} {ps : List MemPlace}
    (h : DataW.Trod enc Tryz.prog W base spare held 22 (.slice a len cap) d ps) : ∃ l : List S48, l.length = len ∧ len ≤ cap ∧ Kd.C k48 W a l.length l := by
  obtain ⟨fuel, hf⟩ := h
  obtain ⟨l, A, c, e, h1, h2⟩ := opHelds.opens hf
  have e' : (Value.slice a len cap).cells.toList = [.slice A l.length c] := e
  simp [Value.cells] at e'
  obtain ⟨rfl, rfl, rfl⟩ := e'
  exact ⟨l, rfl, h1, h2⟩
/-- Metadata, by value. -/
theorem open_meta {H : Type} {enc : TypeId × Value → H} {W : World} {base : Nat} {spare : Nat → Bool} {held : Bool} {cs : Array Value} {d : DataW H} {ps : List MemPlace}
    (h : DataW.Trod enc Tryz.prog W base spare held 46 (.agg cs) d ps) : ∃ m : S46, k46.K W m cs.toList := by
  obtain ⟨fuel, hf⟩ := h
  exact op46.opens hf
end Go.Proofs.YtgcflmhlegagbaaGreatDoor.O
end
section
set_option linter.unusedVariables false
namespace Go.Proofs.YtgcflmhlegagbaaGreatDoor.E
open Go.RowKit Go.Lib Go.Shelf
def ren8 : Ren := ⟨fun x => x, fun x => if x = 119 then 164 else if x = 138 then 166 else if x = 139 then 167 else x, fun x => x - 2⟩
theorem u8types : U8Types Tryz.prog ren8 := ⟨by kernel_rfl, by kernel_rfl, by kernel_rfl, by kernel_rfl⟩
theorem u8extra : U8Extra Tryz.prog ren8 := ⟨by kernel_rfl, by kernel_rfl, by kernel_rfl, by kernel_rfl, by kernel_rfl, by kernel_rfl, by kernel_rfl⟩
theorem keys_data : (Rows.laid_imprimatur_sha256_keys : DataW Unit) = Lib.tabData .u32 (Sh.kw.map Int.ofNat) := by kernel_rfl
theorem first_data : (Rows.laid_unicode_utf8_first : DataW Unit) = firstData := by kernel_rfl
theorem accept_data : (Rows.laid_unicode_utf8_acceptRanges : DataW Unit) = acceptData := by kernel_rfl
theorem kw_length : Sh.kw.length = 64 := by kernel_rfl
theorem tabs_of {l : List (String × DataW Unit)} {W : World} (hL : laidMet Tryz.prog l W) (h1 : ("imprimatur/sha256.keys", Rows.laid_imprimatur_sha256_keys) ∈ l) (h2 : ("unicode/utf8.first", Rows.laid_unicode_utf8_first) ∈ l) (h3 : ("unicode/utf8.acceptRanges", Rows.laid_unicode_utf8_acceptRanges) ∈ l) : Tabs W := by
  rw [keys_data] at h1
  rw [first_data] at h2
  rw [accept_data] at h3
  refine ⟨?_, utf8Tabs_of_readsT u8types u8extra (Lib.laidMet.reads hL h2) (Lib.laidMet.reads hL h3)⟩
  have hg3 : Tryz.prog.globalNamed "imprimatur/sha256.keys" = some 3 := by kernel_rfl
  have hT : Lib.TabIs Tryz.prog W "imprimatur/sha256.keys" .u32 (Sh.kw.map Int.ofNat) := by
    obtain ⟨g, t, cs, fuel, p, hg, hty, hvar, hd⟩ := Lib.laidMet.reads hL h1
    obtain rfl : 3 = g := Option.some.inj (hg3.symm.trans hg)
    obtain rfl : 176 = t := Option.some.inj ((show (Tryz.prog.globals[3]?).map (·.type) = some 176 by kernel_rfl).symm.trans hty)
    unfold Lib.TabIs
    rw [hvar, ← Lib.cells_of_tab (n := 64) (e := 144) (by kernel_rfl) (by kernel_rfl) (by kernel_rfl) (by kernel_rfl) hd]
  have hc : ∀ j, j < 64 → W.cell? ⟨3, j, none⟩ = some (.int .u32 (Sh.kw.getD j 0 : Nat)) := by
    intro j hj
    have := hT.cell hg3 j (by rw [List.length_map, kw_length]; exact hj)
    rw [this, List.getD_eq_getElem?_getD, List.getElem?_map, List.getD_eq_getElem?_getD, List.getElem?_eq_getElem (show j < Sh.kw.length by rw [kw_length]; exact hj)]
    rfl
  exact ⟨World.block_lt_of_cell? W _ (hc 0 (by decide)), hc⟩
/-- A table's cells, for a witness' world. -/
def litsOf : DataW Unit → List Value
  | .agg l => l.filterMap fun d => match d with | .lit (.int k z) => some (.int k z) | _ => none
  | _ => []
end Go.Proofs.YtgcflmhlegagbaaGreatDoor.E
end
