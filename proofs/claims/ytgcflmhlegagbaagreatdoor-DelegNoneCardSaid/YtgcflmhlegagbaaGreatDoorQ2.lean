/- Which bytes may be: plain, Right's test, the parts' test; slices.IndexFunc and ContainsFunc at bytes and strings. -/
import Derived.Test.YtgcflmhlegagbaaGreatDoorQv
import Derived.Test.YtgcflmhlegagbaaGreatDoorQ1
import Derived.Test.YtgcflmhlegagbaaGreatDoorQ0
import Derived.Lib.SlBy
import Derived.Laws.ByValue
import Derived.Lib.IndexBytes
import Derived.Shelf.RegionOpenPlain
import Derived.Lib.ConvBytes
import Derived.RangeFuncNested
import Derived.RangeFuncBound
import Derived.RangeFuncCalls
import Derived.RangeFuncLeaves
import Derived.Shelf.Abstract
import Derived.Shelf.RegionOpen
import Derived.WalkKit
import Derived.OwnWalkIn
import Derived.TacticsInMore
import Derived.LoopNIn
import Derived.LoopIn
import Derived.Lib.Hide
section
set_option linter.unusedVariables false
set_option linter.unusedSimpArgs false
namespace Go.Proofs.YtgcflmhlegagbaaGreatDoor.E
open Go.RowKit Go.Lib Go.Proofs.YtgcflmhlegagbaaGreatDoorW.PrintWords Go.Proofs.YtgcflmhlegagbaaGreatDoorW.PrintLast Go.Proofs.YtgcflmhlegagbaaGreatDoorW.PrintMore
theorem u8_all (p : UInt8 → Bool) (h : (List.range 256).all (fun n => p (UInt8.ofNat n)) = true) (c : UInt8) : p c = true := by
  have := List.all_eq_true.1 h c.toNat (List.mem_range.2 c.toNat_lt)
  simpa using this
theorem seps (c : UInt8) : decide (0 ≤ Lib.indexByte [46, 47, 95, 45] c) = (c == 46 || c == 47 || c == 95 || c == 45) := by
  have := u8_all (fun c => decide (0 ≤ Lib.indexByte [46, 47, 95, 45] c) == (c == 46 || c == 47 || c == 95 || c == 45)) (by decide +kernel) c
  simpa using this
theorem plain_eq (c : UInt8) : G.plainB c = ((decide (97 ≤ (c.toNat : Int)) && decide ((c.toNat : Int) ≤ 122)) || (decide (65 ≤ (c.toNat : Int)) && decide ((c.toNat : Int) ≤ 90)) || (decide (48 ≤ (c.toNat : Int)) && decide ((c.toNat : Int) ≤ 57)) || decide (0 ≤ Lib.indexByte [46, 47, 95, 45] c)) := by
  rw [seps]; unfold G.plainB
  have e : ∀ k : Nat, decide ((k : Int) ≤ (c.toNat : Int)) = decide (k ≤ c.toNat) := fun k => by congr 1; simp
  have e' : ∀ k : Nat, decide ((c.toNat : Int) ≤ (k : Int)) = decide (c.toNat ≤ k) := fun k => by congr 1; simp
  have a1 := e 97; have a2 := e 65; have a3 := e 48; have b1 := e' 122; have b2 := e' 90; have b3 := e' 57
  simp only [Int.cast_ofNat_Int] at a1 a2 a3 b1 b2 b3
  rw [a1, a2, a3, b1, b2, b3]
  simp only [Bool.or_assoc]
set_option maxHeartbeats 2000000 in
set_option maxRecDepth 100000 in
theorem plain_any (c : UInt8) (w : World) :
    Calls Tryz.prog 46 #[.int .u8 (c.toNat : Int)] w fun e w' => e = .returned (.bool (G.plainB c)) ∧ w' = w := by
  have hcall : ∀ W, Calls Tryz.prog 75 #[.string ⟨#[46, 47, 95, 45]⟩, .int .u8 (c.toNat : Int)] W fun e w' => e = .returned (.int .i64 (Lib.indexByte [46, 47, 95, 45] c)) ∧ w' = W := by
    intro W
    have := Tryz.strings_IndexByte ⟨#[46, 47, 95, 45]⟩ (c.toNat : Int) W
    rwa [Int.toNat_natCast, show c.toNat.toUInt8 = c from by simp] at this
  rw [plain_eq]
  generalize Lib.indexByte [46, 47, 95, 45] c = ix at hcall
  generalize (c.toNat : Int) = n at hcall
  go_enter Tryz.func46, Tryz.ntmps46
  go_wp2_with (go_at_call 75; refine (hcall _).mono ?_; rintro _ _ ⟨rfl, rfl⟩)
  all_goals (go_ret; refine ⟨?_, rfl⟩; show Ending.returned (.bool _) = .returned (.bool _); congr 2 <;> (rw [Bool.eq_iff_iff]; (first | (simp; done) | (simp; omega))))
theorem plain_quiet (c : UInt8) (w : World) : Calls Tryz.prog 46 #[.int .u8 (c.toNat : Int)] w fun e w' => e = .returned (.bool (G.byt false c)) ∧ ∃ q, w' = w.drewN q :=
  (plain_any c w).mono fun _ _ ⟨a, b⟩ => ⟨a, 0, b⟩
set_option maxHeartbeats 2000000 in
set_option maxRecDepth 100000 in
theorem patt_any (c : UInt8) (w : World) :
    Calls Tryz.prog 67 #[.int .u8 (c.toNat : Int)] w fun e w' => e = .returned (.bool (G.byt true c)) ∧ ∃ q, w' = w.drewN q := by
  have e42 : (c == 42) = decide ((c.toNat : Int) = 42) := by
    have := u8_all (fun c => (c == 42) == decide ((c.toNat : Int) = 42)) (by decide +kernel) c
    simpa using this
  have e63 : (c == 63) = decide ((c.toNat : Int) = 63) := by
    have := u8_all (fun c => (c == 63) == decide ((c.toNat : Int) = 63)) (by decide +kernel) c
    simpa using this
  have hcall := plain_any c
  show Calls Tryz.prog 67 #[.int .u8 (c.toNat : Int)] w fun e w' => e = .returned (.bool (G.plainB c || c == 42 || c == 63)) ∧ ∃ q, w' = w.drewN q
  rw [e42, e63]
  generalize (c.toNat : Int) = n at hcall
  generalize G.plainB c = b at hcall
  cases b
  all_goals
    go_enter Tryz.func67, Tryz.ntmps67
    go_wp2_with (go_at_call 46; refine (hcall _).mono ?_; rintro _ _ ⟨rfl, rfl⟩)
    all_goals (go_ret; refine ⟨?_, 0, rfl⟩; show Ending.returned (.bool _) = .returned (.bool _); congr 2; try (simp [*]; done); try (rw [Bool.eq_iff_iff]; simp; try omega))
set_option maxHeartbeats 2000000 in
set_option maxRecDepth 100000 in
theorem bad_any (s : ByteArray) (w : World) :
    Calls Tryz.prog 74 #[.string s] w fun e w' => e = .returned (.bool (G.bad s.data.toList)) ∧ ∃ q, w' = w.drewN q := by
  have eb : G.bad s.data.toList = (s.toList.isEmpty || s.toList == [46] || s.toList == [46, 46]) := by
    rw [Lib.toList_data]; unfold G.bad; cases s.data.toList <;> rfl
  rw [eb]
  go_enter Tryz.func74, Tryz.ntmps74
  go_wp2
  all_goals (go_ret; refine ⟨?_, 0, rfl⟩; show Ending.returned (.bool _) = .returned (.bool _); congr 2; try (simp [*]; done))
/-- What a test that is handed over must do: at each item, in each world above w, tell p; it may draw and lay blocks. -/
def byteTest (g : Nat) (lb : Array Value) (p : UInt8 → Bool) (w : World) : Prop :=
  ∀ (W : World) (x : UInt8), Below w.heap.size w W → Calls Tryz.prog g (#[.int .u8 (x.toNat : Int)] ++ lb) W fun e w' => e = .returned (.bool (p x)) ∧ Below w.heap.size w w'
set_option maxHeartbeats 2000000 in
set_option maxRecDepth 100000 in
theorem byteIndex (p : UInt8 → Bool) (g : Nat) (lb : Array Value) (eg : ∀ args w, (callFunc g args).run Tryz.prog w = .ok (.enter g args) w) (a : Option Addr) (n c : Nat) (zs : List UInt8) (w : World)
    (hp : byteTest g lb p w) (hz : n = zs.length) (hbig : n ≤ 9223372036854775807) (ha : n = 0 ∨ ∃ b off, a = some ⟨b, off, none⟩ ∧ b < w.heap.size ∧ ∀ j, (h : j < zs.length) → w.cell? ⟨b, off + j, none⟩ = some (.int .u8 (zs[j].toNat : Int))) :
    Calls Tryz.prog 101 #[.slice a n c, .func (.func g) #[] lb] w fun e w' => (∃ k : Int, e = .returned (.int .i64 k) ∧ (0 ≤ k ↔ zs.any p = true) ∧ (∀ (i : Nat), k = (i : Int) ↔ ∃ h : i < zs.length, p zs[i] = true ∧ ∀ j, (hj : j < i) → p zs[j] = false) ∧ -1 ≤ k) ∧ Below w.heap.size w w' := by
  subst hz
  go_enter Tryz.func101, Tryz.ntmps101
  go_wp2
  go_loopg [5, 8] zs.length (fun gg _ s8 wr => ∃ kk : Nat, kk ≤ zs.length ∧ zs.length - kk ≤ gg ∧ s8 = .int .i64 kk ∧ Aside (Below w.heap.size w wr) ∧ Aside (∀ j, j < kk → (hj : j < zs.length) → p zs[j] = false))
  case atStart => exact ⟨0, Nat.zero_le _, by omega, rfl, Below.refl _ w, fun j hj => absurd hj (Nat.not_lt_zero _)⟩
  case round =>
    obtain ⟨kk, hkk, hg, rfl, BW, A⟩ := hrel
    by_cases hlt : kk < zs.length
    · have hltz : (kk : Int) < (zs.length : Int) := by omega
      obtain ⟨b, off, rfl, hb, hc⟩ := ha.resolve_left (by omega)
      clear ha
      have l2 : wr.cell? ⟨b, off + kk, none⟩ = some (.int .u8 (zs[kk].toNat : Int)) := (BW.out.cell (p := ⟨b, off + kk, none⟩) hb).trans (hc kk hlt)
      have hcall := hp wr zs[kk] BW.out
      clear hc hp
      generalize hy : zs[kk] = y at l2 hcall
      have B : Aside (zs[kk] = y) := hy
      clear hy
      cases hq : p y with
      | true =>
        rw [hq] at hcall
        go_wp2_with (go_at_fn g; refine hcall.mono ?_; rintro e w' ⟨rfl, hb'⟩)
        go_ret
        refine ⟨⟨_, rfl, ?_, ?_, by omega⟩, hb'⟩
        · exact ⟨fun _ => List.any_eq_true.2 ⟨zs[kk], List.getElem_mem hlt, by rw [B.out]; exact hq⟩, fun _ => by omega⟩
        · intro i
          constructor
          · intro e
            obtain rfl : kk = i := by omega
            exact ⟨hlt, by rw [B.out]; exact hq, fun j hj => A.out j hj (by omega)⟩
          · rintro ⟨hi, h1, h2⟩
            rcases Nat.lt_trichotomy kk i with h | h | h
            · have := h2 kk h; rw [B.out, hq] at this; cases this
            · omega
            · have := A.out i h hi; rw [h1] at this; cases this
      | false =>
        rw [hq] at hcall
        go_wp2_with (go_at_fn g; refine hcall.mono ?_; rintro e w' ⟨rfl, hb'⟩)
        go_roundg (zs.length - (kk + 1))
        case measure => omega
        case rel =>
          refine ⟨kk + 1, by omega, by omega, by go_num, hb', (show Aside _ from fun j hj hjl => ?_)⟩
          by_cases e : j = kk
          · subst e
            rw [B.out]; exact hq
          · exact A.out j (by omega) hjl
    · have hltz : ¬ (kk : Int) < (zs.length : Int) := by omega
      have hk : kk = zs.length := by omega
      go_wp2
      go_ret
      refine ⟨⟨_, rfl, ?_, ?_, by omega⟩, BW.out⟩
      · refine ⟨fun h => by omega, fun h => ?_⟩
        obtain ⟨x, hx, hpx⟩ : ∃ x, x ∈ zs ∧ p x = true := by simpa using h
        obtain ⟨j, hj, rfl⟩ := List.mem_iff_getElem.1 hx
        rw [A.out j (by omega) hj] at hpx; cases hpx
      · intro i
        refine ⟨fun h => by omega, ?_⟩
        rintro ⟨hi, h1, _⟩
        rw [A.out i (by omega) hi] at h1; cases h1
set_option maxHeartbeats 2000000 in
set_option maxRecDepth 100000 in
theorem byteContains (p : UInt8 → Bool) (g : Nat) (lb : Array Value) (eg : ∀ args w, (callFunc g args).run Tryz.prog w = .ok (.enter g args) w) (a : Option Addr) (n c : Nat) (zs : List UInt8) (w : World)
    (hp : byteTest g lb p w) (hz : n = zs.length) (hbig : n ≤ 9223372036854775807) (ha : n = 0 ∨ ∃ b off, a = some ⟨b, off, none⟩ ∧ b < w.heap.size ∧ ∀ j, (h : j < zs.length) → w.cell? ⟨b, off + j, none⟩ = some (.int .u8 (zs[j].toNat : Int))) :
    Calls Tryz.prog 71 #[.slice a n c, .func (.func g) #[] lb] w fun e w' => e = .returned (.bool (zs.any p)) ∧ Below w.heap.size w w' := by
  have H : Calls Tryz.prog 101 #[.slice a n c, .func (.func g) #[] lb] w fun e w' => (∃ k : Int, e = .returned (.int .i64 k) ∧ decide (0 ≤ k) = zs.any p) ∧ Below w.heap.size w w' :=
    (byteIndex p g lb eg a n c zs w hp hz hbig ha).mono fun e w' ⟨⟨k, h1, h2, _, _⟩, h3⟩ => ⟨⟨k, h1, by rw [Bool.eq_iff_iff, ← h2]; simp⟩, h3⟩
  clear hp ha eg hbig hz
  generalize zs.any p = bb at H ⊢
  clear p zs
  go_enter Tryz.func71, Tryz.ntmps71
  go_wp2_with (go_at_call 101; refine H.mono ?_; rintro e w' ⟨⟨k, rfl, hk⟩, hb'⟩)
  go_ret
  refine ⟨?_, hb'⟩
  rw [← hk]; rfl
/-- What a test that is handed over must do: at each item, in each world above w, tell p; it may draw and lay blocks. -/
def strTest (g : Nat) (lb : Array Value) (p : ByteArray → Bool) (zs : List ByteArray) (w : World) : Prop :=
  ∀ (W : World) (x : ByteArray), x ∈ zs → Below w.heap.size w W → Calls Tryz.prog g (#[.string x] ++ lb) W fun e w' => e = .returned (.bool (p x)) ∧ Below w.heap.size w w'
theorem str_at {w : World} {A : Option Addr} {zs : List ByteArray} (h : Kd.C Kd.string w A zs.length zs) (j : Nat) (hj : j < zs.length) : ∃ ad, A = some ad ∧ w.cell? (ad.add j) = some (.string zs[j]) := by
  obtain ⟨ad, had, hc⟩ := Kd.at_string h (j : Int) (by omega) (by omega)
  rw [Int.toNat_natCast] at hc
  have : rdOf ByteArray.empty zs (j : Int) = zs[j] := by rw [rdOf, Int.toNat_natCast, List.getD_eq_getElem?_getD, List.getElem?_eq_getElem hj]; rfl
  exact ⟨ad, had, by rw [hc, this]⟩
theorem str_mk {w : World} {b off : Nat} {zs : List ByteArray} (hm : zs.length ≤ 9223372036854775807) (h : ∀ j, (hj : j < zs.length) → w.cell? ⟨b, off + j, none⟩ = some (.string zs[j])) : Kd.C Kd.string w (some ⟨b, off, none⟩) zs.length zs := by
  refine Kd.C_of_reads (d := ByteArray.empty) (h1 := fun _ => rfl) ⟨rfl, hm, fun _ => ⟨⟨b, off, none⟩, rfl, fun i hi => ?_⟩⟩
  have e : (⟨b, off, none⟩ : Addr).add i = ⟨b, off + i, none⟩ := by unfold Addr.add; by_cases h0 : i = 0 <;> simp [h0]
  rw [e, h i hi, List.getD_eq_getElem?_getD, List.getElem?_eq_getElem hi]; rfl
set_option maxHeartbeats 2000000 in
set_option maxRecDepth 100000 in
theorem strIndex (p : ByteArray → Bool) (g : Nat) (lb : Array Value) (eg : ∀ args w, (callFunc g args).run Tryz.prog w = .ok (.enter g args) w) (a : Option Addr) (n c : Nat) (zs : List ByteArray) (w : World)
    (hp : strTest g lb p zs w) (hz : n = zs.length) (hbig : n ≤ 9223372036854775807) (ha : Kd.C Kd.string w a zs.length zs) :
    Calls Tryz.prog 42 #[.slice a n c, .func (.func g) #[] lb] w fun e w' => (∃ k : Int, e = .returned (.int .i64 k) ∧ (0 ≤ k ↔ zs.any p = true) ∧ (∀ (i : Nat), k = (i : Int) ↔ ∃ h : i < zs.length, p zs[i] = true ∧ ∀ j, (hj : j < i) → p zs[j] = false) ∧ -1 ≤ k) ∧ Below w.heap.size w w' := by
  subst hz
  go_enter Tryz.func42, Tryz.ntmps42
  go_wp2
  go_loopg [5, 8] zs.length (fun gg _ s8 wr => ∃ kk : Nat, kk ≤ zs.length ∧ zs.length - kk ≤ gg ∧ s8 = .int .i64 kk ∧ Aside (Below w.heap.size w wr) ∧ Aside (∀ j, j < kk → (hj : j < zs.length) → p zs[j] = false))
  case atStart => exact ⟨0, Nat.zero_le _, by omega, rfl, Below.refl _ w, fun j hj => absurd hj (Nat.not_lt_zero _)⟩
  case round =>
    obtain ⟨kk, hkk, hg, rfl, BW, A⟩ := hrel
    by_cases hlt : kk < zs.length
    · have hltz : (kk : Int) < (zs.length : Int) := by omega
      obtain ⟨ad, rfl, hc⟩ := str_at ha kk hlt
      clear ha
      have l2 : wr.cell? (ad.add kk) = some (.string zs[kk]) := (BW.out.cell (World.block_lt_of_cell? w _ hc)).trans hc
      have hcall := hp wr zs[kk] (List.getElem_mem hlt) BW.out
      clear hc hp
      generalize hy : zs[kk] = y at l2 hcall
      have B : Aside (zs[kk] = y) := hy
      clear hy
      cases hq : p y with
      | true =>
        rw [hq] at hcall
        go_wp2_with (go_at_fn g; refine hcall.mono ?_; rintro e w' ⟨rfl, hb'⟩)
        go_ret
        refine ⟨⟨_, rfl, ?_, ?_, by omega⟩, hb'⟩
        · exact ⟨fun _ => List.any_eq_true.2 ⟨zs[kk], List.getElem_mem hlt, by rw [B.out]; exact hq⟩, fun _ => by omega⟩
        · intro i
          constructor
          · intro e
            obtain rfl : kk = i := by omega
            exact ⟨hlt, by rw [B.out]; exact hq, fun j hj => A.out j hj (by omega)⟩
          · rintro ⟨hi, h1, h2⟩
            rcases Nat.lt_trichotomy kk i with h | h | h
            · have := h2 kk h; rw [B.out, hq] at this; cases this
            · omega
            · have := A.out i h hi; rw [h1] at this; cases this
      | false =>
        rw [hq] at hcall
        go_wp2_with (go_at_fn g; refine hcall.mono ?_; rintro e w' ⟨rfl, hb'⟩)
        go_roundg (zs.length - (kk + 1))
        case measure => omega
        case rel =>
          refine ⟨kk + 1, by omega, by omega, by go_num, hb', (show Aside _ from fun j hj hjl => ?_)⟩
          by_cases e : j = kk
          · subst e
            rw [B.out]; exact hq
          · exact A.out j (by omega) hjl
    · have hltz : ¬ (kk : Int) < (zs.length : Int) := by omega
      have hk : kk = zs.length := by omega
      go_wp2
      go_ret
      refine ⟨⟨_, rfl, ?_, ?_, by omega⟩, BW.out⟩
      · refine ⟨fun h => by omega, fun h => ?_⟩
        obtain ⟨x, hx, hpx⟩ : ∃ x, x ∈ zs ∧ p x = true := by simpa using h
        obtain ⟨j, hj, rfl⟩ := List.mem_iff_getElem.1 hx
        rw [A.out j (by omega) hj] at hpx; cases hpx
      · intro i
        refine ⟨fun h => by omega, ?_⟩
        rintro ⟨hi, h1, _⟩
        rw [A.out i (by omega) hi] at h1; cases h1
set_option maxHeartbeats 2000000 in
set_option maxRecDepth 100000 in
theorem strContains (p : ByteArray → Bool) (g : Nat) (lb : Array Value) (eg : ∀ args w, (callFunc g args).run Tryz.prog w = .ok (.enter g args) w) (a : Option Addr) (n c : Nat) (zs : List ByteArray) (w : World)
    (hp : strTest g lb p zs w) (hz : n = zs.length) (hbig : n ≤ 9223372036854775807) (ha : Kd.C Kd.string w a zs.length zs) :
    Calls Tryz.prog 39 #[.slice a n c, .func (.func g) #[] lb] w fun e w' => e = .returned (.bool (zs.any p)) ∧ Below w.heap.size w w' := by
  have H : Calls Tryz.prog 42 #[.slice a n c, .func (.func g) #[] lb] w fun e w' => (∃ k : Int, e = .returned (.int .i64 k) ∧ decide (0 ≤ k) = zs.any p) ∧ Below w.heap.size w w' :=
    (strIndex p g lb eg a n c zs w hp hz hbig ha).mono fun e w' ⟨⟨k, h1, h2, _, _⟩, h3⟩ => ⟨⟨k, h1, by rw [Bool.eq_iff_iff, ← h2]; simp⟩, h3⟩
  clear hp ha eg hbig hz
  generalize zs.any p = bb at H ⊢
  clear p zs
  go_enter Tryz.func39, Tryz.ntmps39
  go_wp2_with (go_at_call 42; refine H.mono ?_; rintro e w' ⟨⟨k, rfl, hk⟩, hb'⟩)
  go_ret
  refine ⟨?_, hb'⟩
  rw [← hk]; rfl
end Go.Proofs.YtgcflmhlegagbaaGreatDoor.E
end
section
set_option linter.unusedVariables false
set_option linter.unusedSimpArgs false
namespace Go.Proofs.YtgcflmhlegagbaaGreatDoor.E
open Go.RowKit Go.Lib Go.Proofs.YtgcflmhlegagbaaGreatDoorW.PrintWords Go.Proofs.YtgcflmhlegagbaaGreatDoorW.PrintLast Go.Proofs.YtgcflmhlegagbaaGreatDoorW.PrintMore
attribute [local irreducible] G.right G.split G.bad G.byt
theorem split_one (s : ByteArray) (c : UInt8) (w : World) (hs : s.size < 4294967281) :
    Calls Tryz.prog 73 #[.string s, .string ⟨#[c]⟩] w fun e w' =>
      e = .returned (.slice (some ⟨w.heap.size, 0, none⟩) (Lib.splitB ⟨#[c]⟩ 0 (Lib.countB s ⟨#[c]⟩) s).length (Lib.splitB ⟨#[c]⟩ 0 (Lib.countB s ⟨#[c]⟩) s).length) ∧ w' = w.alloc (.cells ((Lib.splitB ⟨#[c]⟩ 0 (Lib.countB s ⟨#[c]⟩) s).map Value.string).toArray 9) := by
  have h1 : 1 ≤ (⟨#[c]⟩ : ByteArray).size := Nat.le_refl _
  have hle := Lib.countB_le ⟨#[c]⟩ h1 s.size s (Nat.le_refl _)
  have hlen := Lib.splitB_all ⟨#[c]⟩ h1 0 _ s rfl
  have hix : ∀ (x : ByteArray) W, Calls Tryz.prog 97 #[.string x, .string ⟨#[c]⟩] W fun e w' => e = .returned (.int .i64 (Lib.indexB x ⟨#[c]⟩)) ∧ w' = W := fun x W => by
    rw [show Lib.indexB x ⟨#[c]⟩ = Lib.indexByte x.data.toList c from Lib.index_one _ _]
    exact Tryz.strings_Index_one x c W
  have hct : Calls Tryz.prog 68 #[.string s, .string ⟨#[c]⟩] w fun e w' => e = .returned (.int .i64 (Lib.countB s ⟨#[c]⟩)) ∧ w' = w := by
    refine (Tryz.strings_Count_one s c w).mono fun e w' ⟨he, hw⟩ => ⟨?_, hw⟩
    rw [he]
    show _ = Ending.returned (Value.int .i64 ((Lib.count s.data.toList [c] : Nat) : Int))
    rw [Lib.count_one]
    rfl
  have cc := Any.strings_genSplit_core Tryz.lays221 (by kernel_rfl) s ⟨#[c]⟩ 0 (-1) (Lib.countB s ⟨#[c]⟩ + 1) w hs h1 (Nat.zero_le _)
    (fun x c' hx => hix x _) hct (by decide) (by decide) (by rw [if_pos (by decide)]; omega)
  rw [Nat.add_sub_cancel, ← hlen] at cc
  rw [Lib.cellsOf_full] at cc
  change Calls Tryz.prog 102 _ _ _ at cc
  generalize Lib.splitB ⟨#[c]⟩ 0 (Lib.countB s ⟨#[c]⟩) s = l at cc ⊢
  clear hlen hle hix hct
  go_enter Tryz.func73, Tryz.ntmps73
  go_wp2_with (go_at_call 102; refine cc.mono ?_; rintro e w' ⟨rfl, hw⟩; rw [hw])
  go_ret
  exact ⟨rfl, rfl⟩
theorem splitK_cons (b c : UInt8) (h : b ≠ c) (l : List UInt8) (k : Nat) : Lib.splitK [c] 0 k (b :: l) = (match Lib.splitK [c] 0 k l with | [] => [[b]] | x :: r => (b :: x) :: r) := by
  cases k with
  | zero => rfl
  | succ k =>
    have hp : ([c] : List UInt8).isPrefixOf (b :: l) = false := by simp [List.isPrefixOf, Ne.symm h]
    have hix : Lib.index (b :: l) [c] = if Lib.index l [c] == -1 then -1 else Lib.index l [c] + 1 := by rw [Lib.index, hp]; simp
    by_cases hm : Lib.index l [c] = -1
    · rw [Lib.splitK, Lib.splitK, hix]; simp [hm]
    · have hge := Lib.index_ge l [c]
      obtain ⟨j, hj⟩ : ∃ j : Nat, Lib.index l [c] = j := ⟨(Lib.index l [c]).toNat, by omega⟩
      have hix' : Lib.index (b :: l) [c] = ((j + 1 : Nat) : Int) := by rw [hix, if_neg (fun e => hm (beq_iff_eq.1 e)), hj]; omega
      have n1 : ¬ (((j : Nat) : Int) == -1) = true := fun e => by have := beq_iff_eq.1 e; omega
      have n2 : ¬ (((j + 1 : Nat) : Int) == -1) = true := fun e => by have := beq_iff_eq.1 e; omega
      rw [Lib.splitK, Lib.splitK, hix', hj, if_neg n1, if_neg n2]
      simp
theorem split_eq (l : List UInt8) : Lib.splitK [47] 0 (Lib.count l [47]) l = G.split l := by
  induction l with
  | nil => rw [G.split]; rfl
  | cons b l ih =>
    rw [G.split]
    by_cases h : b = 47
    · subst h
      rw [if_pos rfl, Lib.count_cons_eq, show 1 + Lib.count l [47] = Lib.count l [47] + 1 from Nat.add_comm _ _, Lib.splitK]
      have hix : Lib.index ((47 : UInt8) :: l) [47] = 0 := by rw [Lib.index]; simp [List.isPrefixOf]
      rw [hix, ← ih]; simp
    · rw [if_neg h, Lib.count_cons_ne _ _ _ h, splitK_cons _ _ h, ih]; cases G.split l <;> rfl
def parts (s : ByteArray) : List ByteArray := Lib.splitB ⟨#[47]⟩ 0 (Lib.countB s ⟨#[47]⟩) s
theorem parts_data (s : ByteArray) : (parts s).map (fun p => p.data.toList) = G.split s.data.toList := by
  rw [← split_eq]; exact Lib.splitB_data ⟨#[47]⟩ 0 _ s
set_option maxHeartbeats 2000000 in
set_option maxRecDepth 100000 in
theorem litecut_one (s : ByteArray) (c : UInt8) (w : World) (hs : s.size < 4294967281) :
    Calls Tryz.prog 115 #[.string s, .string ⟨#[c]⟩] w fun e w' => e = .returned (.tuple #[.string ⟨(Lib.cut s.data.toList [c]).1.toArray⟩, .string ⟨(Lib.cut s.data.toList [c]).2.1.toArray⟩, .bool (Lib.cut s.data.toList [c]).2.2]) ∧ ∃ n, w' = w.drewN n := by
  have hix : ∀ W, Calls Tryz.prog 114 #[.string s, .string ⟨#[c]⟩] W fun e w' => e = .returned (.int .i64 (Lib.indexB s ⟨#[c]⟩)) ∧ w' = W := fun W => by
    rw [show Lib.indexB s ⟨#[c]⟩ = Lib.indexByte s.data.toList c from Lib.index_one _ _]
    exact Tryz.stringslite_Index_one s c W
  rcases Lib.indexB_cases s ⟨#[c]⟩ with hi | ⟨i, hi, hroom⟩
  · obtain ⟨e1, e2, e3⟩ := Lib.cutB_miss s ⟨#[c]⟩ hi
    rw [e1, e2, e3]
    rw [hi] at hix
    go_enter Tryz.func115, Tryz.ntmps115
    go_wp2_with (go_at_call 114; refine (hix _).mono ?_; rintro e w' ⟨rfl, rfl⟩)
    go_ret3
    exact ⟨rfl, 0, rfl⟩
  · obtain ⟨e1, e2, e3⟩ := Lib.cutB_hit s ⟨#[c]⟩ i hi
    rw [e1, e2, e3]
    rw [hi] at hix
    have hz : (⟨#[c]⟩ : ByteArray).size = 1 := rfl
    have c1 : (0 : Int) ≤ ↑i := by omega
    have c2 : (↑i : Int) ≤ ↑s.size := by omega
    have c3 : (0 : Int) ≤ ↑i + 1 := by omega
    have c4 : (↑i + 1 : Int) ≤ ↑s.size := by omega
    have mixed : Tryz.prog.follows Departure.mixedOrders = true := by kernel_rfl
    have hwi : IntKind.i64.wrap ((i : Int) + 1) = (i : Int) + 1 := by rw [i64_w]; unfold wrap64; omega
    go_enter Tryz.func115, Tryz.ntmps115
    go_wp2_with (go_at_call 114; refine (hix _).mono ?_; rintro e w' ⟨rfl, rfl⟩)
    go_region_o
    go_wp2
    go_ret3
    exact ⟨rfl, 1, rfl⟩
set_option maxHeartbeats 2000000 in
set_option maxRecDepth 100000 in
theorem cut_one (s : ByteArray) (c : UInt8) (w : World) (hs : s.size < 4294967281) :
    Calls Tryz.prog 99 #[.string s, .string ⟨#[c]⟩] w fun e w' => e = .returned (.tuple #[.string ⟨(Lib.cut s.data.toList [c]).1.toArray⟩, .string ⟨(Lib.cut s.data.toList [c]).2.1.toArray⟩, .bool (Lib.cut s.data.toList [c]).2.2]) ∧ ∃ n, w' = w.drewN n := by
  have h := litecut_one s c w hs
  generalize (Lib.cut s.data.toList [c]) = r at h ⊢
  obtain ⟨r1, r2, r3⟩ := r
  go_enter Tryz.func99, Tryz.ntmps99
  go_wp2_with (go_at_call 115; refine h.mono ?_; rintro e w' ⟨rfl, n, rfl⟩)
  go_ret3
  exact ⟨rfl, n, rfl⟩
def tst (pat : Bool) : Value := .func (.func (if pat then 67 else 46)) #[] #[]
theorem test_any (pat : Bool) (c : UInt8) (w : World) : Calls Tryz.prog (if pat then 67 else 46) #[.int .u8 (c.toNat : Int)] w fun e w' => e = .returned (.bool (G.byt pat c)) ∧ ∃ q, w' = w.drewN q := by
  cases pat
  · exact plain_quiet c w
  · exact patt_any c w
theorem byt_enter (pat : Bool) (args : Array Value) (w : World) : (callFunc (if pat then 67 else 46) args).run Tryz.prog w = .ok (.enter (if pat then 67 else 46) args) w := by
  cases pat
  · exact enters_of Tryz.func46 (by kernel_rfl) rfl args w
  · exact enters_of Tryz.func67 (by kernel_rfl) rfl args w
set_option maxHeartbeats 2000000 in
set_option maxRecDepth 100000 in
/-- The closure: not a byte that may be. -/
theorem not_any (pat : Bool) (B : Nat) (c : UInt8) (W : World) (hc : W.cell? ⟨B, 0, none⟩ = some (tst pat)) :
    Calls Tryz.prog 72 #[.int .u8 (c.toNat : Int), .pointer (some ⟨B, 0, none⟩)] W fun e w' => e = .returned (.bool (!G.byt pat c)) ∧ ∃ q, w' = W.drewN q := by
  have hcall := test_any pat c
  have he := byt_enter pat
  unfold tst at hc
  generalize (if pat then 67 else 46) = g at hcall he hc
  generalize G.byt pat c = b at hcall ⊢
  go_enter Tryz.func72, Tryz.ntmps72
  go_wp2_with (go_at_fn g; refine (hcall _).mono ?_; rintro e w' ⟨rfl, q, rfl⟩)
  go_ret
  exact ⟨rfl, _, rfl⟩
end Go.Proofs.YtgcflmhlegagbaaGreatDoor.E
end
section
set_option linter.unusedVariables false
set_option linter.unusedSimpArgs false
namespace Go.Proofs.YtgcflmhlegagbaaGreatDoor.E
open Go.RowKit Go.Lib Go.Proofs.YtgcflmhlegagbaaGreatDoorW.PrintWords Go.Proofs.YtgcflmhlegagbaaGreatDoorW.PrintLast Go.Proofs.YtgcflmhlegagbaaGreatDoorW.PrintMore
attribute [local irreducible] G.right G.split G.bad G.byt parts
theorem any_not (pat : Bool) (l : List UInt8) : l.any (fun c => !G.byt pat c) = !l.all (G.byt pat) := by
  induction l with
  | nil => rfl
  | cons c l ih => simp [ih]
/-- Behind the conversion: is there a byte that may not be? -/
theorem anyByte (pat : Bool) (s : ByteArray) (w : World) (hs : s.size < 4294967281) (cap : Nat) :
    Calls Tryz.prog 71 #[.slice (some ⟨w.heap.size + 1, 0, none⟩) s.size cap, .func (.func 72) #[] #[.pointer (some ⟨w.heap.size, 0, none⟩)]] (Lib.bytesWorld (w.alloc (.cells #[tst pat] 87)) 5 s)
      fun e w' => e = .returned (.bool (!s.data.toList.all (G.byt pat))) ∧ Below w.heap.size w w' := by
  have hsz : (w.alloc (.cells #[tst pat] 87)).heap.size = w.heap.size + 1 := by simp
  have hB2 : Below (w.heap.size + 1) (w.alloc (.cells #[tst pat] 87)) (Lib.bytesWorld (w.alloc (.cells #[tst pat] 87)) 5 s) := bytes_below (Below.refl _ _) (by omega) 5 s
  rw [← any_not]
  have h := byteContains (fun c => !G.byt pat c) 72 #[.pointer (some ⟨w.heap.size, 0, none⟩)] (fun a w => enters_of Tryz.func72 (by kernel_rfl) rfl a w)
    (some ⟨w.heap.size + 1, 0, none⟩) s.size cap s.data.toList (Lib.bytesWorld (w.alloc (.cells #[tst pat] 87)) 5 s)
    (fun W c hb => by
      have hc : W.cell? ⟨w.heap.size, 0, none⟩ = some (tst pat) := by
        rw [hb.cell (p := ⟨w.heap.size, 0, none⟩) (by rw [Lib.bytesWorld_size, hsz]; show w.heap.size < _; omega), Lib.bytesWorld_old _ _ _ _ (by rw [hsz]; show w.heap.size < _; omega)]
        simp
      refine (not_any pat w.heap.size c W hc).mono ?_
      rintro e w' ⟨rfl, q, rfl⟩
      exact ⟨rfl, pw_below_drewN hb q⟩)
    (by simp) (by omega)
    (.inr ⟨w.heap.size + 1, 0, rfl, by rw [Lib.bytesWorld_size, hsz]; omega, fun j hj => by
      have := Lib.bytesWorld_cell (w.alloc (.cells #[tst pat] 87)) 5 s j (by simpa using hj)
      rw [hsz] at this
      rw [Nat.zero_add, this, List.getD_eq_getElem?_getD, List.getElem?_eq_getElem hj]; rfl⟩)
  refine h.mono ?_
  rintro e w' ⟨rfl, hb⟩
  have hB3 := below_then hB2 (by rw [Lib.bytesWorld_size, hsz]; omega) hb
  rw [← hsz] at hB3
  exact ⟨rfl, below_step (below_alloc (Below.refl _ _) _) hB3⟩
/-- The parts that may not be. -/
theorem anyBad (s : ByteArray) (w : World) (hs : s.size < 4294967281) (hn : (parts s).length ≤ 9223372036854775807) :
    Calls Tryz.prog 39 #[.slice (some ⟨w.heap.size, 0, none⟩) (parts s).length (parts s).length, .func (.func 74) #[] #[]] (w.alloc (.cells ((parts s).map Value.string).toArray 9))
      fun e w' => e = .returned (.bool ((G.split s.data.toList).any G.bad)) ∧ Below w.heap.size w w' := by
  have hsz : (w.alloc (.cells ((parts s).map Value.string).toArray 9)).heap.size = w.heap.size + 1 := by simp
  have hB1 : Below w.heap.size w (w.alloc (.cells ((parts s).map Value.string).toArray 9)) := below_alloc (Below.refl _ _) _
  have e : (G.split s.data.toList).any G.bad = (parts s).any (fun p => G.bad p.data.toList) := by rw [← parts_data, List.any_map]; rfl
  rw [e]
  have h := strContains (fun p => G.bad p.data.toList) 74 #[] (fun a w => enters_of Tryz.func74 (by kernel_rfl) rfl a w)
    (some ⟨w.heap.size, 0, none⟩) (parts s).length (parts s).length (parts s) (w.alloc (.cells ((parts s).map Value.string).toArray 9))
    (fun W x _ hb => by
      refine (bad_any x W).mono ?_
      rintro e w' ⟨rfl, q, rfl⟩
      exact ⟨rfl, pw_below_drewN hb q⟩)
    rfl hn (str_mk hn (fun j hj => by
      have : (w.alloc (.cells ((parts s).map Value.string).toArray 9)).cell? ⟨w.heap.size, j, none⟩ = (((parts s).map Value.string).toArray)[j]? := by simp
      rw [Nat.zero_add, this]; simp [hj]))
  refine h.mono ?_
  rintro e w' ⟨rfl, hb⟩
  exact ⟨rfl, below_step hB1 hb⟩
theorem parts_len (s : ByteArray) : (parts s).length ≤ s.size + 1 := by
  unfold parts
  have h1 := Lib.splitB_length_le ⟨#[47]⟩ 0 (Lib.countB s ⟨#[47]⟩) s
  have h2 := Lib.countB_le ⟨#[47]⟩ (Nat.le_refl _) s.size s (Nat.le_refl _)
  omega
set_option maxHeartbeats 2000000 in
set_option maxRecDepth 100000 in
theorem right_any (pat : Bool) (s : ByteArray) (w : World) (hs : s.size < 4294967281) :
    Calls Tryz.prog 45 #[.string s, tst pat] w fun e w' => e = .returned (.bool (G.right pat s.data.toList)) ∧ Below w.heap.size w w' := by
  have hmf : ∀ (fn : Fn) (first cap : Array Value) (w : World), (Instr.makeFunc fn first cap).run Tryz.prog w = .ok (.func fn first cap) w := fun _ _ _ _ => rfl
  have kb := fun W => print_bytes (P := Tryz.prog) 9 108 5 Tryz.underlying9 Tryz.underlying108 Tryz.underlying5 s W
  have hll : s.data.toList.length = s.size := by simp
  have er : G.right pat s.data.toList = (decide (s.size ≤ 200) && s.data.toList.all (G.byt pat) && !(G.split s.data.toList).any G.bad) := by unfold G.right; rw [hll]
  have HA := anyByte pat s w hs
  have HBad := fun W => anyBad s W hs (by have := parts_len s; omega)
  have hsp : ∀ W, Calls Tryz.prog 73 #[.string s, .string ⟨#[47]⟩] W fun e w' => e = .returned (.slice (some ⟨W.heap.size, 0, none⟩) (parts s).length (parts s).length) ∧ w' = W.alloc (.cells ((parts s).map Value.string).toArray 9) := fun W => by
    unfold parts; exact split_one s 47 W hs
  have hbt : Below w.heap.size w (w.alloc (.cells #[tst pat] 87)) := below_alloc (Below.refl _ _) _
  obtain ⟨g, hg⟩ : ∃ g, tst pat = .func (.func g) #[] #[] := ⟨_, rfl⟩
  rw [er]
  rw [hg] at HA hbt ⊢
  clear er hll hg
  have HT := Aside0.mk hbt
  clear hbt
  generalize s.data.toList.all (G.byt pat) = A at HA ⊢
  generalize (G.split s.data.toList).any G.bad = B at HBad ⊢
  by_cases hl : 200 < s.size
  · have hlz : (200 : Int) < (s.size : Int) := by omega
    rw [show decide (s.size ≤ 200) = false from by simp; omega]
    clear HA HBad hsp kb hmf
    go_enter Tryz.func45, Tryz.ntmps45
    go_wp2
    go_ret
    exact ⟨rfl, HT.out⟩
  · have hlz : ¬ (200 : Int) < (s.size : Int) := by omega
    rw [show decide (s.size ≤ 200) = true from by simp; omega]
    cases A with
    | false =>
      clear HBad hsp
      go_enter Tryz.func45, Tryz.ntmps45
      go_wp2_with (go_at_call 71; refine (HA _).mono ?_; rintro e w' ⟨rfl, hb⟩; have HC := Aside0.mk hb; clear hb)
      go_ret
      exact ⟨rfl, HC.out⟩
    | true =>
      go_enter Tryz.func45, Tryz.ntmps45
      go_wp2_with (first
        | (go_at_call 71; refine (HA _).mono ?_; rintro e w' ⟨rfl, hb⟩; have HC := Aside0.mk hb; clear hb)
        | (go_at_call 73; refine (hsp _).mono ?_; rintro e w' ⟨rfl, rfl⟩)
        | (go_at_call 39; refine (HBad _).mono ?_; rintro e w' ⟨rfl, hb⟩; have HD := Aside0.mk (below_step HC.out hb); clear hb))
      go_ret
      exact ⟨rfl, HD.out⟩
set_option maxHeartbeats 2000000 in
set_option maxRecDepth 100000 in
theorem Right_any (s : ByteArray) (w : World) (hs : s.size < 4294967281) :
    Calls Tryz.prog 41 #[.string s] w fun e w' => e = .returned (.bool (G.right true s.data.toList)) ∧ Below w.heap.size w w' := by
  have h := right_any true s w hs
  change Calls Tryz.prog 45 #[.string s, .func (.func 67) #[] #[]] w _ at h
  generalize G.right true s.data.toList = b at h ⊢
  go_enter Tryz.func41, Tryz.ntmps41
  go_wp2_with (go_at_call 45; refine h.mono ?_; rintro e w' ⟨rfl, hb⟩)
  go_ret
  exact ⟨rfl, hb⟩
set_option maxHeartbeats 2000000 in
set_option maxRecDepth 100000 in
theorem Path_any (s : ByteArray) (w : World) (hs : s.size < 4294967281) :
    Calls Tryz.prog 18 #[.string s] w fun e w' => e = .returned (.bool (G.right false s.data.toList)) ∧ Below w.heap.size w w' := by
  have h := right_any false s w hs
  change Calls Tryz.prog 45 #[.string s, .func (.func 46) #[] #[]] w _ at h
  generalize G.right false s.data.toList = b at h ⊢
  go_enter Tryz.func18, Tryz.ntmps18
  go_wp2_with (go_at_call 45; refine h.mono ?_; rintro e w' ⟨rfl, hb⟩)
  go_ret
  exact ⟨rfl, hb⟩
end Go.Proofs.YtgcflmhlegagbaaGreatDoor.E
end
section
set_option linter.unusedVariables false
set_option linter.unusedSimpArgs false
namespace Go.Proofs.YtgcflmhlegagbaaGreatDoor.E
open Go.RowKit Go.Lib Go.Proofs.YtgcflmhlegagbaaGreatDoorW.PrintWords Go.Proofs.YtgcflmhlegagbaaGreatDoorW.PrintLast Go.Proofs.YtgcflmhlegagbaaGreatDoorW.PrintMore
theorem dropWhile_nil (l : List UInt8) (c : UInt8) : l.dropWhile (· == c) = [] ↔ l.all (· == c) = true := by
  induction l with
  | nil => simp
  | cons b l ih => by_cases h : b = c <;> simp [List.dropWhile_cons, h, ih]
theorem trim_stars (l : List UInt8) : (Lib.trimB l 42 = []) ↔ G.stars l = true := by
  unfold Lib.trimB Lib.trimLeftB G.stars
  rw [dropWhile_nil]
  unfold Lib.trimRightB
  constructor
  · intro h
    have h2 : l.reverse.dropWhile (· == 42) = [] := by
      cases e : l.reverse.dropWhile (· == 42) with
      | nil => rfl
      | cons b t =>
        have hb := List.head?_dropWhile_not (· == (42 : UInt8)) l.reverse
        rw [e] at hb h
        simp at hb h
        exact absurd h.2 hb
    rw [dropWhile_nil] at h2
    simpa using h2
  · intro h
    have h2 : l.reverse.all (· == 42) = true := by simpa using h
    rw [← dropWhile_nil] at h2
    rw [h2]; rfl
theorem getB (s : ByteArray) (k : Nat) (h : k < s.size) : s.data.toList[k]! = s[k] := by
  rw [getElem!_pos s.data.toList k (by simpa using h)]; rfl
section
variable {p s : List UInt8} {f st fr i k : Nat} {r : Bool}
theorem gr_end (h : ¬ k < s.length) (H : G.gr p s (f + 1) st fr i k = some r) : G.stars (p.drop i) = r := by
  rw [G.gr, if_neg h] at H; exact Option.some.inj H
theorem gr_star (h : k < s.length) (hi : i < p.length) (hc : p[i]! = 42) (H : G.gr p s (f + 1) st fr i k = some r) : G.gr p s f (i + 1) k (i + 1) k = some r := by
  rw [G.gr, if_pos h, if_pos ⟨hi, hc⟩] at H; exact H
theorem gr_one (h : k < s.length) (hi : i < p.length) (hc : p[i]! ≠ 42) (hm : p[i]! = 63 ∨ p[i]! = s[k]!) (H : G.gr p s (f + 1) st fr i k = some r) : G.gr p s f st fr (i + 1) (k + 1) = some r := by
  rw [G.gr, if_pos h, if_neg (fun x => hc x.2), if_pos ⟨hi, hm⟩] at H; exact H
theorem gr_back (h : k < s.length) (hc : ¬ (i < p.length ∧ (p[i]! = 42))) (hm : ¬ (i < p.length ∧ (p[i]! = 63 ∨ p[i]! = s[k]!))) (hs : 0 < st) (H : G.gr p s (f + 1) st fr i k = some r) : G.gr p s f st (fr + 1) st (fr + 1) = some r := by
  rw [G.gr, if_pos h, if_neg hc, if_neg hm, if_pos hs] at H; exact H
theorem gr_no (h : k < s.length) (hc : ¬ (i < p.length ∧ (p[i]! = 42))) (hm : ¬ (i < p.length ∧ (p[i]! = 63 ∨ p[i]! = s[k]!))) (hs : ¬ 0 < st) (H : G.gr p s (f + 1) st fr i k = some r) : false = r := by
  rw [G.gr, if_pos h, if_neg hc, if_neg hm, if_neg hs] at H; exact Option.some.inj H
end
theorem byte_int (a b : UInt8) : ((a.toNat : Int) = (b.toNat : Int)) ↔ a = b := by
  constructor
  · intro h; exact UInt8.toNat_inj.1 (by omega)
  · rintro rfl; rfl
attribute [local irreducible] G.gr
set_option maxHeartbeats 4000000 in
set_option maxRecDepth 100000 in
theorem part_walk (p s : ByteArray) (r : Bool) (f : Nat) (w : World) (hp : p.size < 4294967281) (hs : s.size < 4294967281) (H : G.gr p.data.toList s.data.toList f 0 0 0 0 = some r) :
    Calls Tryz.prog 70 #[.string p, .string s] w fun e w' => e = .returned (.bool r) ∧ ∃ q, w' = w.drewN q := by
  have HA := Aside0.mk H
  clear H
  go_enter Tryz.func70, Tryz.ntmps70
  go_wp2
  go_loopg [5, 6, 7, 8] f (fun gg s5 s6 s7 s8 wr => ∃ st fr i k q : Nat, s5 = .int .i64 ((st : Int) - 1) ∧ s6 = .int .i64 fr ∧ s7 = .int .i64 i ∧ s8 = .int .i64 k ∧ wr = w.drewN q ∧ i ≤ p.size ∧ k ≤ s.size ∧ st ≤ p.size ∧ fr ≤ k ∧ Aside0 (G.gr p.data.toList s.data.toList gg st fr i k = some r))
  case atStart => exact ⟨0, 0, 0, 0, 0, by simp, rfl, rfl, rfl, rfl, Nat.zero_le _, Nat.zero_le _, Nat.zero_le _, Nat.le_refl _, HA⟩
  case round =>
    clear HA
    obtain ⟨st, fr, i, k, q, rfl, rfl, rfl, rfl, rfl, hi, hk, hst, hfr, HA⟩ := hrel
    have hsl : s.data.toList.length = s.size := by simp
    have hpl : p.data.toList.length = p.size := by simp
    cases gk with
    | zero => have := HA.out; rw [G.gr] at this; cases this
    | succ g =>
      by_cases hlt : k < s.size
      · have hltz : (k : Int) < (s.size : Int) := by omega
        have eK := getB s k hlt
        by_cases hip : i < p.size
        · have hipz : (i : Int) < (p.size : Int) := by omega
          have eI := getB p i hip
          by_cases h42 : p[i] = 42
          · have z42 : (p[i].toNat : Int) = 42 := by rw [h42]; rfl
            have HN := Aside0.mk (gr_star (by omega) (by omega) (by rw [eI]; exact h42) HA.out)
            clear HA h42 eI eK
            go_wp2
            go_roundg g
            case measure => omega
            case rel => exact ⟨i + 1, k, i + 1, k, q, by simp, rfl, by go_num, rfl, rfl, by omega, hk, by omega, by omega, HN⟩
          · have z42 : ¬ (p[i].toNat : Int) = 42 := fun h => h42 ((byte_int _ 42).1 h)
            by_cases h63 : p[i] = 63
            · have z63 : (p[i].toNat : Int) = 63 := by rw [h63]; rfl
              have HN := Aside0.mk (gr_one (by omega) (by omega) (by rw [eI]; exact h42) (by rw [eI]; exact .inl h63) HA.out)
              clear HA h42 h63 eI eK
              go_wp2
              repeat (go_quiet (fail); try go_wp2)
              go_roundg g
              case measure => omega
              case rel => exact ⟨st, fr, i + 1, k + 1, _, rfl, rfl, by go_num, by go_num, rfl, by omega, by omega, by omega, by omega, HN⟩
            · have z63 : ¬ (p[i].toNat : Int) = 63 := fun h => h63 ((byte_int _ 63).1 h)
              by_cases heq : p[i] = s[k]
              · have zeq : (p[i].toNat : Int) = (s[k].toNat : Int) := by rw [heq]
                have HN := Aside0.mk (gr_one (by omega) (by omega) (by rw [eI]; exact h42) (by rw [eI, eK]; exact .inr heq) HA.out)
                rw [heq] at z42 z63
                clear HA h42 h63 eI eK heq
                go_wp2
                repeat (go_quiet (fail); try go_wp2)
                go_roundg g
                case measure => omega
                case rel => exact ⟨st, fr, i + 1, k + 1, _, rfl, rfl, by go_num, by go_num, rfl, by omega, by omega, by omega, by omega, HN⟩
              · have zeq : ¬ (p[i].toNat : Int) = (s[k].toNat : Int) := fun h => heq ((byte_int _ _).1 h)
                have b63 : ((p[i].toNat : Int) == 63) = false := beq_eq_false_iff_ne.2 z63
                have beq : ((p[i].toNat : Int) == (s[k].toNat : Int)) = false := beq_eq_false_iff_ne.2 zeq
                by_cases hst0 : 0 < st
                · have hstz : (0 : Int) ≤ (st : Int) - 1 := by omega
                  have HN := Aside0.mk (gr_back (by omega) (by rw [eI]; exact fun x => h42 x.2) (by rw [eI, eK]; exact fun x => x.2.elim h63 heq) hst0 HA.out)
                  clear HA h42 h63 eI eK
                  go_wp2
                  repeat (go_quiet (fail); try go_wp2)
                  go_roundg g
                  case measure => omega
                  case rel => exact ⟨st, fr + 1, st, fr + 1, _, rfl, by go_num, by go_num, by go_num, rfl, by omega, by omega, by omega, by omega, HN⟩
                · have hstz : ¬ (0 : Int) ≤ (st : Int) - 1 := by omega
                  have HN := gr_no (by omega) (by rw [eI]; exact fun x => h42 x.2) (by rw [eI, eK]; exact fun x => x.2.elim h63 heq) hst0 HA.out
                  subst HN
                  clear HA h42 h63 eI eK
                  go_wp2
                  repeat (go_quiet (fail); try go_wp2)
                  go_ret
                  exact ⟨rfl, _, rfl⟩
        · have hipz : ¬ (i : Int) < (p.size : Int) := by omega
          by_cases hst0 : 0 < st
          · have hstz : (0 : Int) ≤ (st : Int) - 1 := by omega
            have HN := Aside0.mk (gr_back (by omega) (fun x => hip (by omega)) (fun x => hip (by omega)) hst0 HA.out)
            clear HA eK
            go_wp2
            repeat (go_quiet (fail); try go_wp2)
            go_roundg g
            case measure => omega
            case rel => exact ⟨st, fr + 1, st, fr + 1, _, rfl, by go_num, by go_num, by go_num, rfl, by omega, by omega, by omega, by omega, HN⟩
          · have hstz : ¬ (0 : Int) ≤ (st : Int) - 1 := by omega
            have HN := gr_no (by omega) (fun x => hip (by omega)) (fun x => hip (by omega)) hst0 HA.out
            subst HN
            clear HA eK
            go_wp2
            repeat (go_quiet (fail); try go_wp2)
            go_ret
            exact ⟨rfl, _, rfl⟩
      · have hltz : ¬ (k : Int) < (s.size : Int) := by omega
        have hr := gr_end (by omega) HA.out
        clear HA
        have htr : ∀ W, Calls Tryz.prog 100 #[.string (p.extract i p.size), .string ⟨#[42]⟩] W fun e w' => ∃ t : ByteArray, e = .returned (.string t) ∧ (t.toList = [] ↔ r = true) ∧ ∃ q, w' = W.drewN q := fun W => by
          refine (Tryz.strings_Trim_one (p.extract i p.size) 42 (by decide) W (by rw [ByteArray.size_extract]; omega)).mono ?_
          rintro e w' ⟨rfl, hw⟩
          refine ⟨_, rfl, ?_, hw.elim (fun h => ⟨0, h⟩) (fun h => ⟨1, h⟩)⟩
          rw [Lib.toList_data, ← hr]
          have ed : (p.extract i p.size).data.toList = p.data.toList.drop i := Lib.extract_to_end p i
          show Lib.trimB (p.extract i p.size).data.toList 42 = [] ↔ _
          rw [ed]
          exact trim_stars _
        clear hr
        go_wp2_with (go_at_call 100; refine (htr _).mono ?_; rintro e w' ⟨t, rfl, ht, q', rfl⟩)
        all_goals (go_ret; refine ⟨?_, _, rfl⟩; show Ending.returned (.bool _) = .returned (.bool _); congr 2; rw [Bool.eq_iff_iff, ← ht]; simp)
theorem part_any (p s : ByteArray) (w : World) (hp : p.size < 4294967281) (hs : s.size < 4294967281) :
    Calls Tryz.prog 70 #[.string p, .string s] w fun e w' => e = .returned (.bool (G.pm p.data.toList s.data.toList)) ∧ ∃ q, w' = w.drewN q :=
  part_walk p s _ _ w hp hs (G.gr_pm _ _)
end Go.Proofs.YtgcflmhlegagbaaGreatDoor.E
end
section
set_option linter.unusedVariables false
set_option linter.unusedSimpArgs false
namespace Go.Proofs.YtgcflmhlegagbaaGreatDoor.E
open Go.RowKit Go.Lib
theorem cut_nil : Lib.cut [] [47] = ([], [], false) := by unfold Lib.cut; simp [Lib.index]
theorem cut_here (l : List UInt8) : Lib.cut (47 :: l) [47] = ([], l, true) := by
  have hix : Lib.index ((47 : UInt8) :: l) [47] = 0 := by rw [Lib.index]; simp [List.isPrefixOf]
  unfold Lib.cut; rw [hix]; simp
theorem cut_on (b : UInt8) (h : b ≠ 47) (l : List UInt8) : Lib.cut (b :: l) [47] = (b :: (Lib.cut l [47]).1, (Lib.cut l [47]).2.1, (Lib.cut l [47]).2.2) := by
  have hp : ([47] : List UInt8).isPrefixOf (b :: l) = false := by simp [List.isPrefixOf, Ne.symm h]
  have hix : Lib.index (b :: l) [47] = if Lib.index l [47] == -1 then -1 else Lib.index l [47] + 1 := by rw [Lib.index, hp]; simp
  have hge := Lib.index_ge l [47]
  unfold Lib.cut
  by_cases hm : Lib.index l [47] = -1
  · rw [hix, hm]; simp
  · obtain ⟨j, hj⟩ : ∃ j : Nat, Lib.index l [47] = j := ⟨(Lib.index l [47]).toNat, by omega⟩
    have n1 : ¬ (((j : Nat) : Int) == -1) = true := fun e => by have := beq_iff_eq.1 e; omega
    rw [hix, hj, if_neg n1, if_pos (by omega), if_pos (by omega)]
    rw [show ((j : Int) + 1).toNat = j + 1 from by omega]
    simp
theorem cut_split (l : List UInt8) : G.split l = if (Lib.cut l [47]).2.2 = true then (Lib.cut l [47]).1 :: G.split (Lib.cut l [47]).2.1 else [(Lib.cut l [47]).1] := by
  induction l with
  | nil => rw [cut_nil, G.split]; rfl
  | cons b l ih =>
    rw [G.split]
    by_cases h : b = 47
    · subst h; rw [cut_here]; rfl
    · rw [if_neg h, cut_on b h, ih]
      by_cases h2 : (Lib.cut l [47]).2.2 = true
      · rw [if_pos h2]; simp [h2]
      · rw [if_neg h2]; simp [h2]
theorem cut_less (l : List UInt8) (h : (Lib.cut l [47]).2.2 = true) : (Lib.cut l [47]).2.1.length < l.length := by
  induction l with
  | nil => rw [cut_nil] at h; cases h
  | cons b l ih =>
    by_cases hb : b = 47
    · subst hb; rw [cut_here]; simp
    · rw [cut_on b hb] at h ⊢
      have := ih h
      simp; omega
/-- The pairs of parts that a walk of both meets: as many as the shorter has. -/
theorem zip_split (a b : List UInt8) : (G.split a).zip (G.split b) =
    ((Lib.cut a [47]).1, (Lib.cut b [47]).1) :: (if (Lib.cut a [47]).2.2 = true ∧ (Lib.cut b [47]).2.2 = true then (G.split (Lib.cut a [47]).2.1).zip (G.split (Lib.cut b [47]).2.1) else []) := by
  rw [cut_split a, cut_split b]
  by_cases h1 : (Lib.cut a [47]).2.2 = true <;> by_cases h2 : (Lib.cut b [47]).2.2 = true <;> simp [h1, h2]
theorem split_count (l : List UInt8) : (G.split l).length = l.count 47 + 1 := by
  induction l with
  | nil => rw [G.split]; rfl
  | cons b l ih =>
    rw [G.split]
    by_cases h : b = 47
    · subst h; rw [if_pos rfl]; simp [ih]
    · rw [if_neg h, List.count_cons_of_ne (by simpa using h)]
      cases e : G.split l with
      | nil => rw [e] at ih; simp at ih
      | cons x r => rw [e] at ih; simpa using ih
end Go.Proofs.YtgcflmhlegagbaaGreatDoor.E
end
section
set_option linter.unusedVariables false
set_option linter.unusedSimpArgs false
namespace Go.Proofs.YtgcflmhlegagbaaGreatDoor.E
open Go.RowKit Go.Lib Go.Shelf
attribute [local irreducible] G.split
theorem parts_any (a b : ByteArray) (w : World) :
    Calls Tryz.prog 69 #[.string a, .string b] w fun e w' => e = .returned (.func (.func 98) #[] #[.pointer (some ⟨w.heap.size, 0, none⟩), .pointer (some ⟨w.heap.size + 1, 0, none⟩)]) ∧ w' = (w.alloc (.cells #[.string a] 9)).alloc (.cells #[.string b] 9) := by
  have hmf : ∀ (fn : Fn) (first cap : Array Value) (w : World), (Instr.makeFunc fn first cap).run Tryz.prog w = .ok (.func fn first cap) w := fun _ _ _ _ => rfl
  go_enter Tryz.func69, Tryz.ntmps69
  go_wp2
  go_ret
  exact ⟨by simp, rfl⟩
theorem cut_le (l : List UInt8) : (Lib.cut l [47]).2.1.length ≤ l.length := by
  induction l with
  | nil => rw [cut_nil]; simp
  | cons b l ih =>
    by_cases hb : b = 47
    · subst hb; rw [cut_here]; simp
    · rw [cut_on b hb]; simp; omega
theorem cut_le1 (l : List UInt8) : (Lib.cut l [47]).1.length ≤ l.length := by
  induction l with
  | nil => rw [cut_nil]; simp
  | cons b l ih =>
    by_cases hb : b = 47
    · subst hb; rw [cut_here]; simp
    · rw [cut_on b hb]; simp; omega
def boxLen (W : World) (B : Nat) : Nat := match W.heap[B]? with | some (.cells cs _ _) => (match cs.toList with | [.string s] => s.size | _ => 0) | _ => 0
theorem boxLen_eq {W : World} {B : Nat} {s : ByteArray} (h : W.heap[B]? = some (.cells #[.string s] 9 (0, 0))) : boxLen W B = s.size := by unfold boxLen; rw [h]
def moreOf : Value → Nat | .bool true => 1 | _ => 0
theorem box_cell {W : World} {B : Nat} {v : Value} (h : W.heap[B]? = some (.cells #[v] 9 (0, 0))) : W.cell? ⟨B, 0, none⟩ = some v := by simp [World.cell?, h]
theorem box_free {W : World} {B : Nat} {v : Value} (h : W.heap[B]? = some (.cells #[v] 9 (0, 0))) : W.frozen? ⟨B, 0, none⟩ = false := by simp [World.frozen?, h]
theorem box_set {W : World} {B : Nat} {v : Value} (v' : Value) (h : W.heap[B]? = some (.cells #[v] 9 (0, 0))) : (W.setCell ⟨B, 0, none⟩ v').heap[B]? = some (.cells #[v'] 9 (0, 0)) := Boxed.set v' h
abbrev Pr := List UInt8 × List UInt8
def prs (a b : List UInt8) : List Pr := (G.split a).zip (G.split b)
set_option maxHeartbeats 2000000 in
set_option maxRecDepth 100000 in
theorem iter_in (n l Ba Bb : Nat) (hab : Ba ≠ Bb) (a0 b0 : ByteArray) (ha0 : a0.size < 4294967281) (hb0 : b0.size < 4294967281) (J Jx : List Pr → World → Prop)
    (hJd : ∀ pre W q, J pre W → J pre (World.drewN W q)) (hJa : ∀ pre W v, J pre W → J pre (World.setCell W ⟨Ba, 0, none⟩ v)) (hJb : ∀ pre W v, J pre W → J pre (World.setCell W ⟨Bb, 0, none⟩ v))
    (hY : ∀ pre (x : Pr) W, J pre W → x.1.length ≤ a0.size → x.2.length ≤ b0.size → YieldAt Fence.wide (n - 1) Tryz.prog l #[.string ⟨x.1.toArray⟩, .string ⟨x.2.toArray⟩] W fun e W' =>
      (e = .returned (.bool true) ∧ J (pre ++ [x]) W' ∧ W'.heap[Ba]? = W.heap[Ba]? ∧ W'.heap[Bb]? = W.heap[Bb]?) ∨ (e = .returned (.bool false) ∧ Jx (pre ++ [x]) W'))
    (W : World) (hA : W.heap[Ba]? = some (.cells #[.string a0] 9 (0, 0))) (hB : W.heap[Bb]? = some (.cells #[.string b0] 9 (0, 0))) (h0 : J [] W) :
    CallsIn Fence.wide n Tryz.prog 98 #[.func (.yield l) #[] #[], .pointer (some ⟨Ba, 0, none⟩), .pointer (some ⟨Bb, 0, none⟩)] W fun e W' => (∃ v, e = .returned v) ∧
      (J (prs a0.data.toList b0.data.toList) W' ∨ (∃ pre, pre <+: prs a0.data.toList b0.data.toList ∧ Jx pre W')) := by
  refine callsIn_of_wp Tryz.func98 rfl trivial ?_ rfl
  simp only [Tryz.ntmps98, List.size_toArray, List.length_cons, List.length_nil, Nat.reduceAdd, Nat.reduceSub, Array.replicate_succ, Array.replicate_zero, List.push_toArray, List.append_toArray, List.nil_append, List.cons_append]
  gi_wp2
  gi_loopw [4] (fun t4 wr => ∃ (pre : List Pr) (m : Bool) (a b : ByteArray), t4 = .bool m ∧ a.size ≤ a0.size ∧ b.size ≤ b0.size ∧ prs a0.data.toList b0.data.toList = pre ++ (if m then prs a.data.toList b.data.toList else []) ∧ wr.heap[Ba]? = some (.cells #[.string a] 9 (0, 0)) ∧ wr.heap[Bb]? = some (.cells #[.string b] 9 (0, 0)) ∧ J pre wr)
    (fun t4 wr => moreOf t4 * (boxLen wr Ba + 1))
  case atStart => exact ⟨[], true, a0, b0, rfl, Nat.le_refl _, Nat.le_refl _, rfl, hA, hB, h0⟩
  case round =>
    obtain ⟨pre, m, a, b, rfl, hsa, hsb, hpr, hA1, hB1, hJ1⟩ := hrel
    cases m with
    | false =>
      gi_wp2
      go_end0
      exact ⟨⟨_, rfl⟩, .inl (by rw [hpr]; simpa using hJ1)⟩
    | true =>
      have hca := box_cell hA1
      have hcb := box_cell hB1
      have hz := zip_split a.data.toList b.data.toList
      have hla := cut_less a.data.toList
      have hla2 := cut_le a.data.toList
      have hlb2 := cut_le b.data.toList
      have hla1 := cut_le1 a.data.toList
      have hlb1 := cut_le1 b.data.toList
      have hal : a.data.toList.length = a.size := by simp
      have hbl : b.data.toList.length = b.size := by simp
      have kA := fun W => cut_one a 47 W (by omega)
      have kB := fun W => cut_one b 47 W (by omega)
      generalize Lib.cut a.data.toList [47] = ca at hz hla hla2 hla1 kA
      generalize Lib.cut b.data.toList [47] = cb at hz hlb2 hlb1 kB
      obtain ⟨a1, a2, a3⟩ := ca
      obtain ⟨b1, b2, b3⟩ := cb
      gi_wp2
      refine ⟨trivial, fun h => (by cases h), (callsIn_wide.2 (kA _)).mono ?_⟩
      rintro e w' ⟨rfl, q1, rfl⟩
      gi_wp2
      refine ⟨trivial, fun h => (by cases h), (callsIn_wide.2 (kB _)).mono ?_⟩
      rintro e w' ⟨rfl, q2, rfl⟩
      clear kA kB
      obtain ⟨fn, tmps, assign, body, hy, hR⟩ := hY pre (a1, b1) (wr.drewN (q1 + q2)) (hJd _ _ _ hJ1) (by dsimp only; omega) (by dsimp only; omega)
      dsimp only at hy
      gi_wp2
      refine ⟨fun h => (by cases h), hR.mono ?_⟩
      rintro e W' (⟨rfl, hJ', hBa, hBb⟩ | ⟨rfl, hJx'⟩)
      · have hA2 : W'.heap[Ba]? = some (.cells #[.string a] 9 (0, 0)) := hBa.trans hA1
        have hB2 : W'.heap[Bb]? = some (.cells #[.string b] 9 (0, 0)) := hBb.trans hB1
        have hca2 := box_cell hA2
        have hcb2 := box_cell hB2
        have hfa2 := box_free hA2
        have hfb2 := box_free hB2
        gi_wp2
        all_goals
          have hA3 := (Below.heap_setCell (W'.setCell ⟨Ba, 0, none⟩ (.string ⟨a2.toArray⟩)) ⟨Bb, 0, none⟩ (.string ⟨b2.toArray⟩) Ba hab).trans (box_set (.string ⟨a2.toArray⟩) hA2)
          have hB3 := box_set (.string ⟨b2.toArray⟩) ((Below.heap_setCell W' ⟨Ba, 0, none⟩ (.string ⟨a2.toArray⟩) Bb (Ne.symm hab)).trans hB2)
          have hJ3 := hJb _ _ (.string ⟨b2.toArray⟩) (hJa _ _ (.string ⟨a2.toArray⟩) hJ')
          have sa : (⟨a2.toArray⟩ : ByteArray).size = a2.length := by simp [ByteArray.size]
          have sb : (⟨b2.toArray⟩ : ByteArray).size = b2.length := by simp [ByteArray.size]
          have hp2 : prs a0.data.toList b0.data.toList = (pre ++ [(a1, b1)]) ++ (if a3 = true ∧ b3 = true then prs a2 b2 else []) := by
            rw [hpr, if_pos trivial]; unfold prs; rw [hz]; simp
          rw [boxLen_eq hA3, boxLen_eq hA1]
          refine ⟨⟨pre ++ [(a1, b1)], a3 && b3, ⟨a2.toArray⟩, ⟨b2.toArray⟩, by simp [*], by omega, by omega, by simpa using hp2, hA3, hB3, hJ3⟩, ?_⟩
          try (cases b3 <;> simp_all [moreOf] <;> omega)
      · gi_wp2
        refine bodyPost_ret (results_none rfl _ _ _) rfl ?_
        exact ⟨⟨_, rfl⟩, .inr ⟨pre ++ [(a1, b1)], by rw [hpr, if_pos trivial]; unfold prs; rw [hz]; exact ⟨_, by simp; rfl⟩, hJx'⟩⟩
end Go.Proofs.YtgcflmhlegagbaaGreatDoor.E
end
section
set_option linter.unusedVariables false
set_option linter.unusedSimpArgs false
namespace Go.Proofs.YtgcflmhlegagbaaGreatDoor.E
open Go.RowKit Go.Lib Go.Shelf Go.Proofs.YtgcflmhlegagbaaGreatDoorW.PrintWords Go.Proofs.YtgcflmhlegagbaaGreatDoorW.PrintLast Go.Proofs.YtgcflmhlegagbaaGreatDoorW.PrintMore
attribute [local irreducible] G.split G.right
/-- The world behind the result's new cell, and what lies above it. -/
def Res (w W : World) : Prop := Below (w.heap.size + 1) (w.alloc (.cells #[.bool false] 4)) W
theorem Res.start (w : World) : Res w (w.alloc (.cells #[.bool false] 4)) := Below.refl _ _
theorem Res.step {w W W' : World} (h : Res w W) (k : Below W.heap.size W W') : Res w W' :=
  below_then h (by have := h.size; simpa using this) k
theorem Res.boxed {w W : World} (h : Res w W) : Boxed W w.heap.size 4 (.bool false) :=
  (h.block w.heap.size (by omega)).trans (Boxed.new w 4 (.bool false))
theorem Res.lt {w W : World} (h : Res w W) : w.heap.size < W.heap.size := by have := h.size; simp at this; omega
theorem Res.below {w W : World} (h : Res w W) : Below w.heap.size w W :=
  below_step (below_alloc (Below.refl w.heap.size w) (.cells #[.bool false] 4)) (by simpa [Res] using h)
theorem Res.set {w W : World} (h : Res w W) (v : Value) : Below w.heap.size w (W.setCell ⟨w.heap.size, 0, none⟩ v) := below_set h.below (Nat.le_refl _)
theorem setcell_same {W : World} {B : Nat} {v0 : Value} (b : Bool) (h : W.cell? ⟨B, 0, none⟩ = some v0) : (W.setCell ⟨B, 0, none⟩ (.bool b)).cell? ⟨B, 0, none⟩ = some (.bool b) := World.cell?_setCell_same' _ _ _ (by rw [h]; rfl)
attribute [local irreducible] Res
set_option maxHeartbeats 2000000 in
set_option maxRecDepth 100000 in
theorem Match_not (p s : ByteArray) (w : World) (hp : p.size < 4294967281) (hs : s.size < 4294967281) (h : ¬ (G.right true p.data.toList = true ∧ G.right false s.data.toList = true ∧ p.data.toList.count 47 = s.data.toList.count 47)) :
    Calls Tryz.prog 44 #[.string p, .string s] w fun e w' => e = .returned (.bool false) ∧ Below w.heap.size w w' := by
  have hR := fun W => Right_any p W hp
  have hP := fun W => Path_any s W hs
  have hC1 := fun W => Tryz.strings_Count_one p 47 W
  have hC2 := fun W => Tryz.strings_Count_one s 47 W
  simp only [Lib.countByte] at hC1 hC2
  generalize G.right true p.data.toList = r1 at hR h
  generalize G.right false s.data.toList = r2 at hP h
  generalize p.data.toList.count 47 = c1 at hC1 h
  generalize s.data.toList.count 47 = c2 at hC2 h
  have HB := Aside0.mk (Res.start w)
  cases r1 with
  | false =>
    clear h
    go_enter Tryz.func44, Tryz.ntmps44
    go_wp2_with (first
      | (go_at_call 41; refine (hR _).mono ?_; clear hR; rintro e w' ⟨rfl, hb⟩; have HC := Aside0.mk (HB.out.step hb); clear hb HB; have hc := HC.out.boxed.cell; have hf := HC.out.boxed.frozen))
    have hc5 := setcell_same false hc
    refine bodyPost_ret (v := .bool false) (by simp [results, Tryz.f44, go_sem, hc5]) rfl ⟨rfl, HC.out.set _⟩
  | true =>
    cases r2 with
    | false =>
      clear h
      go_enter Tryz.func44, Tryz.ntmps44
      go_wp2_with (first
        | (go_at_call 41; refine (hR _).mono ?_; clear hR; rintro e w' ⟨rfl, hb⟩; have HC := Aside0.mk (HB.out.step hb); clear hb HB)
        | (go_at_call 18; refine (hP _).mono ?_; clear hP; rintro e w' ⟨rfl, hb⟩; have HD := Aside0.mk (HC.out.step hb); clear hb HC; have hc := HD.out.boxed.cell; have hf := HD.out.boxed.frozen))
      have hc5 := setcell_same false hc
      refine bodyPost_ret (v := .bool false) (by simp [results, Tryz.f44, go_sem, hc5]) rfl ⟨rfl, HD.out.set _⟩
    | true =>
      have hne : ¬ (c1 : Int) = (c2 : Int) := fun e => h ⟨rfl, rfl, by omega⟩
      have hbq : ((c1 : Int) != (c2 : Int)) = true := by simpa using hne
      have hbq2 : ((c1 : Int) == (c2 : Int)) = false := by simpa using hne
      have hnn : ¬ c1 = c2 := fun e => h ⟨rfl, rfl, e⟩
      clear h
      go_enter Tryz.func44, Tryz.ntmps44
      go_wp2_with (first
        | (go_at_call 41; refine (hR _).mono ?_; clear hR; rintro e w' ⟨rfl, hb⟩; have HC := Aside0.mk (HB.out.step hb); clear hb HB)
        | (go_at_call 18; refine (hP _).mono ?_; clear hP; rintro e w' ⟨rfl, hb⟩; have HD := Aside0.mk (HC.out.step hb); clear hb HC; have hc := HD.out.boxed.cell; have hf := HD.out.boxed.frozen)
        | (go_at_call 68; refine (hC1 _).mono ?_; clear hC1; rintro e w' ⟨rfl, rfl⟩)
        | (go_at_call 68; refine (hC2 _).mono ?_; clear hC2; rintro e w' ⟨rfl, rfl⟩))
      have hc5 := setcell_same false hc
      refine bodyPost_ret (v := .bool false) (by simp [results, Tryz.f44, go_sem, hc5]) rfl ⟨rfl, HD.out.set _⟩
end Go.Proofs.YtgcflmhlegagbaaGreatDoor.E
end
section
set_option linter.unusedVariables false
set_option linter.unusedSimpArgs false
namespace Go.Proofs.YtgcflmhlegagbaaGreatDoor.E
open Go.RowKit Go.Lib Go.Shelf Go.Proofs.YtgcflmhlegagbaaGreatDoorW.PrintWords Go.Proofs.YtgcflmhlegagbaaGreatDoorW.PrintLast Go.Proofs.YtgcflmhlegagbaaGreatDoorW.PrintMore
attribute [local irreducible] G.split G.right
attribute [local go_sem] Oper.semAt_some
/-- The loop's two codes: the assignment to its left sides, its body. -/
def cR : Code → Code | .seq _ b => b | c => c
def cL : Code → Code | .seq a _ => a | c => c
def cB : Code → Code | .block _ c => c | c => c
def rA : Code → Code | .rangeFunc _ _ a _ => a | c => c
def rB : Code → Code | .rangeFunc _ _ _ b => b | c => c
def loopOf (f : Go.Func) : Code := cB (cR (cL (cR (cR (f.body.getD .skip)))))
def mTmps (p s : ByteArray) (c : Int) (Br Ba Bb : Nat) (x y : Value) : Array Value :=
  #[.string p, .string s, undef, undef, .pointer (some ⟨Br, 0, none⟩), undef, undef, .string p, .bool true, .bool false, .bool false, .string s, .bool true, .bool false, .bool false, .bool false, .string p, .int .i64 c, .string s, .int .i64 c, .bool false, .bool false, .string p, .string s, .func (.func 98) #[] #[.pointer (some ⟨Ba, 0, none⟩), .pointer (some ⟨Bb, 0, none⟩)], x, y, undef, undef, undef, undef]
def mRec (A B : Code) (fn : FuncId) (p s : ByteArray) (c : Int) (Br Ba Bb D : Nat) (st : LoopState) (pend : Option Code) : Loop :=
  { state := st, pending := pend, fn, tmps := mTmps p s c Br Ba Bb undef undef, params := #[25, 26], assign := A, body := B, defers := D }
/-- The result's cell holds res; the record stands so; the block of deferred calls is open and empty. -/
structure MAt (fn : FuncId) (p s : ByteArray) (c : Int) (Br Ba Bb l D : Nat) (res : Bool) (st : LoopState) (pend : Option Code) (W : World) : Prop where
  R : W.heap[Br]? = some (.cells #[.bool res] 4 (0, 0))
  L : W.heap[l]? = some (.loop (mRec (rA (loopOf Tryz.f44)) (rB (loopOf Tryz.f44)) fn p s c Br Ba Bb D st pend))
  K : W.heap[D]? = some (.deferred (some []))
theorem MAt.same {fn p s c Br Ba Bb l D res st pend} {W W' : World} (h : MAt fn p s c Br Ba Bb l D res st pend W) (e1 : W'.heap[Br]? = W.heap[Br]?) (e2 : W'.heap[l]? = W.heap[l]?) (e3 : W'.heap[D]? = W.heap[D]?) : MAt fn p s c Br Ba Bb l D res st pend W' :=
  ⟨e1.trans h.R, e2.trans h.L, e3.trans h.K⟩
theorem below_put {B : Nat} {a w : World} (h : Below B a w) {l : Nat} (hl : B ≤ l) (o : Obj) : Below B a (w.putObj l o) :=
  h.trans ⟨rfl, rfl, rfl, by simp [World.putObj], fun k hk => World.putObj_heap_other (by omega)⟩
def AllPm (l : List Pr) : Prop := ∀ y ∈ l, G.pm y.1 y.2 = true
def SomeNot (l : List Pr) : Prop := ∃ y ∈ l, G.pm y.1 y.2 = false
def MPost (p s : ByteArray) (c : Int) (Br Ba Bb l D n0 : Nat) (w : World) (fn : FuncId) (pre : List Pr) (W : World) (e : Ending) (W' : World) : Prop :=
  (e = .returned (.bool true) ∧ (AllPm pre ∧ MAt fn p s c Br Ba Bb l D false .ready none W' ∧ Below n0 w W') ∧ W'.heap[Ba]? = W.heap[Ba]? ∧ W'.heap[Bb]? = W.heap[Bb]?) ∨
  (e = .returned (.bool false) ∧ (SomeNot pre ∧ MAt fn p s c Br Ba Bb l D false .done (some .ret) W' ∧ Below n0 w W'))
theorem box_cell4 {W : World} {B : Nat} {v : Value} (h : W.heap[B]? = some (.cells #[v] 4 (0, 0))) : W.cell? ⟨B, 0, none⟩ = some v ∧ W.frozen? ⟨B, 0, none⟩ = false := by simp [World.cell?, World.frozen?, h]
theorem below_drewN {B : Nat} {a w : World} (h : Below B a w) (q : Nat) : Below B a (w.drewN q) := h.trans ⟨rfl, rfl, rfl, Nat.le_refl _, fun _ _ => rfl⟩
set_option maxRecDepth 100000 in
set_option maxHeartbeats 4000000 in
theorem mYield (m : Nat) (fn : FuncId) (p s : ByteArray) (hp : p.size < 4294967281) (hs : s.size < 4294967281) (c : Int) (Br Ba Bb l D n0 : Nat) (w : World) (h1 : Br ≠ l) (h2 : D ≠ l) (h3 : D ≠ Br) (h4 : Ba ≠ Br) (h5 : Bb ≠ Br) (h6 : Ba ≠ l) (h7 : Bb ≠ l) (h8 : n0 ≤ Br) (h9 : n0 ≤ l)
    (pre : List Pr) (x : Pr) (W : World) (hx1 : x.1.length ≤ p.size) (hx2 : x.2.length ≤ s.size) (hq : AllPm pre) (h : MAt fn p s c Br Ba Bb l D false .ready none W) (hB : Below n0 w W) :
    YieldAt Fence.wide m Tryz.prog l #[.string ⟨x.1.toArray⟩, .string ⟨x.2.toArray⟩] W (MPost p s c Br Ba Bb l D n0 w fn (pre ++ [x]) W) := by
  have hpm := fun W => part_any ⟨x.1.toArray⟩ ⟨x.2.toArray⟩ W (by simp [ByteArray.size]; omega) (by simp [ByteArray.size]; omega)
  simp only [List.toList_toArray] at hpm
  have hq2 : ∀ b, G.pm x.1 x.2 = b → (b = true → AllPm (pre ++ [x])) ∧ (b = false → SomeNot (pre ++ [x])) := by
    intro b hb
    refine ⟨fun e y hy => ?_, fun e => ⟨x, by simp, by rw [hb, e]⟩⟩
    rcases List.mem_append.1 hy with hy | hy
    · exact hq y hy
    · obtain rfl : y = x := by simpa using hy
      rw [hb, e]
  clear hq
  generalize hbe : G.pm x.1 x.2 = b at hpm hq2
  have hq3 := hq2 b rfl
  clear hq2 hbe
  refine ⟨fn, mTmps p s c Br Ba Bb (.string ⟨x.1.toArray⟩) (.string ⟨x.2.toArray⟩), rA (loopOf Tryz.f44), rB (loopOf Tryz.f44), by simpa [mRec, mTmps] using run_yield (P := Tryz.prog) (args := #[.string ⟨x.1.toArray⟩, .string ⟨x.2.toArray⟩]) h.L rfl, roundIn_of_wpIn trivial ?_⟩
  have hl : l < W.heap.size := (Array.getElem?_eq_some_iff.1 h.L).1
  have hbr := run_beginRound (P := Tryz.prog) h.L rfl
  obtain ⟨W2, hW2⟩ : ∃ W2, W.putObj l (.loop { mRec (rA (loopOf Tryz.f44)) (rB (loopOf Tryz.f44)) fn p s c Br Ba Bb D .ready none with state := .busy }) = W2 := ⟨_, rfl⟩
  rw [hW2] at hbr
  have hk : ∀ k, k ≠ l → W2.heap[k]? = W.heap[k]? := fun k hk => by rw [← hW2]; exact World.putObj_heap_other hk
  have hR2 := (hk Br h1).trans h.R
  have hK2 := (hk D h2).trans h.K
  have hL2 : W2.heap[l]? = some (.loop { mRec (rA (loopOf Tryz.f44)) (rB (loopOf Tryz.f44)) fn p s c Br Ba Bb D .ready none with state := .busy }) := by rw [← hW2]; exact World.putObj_heap_same hl
  have hB2 : Below n0 w W2 := by rw [← hW2]; exact below_put hB h9 _
  have hA2 := hk Ba h6
  have hC2 := hk Bb h7
  clear hW2 hk h hB
  have HF := Lib.hid (And.intro hR2 (And.intro hK2 (And.intro hL2 (And.intro hB2 (And.intro hA2 hC2)))))
  clear hR2 hK2 hL2 hB2 hA2 hC2
  dsimp only [loopOf, Tryz.f44, Option.getD, cR, cL, cB, rA, rB]
  unfold mTmps
  cases b with
  | true =>
    have hq4 := hq3.1 rfl
    clear hq3
    gi_wp2
    refine ⟨trivial, fun h => (by cases h), (CallsIn.inRound l (callsIn_wide.2 (hpm _))).mono ?_⟩
    rintro e w' ⟨rfl, q, rfl⟩
    gi_wp2
    obtain ⟨hR2, hK2, hL2, hB2, hA2, hC2⟩ := HF.out
    have hL3 : (W2.drewN q).heap[l]? = _ := hL2
    have hl3 := (Array.getElem?_eq_some_iff.1 hL3).1
    exact ⟨_, _, run_endRound none hL3, .inl ⟨rfl, ⟨hq4, ⟨(World.putObj_heap_other h1).trans hR2, World.putObj_heap_same hl3, (World.putObj_heap_other h2).trans hK2⟩, below_put (below_drewN hB2 q) h9 _⟩, (World.putObj_heap_other h6).trans hA2, (World.putObj_heap_other h7).trans hC2⟩⟩
  | false =>
    have hq4 := hq3.2 rfl
    clear hq3
    have hcr := box_cell4 HF.out.1
    gi_wp2
    refine ⟨trivial, fun h => (by cases h), (CallsIn.inRound l (callsIn_wide.2 (hpm _))).mono ?_⟩
    rintro e w' ⟨rfl, q, rfl⟩
    gi_wp2
    obtain ⟨hR2, hK2, hL2, hB2, hA2, hC2⟩ := HF.out
    have hL3 : ((W2.drewN q).setCell ⟨Br, 0, none⟩ (.bool false)).heap[l]? = _ := (Below.heap_setCell (W2.drewN q) ⟨Br, 0, none⟩ _ l (Ne.symm h1)).trans hL2
    have hl3 := (Array.getElem?_eq_some_iff.1 hL3).1
    have hR3 : Boxed ((W2.drewN q).setCell ⟨Br, 0, none⟩ (.bool false)) Br 4 (.bool false) := Boxed.set (.bool false) (show Boxed (W2.drewN q) Br 4 (.bool false) from hR2)
    exact ⟨_, _, run_endRound (some .ret) hL3, .inr ⟨rfl, hq4, ⟨(World.putObj_heap_other h1).trans hR3, World.putObj_heap_same hl3, (World.putObj_heap_other h2).trans ((Below.heap_setCell (W2.drewN q) ⟨Br, 0, none⟩ _ D h3).trans hK2)⟩, below_put ((below_drewN hB2 q).setCell (p := ⟨Br, 0, none⟩) h8 _) h9 _⟩⟩
def MOut (w : World) (b : Bool) (e : Ending) (w' : World) : Prop := e = .returned (.bool b) ∧ Below w.heap.size w w'
set_option maxRecDepth 100000 in
set_option maxHeartbeats 8000000 in
theorem Match_yes (p s : ByteArray) (w : World) (hp : p.size < 4294967281) (hs : s.size < 4294967281) (h1 : G.right true p.data.toList = true) (h2 : G.right false s.data.toList = true) (h3 : p.data.toList.count 47 = s.data.toList.count 47) :
    Calls Tryz.prog 44 #[.string p, .string s] w (MOut w ((prs p.data.toList s.data.toList).all (fun x => G.pm x.1 x.2))) := by
  have hR := fun W => Right_any p W hp
  have hP := fun W => Path_any s W hs
  have hC1 := fun W => Tryz.strings_Count_one p 47 W
  have hC2 := fun W => Tryz.strings_Count_one s 47 W
  have hPa := fun W => parts_any p s W
  simp only [Lib.countByte] at hC1 hC2
  rw [h1] at hR
  rw [h2] at hP
  rw [← h3] at hC2
  generalize hc : p.data.toList.count 47 = c at hC1 hC2
  have HB := Aside0.mk (Res.start w)
  clear h1 h2 h3 hc
  generalize hr : (prs p.data.toList s.data.toList).all (fun x => G.pm x.1 x.2) = r
  have HR := Lib.hid hr
  clear hr
  refine (callsIn_wide (n := 3)).1 ?_
  refine callsIn_of_wp_marks Tryz.func44 rfl trivial ?_ rfl
  simp only [Tryz.ntmps44, List.size_toArray, List.length_cons, List.length_nil, Nat.reduceAdd, Nat.reduceSub, Array.replicate_succ, Array.replicate_zero, List.push_toArray, List.append_toArray, List.nil_append, List.cons_append]
  gi_wp2
  refine ⟨trivial, (callsIn_wide.2 (hR _)).mono ?_⟩
  rintro e w' ⟨rfl, hb⟩
  have HC := Aside0.mk (HB.out.step hb); clear hb HB
  gi_wp2
  refine ⟨trivial, (callsIn_wide.2 (hP _)).mono ?_⟩
  rintro e w1 ⟨rfl, hb⟩
  have HD := Aside0.mk (HC.out.step hb); clear hb HC
  gi_wp2
  refine ⟨trivial, (callsIn_wide.2 (hC1 _)).mono ?_⟩
  rintro e w' ⟨rfl, rfl⟩
  gi_wp2
  refine ⟨trivial, (callsIn_wide.2 (hC2 _)).mono ?_⟩
  rintro e w' ⟨rfl, rfl⟩
  gi_wp2
  refine ⟨trivial, (callsIn_wide.2 (hPa _)).mono ?_⟩
  rintro e w' ⟨rfl, rfl⟩
  gi_wp2
  refine wpIn_rangeFunc ?_
  intro fn hfn
  have hRb := HD.out.boxed
  have hRl := HD.out.lt
  have hRB := HD.out.below
  clear hR hP hC1 hC2 hPa HD
  obtain ⟨W0, hW0⟩ : ∃ W0, (w'.alloc (.cells #[.string p] 9)).alloc (.cells #[.string s] 9) = W0 := ⟨_, rfl⟩
  have hs0 : W0.heap.size = w'.heap.size + 2 := by rw [← hW0]; simp
  have hR0 : W0.heap[w.heap.size]? = some (.cells #[.bool false] 4 (0, 0)) := by
    rw [← hW0]; exact ((Below.heap_alloc _ _ _ (by simp; omega)).trans (Below.heap_alloc _ _ _ hRl)).trans hRb
  have hA0 : W0.heap[w'.heap.size]? = some (.cells #[.string p] 9 (0, 0)) := by
    rw [← hW0]; exact (Below.heap_alloc _ _ _ (by simp)).trans (World.alloc_heap_new w' _)
  have hB0 : W0.heap[w'.heap.size + 1]? = some (.cells #[.string s] 9 (0, 0)) := by
    rw [← hW0]; have := World.alloc_heap_new (w'.alloc (.cells #[.string p] 9)) (.cells #[.string s] 9); rwa [World.size_alloc] at this
  have hBe0 : Below w.heap.size w W0 := by rw [← hW0]; exact (hRB.alloc (by omega) _).alloc (by simp; omega) _
  rw [hW0]
  clear hW0 hRb hRB
  obtain ⟨Ba, hBa⟩ : ∃ Ba, Ba = w'.heap.size := ⟨_, rfl⟩
  obtain ⟨Bb, hBb⟩ : ∃ Bb, Bb = w'.heap.size + 1 := ⟨_, rfl⟩
  rw [← hBa] at hA0 ⊢
  rw [← hBb] at hB0
  have hbb : Ba + 1 = Bb := by omega
  simp only [hbb]
  obtain ⟨Br, hBr⟩ : ∃ Br, Br = w.heap.size := ⟨_, rfl⟩
  rw [← hBr] at hR0 ⊢
  obtain ⟨W1, hW1⟩ : ∃ W1, (W0.alloc (.deferred (some []))).alloc (.loop (mRec (rA (loopOf Tryz.f44)) (rB (loopOf Tryz.f44)) fn p s (c : Int) Br Ba Bb W0.heap.size .ready none)) = W1 := ⟨_, rfl⟩
  have hold : ∀ k, k < W0.heap.size → W1.heap[k]? = W0.heap[k]? := fun k hk => by
    rw [← hW1]; exact (Below.heap_alloc _ _ k (by simp; omega)).trans (Below.heap_alloc _ _ k hk)
  have hBe1 : Below w.heap.size w W1 := by rw [← hW1]; exact (hBe0.alloc (by omega) _).alloc (by simp; omega) _
  have hM : MAt fn p s (c : Int) Br Ba Bb (W0.heap.size + 1) W0.heap.size false .ready none W1 :=
    ⟨(hold Br (by omega)).trans hR0,
     by rw [← hW1]; have := World.alloc_heap_new (W0.alloc (.deferred (some []))) (.loop (mRec (rA (loopOf Tryz.f44)) (rB (loopOf Tryz.f44)) fn p s (c : Int) Br Ba Bb W0.heap.size .ready none)); rwa [World.size_alloc] at this,
     by rw [← hW1]; exact (Below.heap_alloc _ _ _ (by simp)).trans (World.alloc_heap_new W0 _)⟩
  have hA1 := (hold Ba (by omega)).trans hA0
  have hB1 := (hold Bb (by omega)).trans hB0
  obtain ⟨D, hD⟩ : ∃ D, D = W0.heap.size := ⟨_, rfl⟩
  have hen : (Instr.enterLoop fn (mTmps p s (c : Int) Br Ba Bb undef undef) #[25, 26] (rA (loopOf Tryz.f44)) (rB (loopOf Tryz.f44)) none).run Tryz.prog W0 = .ok (D + 1, [{ target := .collected D, args := #[] }]) W1 := by
    rw [← hW1, hD]; exact run_enterLoop_outer fn _ _ _ _
  rw [← hD] at hM
  have hDB : w.heap.size ≤ Br ∧ Br < Ba ∧ Ba < Bb ∧ Bb < D := by omega
  clear hW1 hold hBe0 hA0 hB0 hR0
  clear hbb hBr hBa hBb hD hs0 hRl
  have HL := Lib.hid (And.intro hBe1 (And.intro hA1 (And.intro hB1 (And.intro hM hen))))
  clear hBe1 hA1 hB1 hM hen
  refine ⟨D + 1, [{ target := .collected D, args := #[] }], W1, { target := .fn (.func 98) #[.pointer (some ⟨Ba, 0, none⟩), .pointer (some ⟨Bb, 0, none⟩)], args := #[.func (.yield (D + 1)) #[] #[]] }, W1, 98,
    #[.func (.yield (D + 1)) #[] #[], .pointer (some ⟨Ba, 0, none⟩), .pointer (some ⟨Bb, 0, none⟩)], W1, HL.out.2.2.2.2, ?_, ?_, ?_, fun _ => (by decide), ?_⟩
  · simp [resolve, go_sem]
  · intro f' hf'; trivial
  · simp [invoke, go_sem]
  · refine (iter_in 2 (D + 1) Ba Bb (by omega) p s hp hs
      (fun pre W => AllPm pre ∧ MAt fn p s (c : Int) Br Ba Bb (D + 1) D false .ready none W ∧ Below w.heap.size w W)
      (fun pre W => SomeNot pre ∧ MAt fn p s (c : Int) Br Ba Bb (D + 1) D false .done (some .ret) W ∧ Below w.heap.size w W)
      (fun pre W q h => ⟨h.1, h.2.1.same rfl rfl rfl, below_drewN h.2.2 q⟩)
      (fun pre W v h => ⟨h.1, h.2.1.same (Below.heap_setCell _ _ _ _ (by show Br ≠ Ba; omega)) (Below.heap_setCell _ _ _ _ (by show D + 1 ≠ Ba; omega)) (Below.heap_setCell _ _ _ _ (by show D ≠ Ba; omega)), h.2.2.setCell (p := ⟨Ba, 0, none⟩) (by show w.heap.size ≤ Ba; omega) _⟩)
      (fun pre W v h => ⟨h.1, h.2.1.same (Below.heap_setCell _ _ _ _ (by show Br ≠ Bb; omega)) (Below.heap_setCell _ _ _ _ (by show D + 1 ≠ Bb; omega)) (Below.heap_setCell _ _ _ _ (by show D ≠ Bb; omega)), h.2.2.setCell (p := ⟨Bb, 0, none⟩) (by show w.heap.size ≤ Bb; omega) _⟩)
      (fun pre x W h hx1 hx2 => mYield (2 - 1) fn p s hp hs (c : Int) Br Ba Bb (D + 1) D w.heap.size w (by omega) (by omega) (by omega) (by omega) (by omega) (by omega) (by omega) (by omega) (by omega) pre x W hx1 hx2 h.1 h.2.1 h.2.2)
      W1 HL.out.2.1 HL.out.2.2.1 ⟨fun y hy => (by cases hy), HL.out.2.2.2.1, HL.out.1⟩).mono ?_
    clear HL
    rintro e W2 ⟨⟨v, rfl⟩, (⟨hall, h2, hBe2⟩ | ⟨pre, hpre, hnot, h2, hBe2⟩)⟩
    · have hres : (prs p.data.toList s.data.toList).all (fun x => G.pm x.1 x.2) = true := List.all_eq_true.2 hall
      have hend := run_endLoop (P := Tryz.prog) h2.L (by simp [mRec])
      obtain ⟨W3, hW3⟩ : ∃ W3, W2.putObj (D + 1) (.loop { mRec (rA (loopOf Tryz.f44)) (rB (loopOf Tryz.f44)) fn p s (c : Int) Br Ba Bb D .ready none with state := .exhausted }) = W3 := ⟨_, rfl⟩
      rw [hW3] at hend
      have hR3 : Boxed W3 Br 4 (.bool false) := by rw [← hW3]; exact (World.putObj_heap_other (by omega)).trans h2.R
      have hK3 : W3.heap[D]? = some (.deferred (some [])) := by rw [← hW3]; exact (World.putObj_heap_other (by omega)).trans h2.K
      have hBe3 : Below w.heap.size w W3 := by rw [← hW3]; exact below_put hBe2 (by omega) _
      clear hW3 h2 hBe2
      have hcr := hR3.cell
      have hfr := hR3.frozen
      refine ⟨none, W3, hend, ?_⟩
      have hBe4 : Below w.heap.size w (W3.setCell ⟨Br, 0, none⟩ (.bool true)) := hBe3.setCell (p := ⟨Br, 0, none⟩) hDB.1 _
      have hK4 : (W3.setCell ⟨Br, 0, none⟩ (.bool true)).heap[D]? = some (.deferred (some [])) := (Below.heap_setCell W3 ⟨Br, 0, none⟩ _ _ (by show D ≠ Br; omega)).trans hK3
      have hR4 : Boxed (W3.setCell ⟨Br, 0, none⟩ (.bool true)) Br 4 (.bool true) := Boxed.set (.bool true) hR3
      have HL := Lib.hid (And.intro hBe4 (And.intro hK4 hR4))
      clear hBe4 hK4 hR4 hend hR3 hK3 hBe3
      have HS := Lib.hid hres
      clear hres
      gi_wp2
      obtain ⟨hBe4, hK4, hR4⟩ := HL.out
      refine ⟨by simp, .inl ⟨_, _, rfl, run_takeDeferred hK4, ?_⟩⟩
      have hR5 : Boxed ((W3.setCell ⟨Br, 0, none⟩ (.bool true)).putObj D (.deferred none)) Br 4 (.bool true) := (World.putObj_heap_other (k := Br) (by omega)).trans hR4
      have hc5 := hR5.cell
      refine ⟨.bool true, ?_, by rw [← HR.out, HS.out], below_put hBe4 (by omega) _⟩
      simp [results, Tryz.f44, go_sem, hc5]
    · have hres : (prs p.data.toList s.data.toList).all (fun x => G.pm x.1 x.2) = false := by
        obtain ⟨y, hy, hn⟩ := hnot
        refine Bool.eq_false_iff.2 fun ha => ?_
        have := List.all_eq_true.1 ha y (hpre.subset hy)
        simp [hn] at this
      have hend := run_endLoop (P := Tryz.prog) h2.L (by simp [mRec])
      obtain ⟨W3, hW3⟩ : ∃ W3, W2.putObj (D + 1) (.loop { mRec (rA (loopOf Tryz.f44)) (rB (loopOf Tryz.f44)) fn p s (c : Int) Br Ba Bb D .done (some .ret) with state := .exhausted }) = W3 := ⟨_, rfl⟩
      rw [hW3] at hend
      have hR3 : Boxed W3 Br 4 (.bool false) := by rw [← hW3]; exact (World.putObj_heap_other (by omega)).trans h2.R
      have hK3 : W3.heap[D]? = some (.deferred (some [])) := by rw [← hW3]; exact (World.putObj_heap_other (by omega)).trans h2.K
      have hBe3 : Below w.heap.size w W3 := by rw [← hW3]; exact below_put hBe2 (by omega) _
      clear hW3 h2 hBe2
      refine ⟨some .ret, W3, hend, ?_⟩
      have HL := Lib.hid (And.intro hBe3 (And.intro hK3 hR3))
      clear hBe3 hend hR3 hK3
      have HS := Lib.hid hres
      clear hres hnot hpre
      gi_wp2
      obtain ⟨hBe4, hK4, hR4⟩ := HL.out
      refine ⟨by simp, .inl ⟨_, _, rfl, run_takeDeferred hK4, ?_⟩⟩
      have hR5 : Boxed (W3.putObj D (.deferred none)) Br 4 (.bool false) := (World.putObj_heap_other (k := Br) (by omega)).trans hR4
      have hc5 := hR5.cell
      refine ⟨.bool false, ?_, by rw [← HR.out, HS.out], below_put hBe4 (by omega) _⟩
      simp [results, Tryz.f44, go_sem, hc5]
end Go.Proofs.YtgcflmhlegagbaaGreatDoor.E
end
section
set_option linter.unusedVariables false
set_option linter.unusedSimpArgs false
namespace Go.Proofs.YtgcflmhlegagbaaGreatDoor.E
open Go.RowKit Go.Lib Go.Shelf Go.Proofs.YtgcflmhlegagbaaGreatDoorW.PrintWords Go.Proofs.YtgcflmhlegagbaaGreatDoorW.PrintLast Go.Proofs.YtgcflmhlegagbaaGreatDoorW.PrintMore
/-- Whether a path is one of a pattern, both of which must be such as may be. -/
def may (p s : List UInt8) : Bool := G.right true p && G.right false s && G.mt p s
theorem mt_prs (p s : List UInt8) (h : p.count 47 = s.count 47) : G.mt p s = (prs p s).all (fun x => G.pm x.1 x.2) := by
  unfold G.mt prs; rw [split_count, split_count, h]; simp
theorem mt_ne (p s : List UInt8) (h : ¬ p.count 47 = s.count 47) : G.mt p s = false := by
  unfold G.mt; rw [split_count, split_count]; simp [h]
theorem Match_any (p s : ByteArray) (w : World) (hp : p.size < 4294967281) (hs : s.size < 4294967281) :
    Calls Tryz.prog 44 #[.string p, .string s] w fun e w' => e = .returned (.bool (may p.data.toList s.data.toList)) ∧ Below w.heap.size w w' := by
  by_cases h : G.right true p.data.toList = true ∧ G.right false s.data.toList = true ∧ p.data.toList.count 47 = s.data.toList.count 47
  · obtain ⟨h1, h2, h3⟩ := h
    have e : may p.data.toList s.data.toList = (prs p.data.toList s.data.toList).all (fun x => G.pm x.1 x.2) := by
      unfold may; rw [h1, h2, mt_prs _ _ h3]; rfl
    rw [e]
    exact Match_yes p s w hp hs h1 h2 h3
  · have e : may p.data.toList s.data.toList = false := by
      unfold may
      by_cases h1 : G.right true p.data.toList = true
      · by_cases h2 : G.right false s.data.toList = true
        · rw [mt_ne _ _ (fun h3 => h ⟨h1, h2, h3⟩), Bool.and_false]
        · rw [Bool.eq_false_iff.2 h2]; simp
      · rw [Bool.eq_false_iff.2 h1]; simp
    rw [e]
    exact Match_not p s w hp hs h
attribute [local irreducible] may
set_option maxHeartbeats 2000000 in
theorem any1 (p : ByteArray) (w : World) (hp : p.size < 4294967281) : Calls Tryz.prog 40 #[.string p] w fun e w' => e = .returned (.bool (!G.right true p.data.toList)) ∧ Below w.heap.size w w' := by
  have h1 := fun W => Right_any p W hp
  generalize G.right true p.data.toList = r at h1
  go_enter Tryz.func40, Tryz.ntmps40
  go_wp2_with (go_at_call 41; refine (h1 _).mono ?_; clear h1; rintro e w' ⟨rfl, hb⟩; have HC := Aside0.mk hb; clear hb)
  go_ret
  exact ⟨rfl, HC.out⟩
set_option maxHeartbeats 2000000 in
theorem any2 (p s : ByteArray) (B : Nat) (w : World) (hc : w.cell? ⟨B, 0, none⟩ = some (.string s)) (hp : p.size < 4294967281) (hs : s.size < 4294967281) : Calls Tryz.prog 43 (#[.string p] ++ #[.pointer (some ⟨B, 0, none⟩)]) w fun e w' => e = .returned (.bool (may p.data.toList s.data.toList)) ∧ Below w.heap.size w w' := by
  have h1 := fun W => Match_any p s W hp hs
  generalize may p.data.toList s.data.toList = r at h1
  show Calls Tryz.prog 43 #[.string p, .pointer (some ⟨B, 0, none⟩)] w _
  go_enter Tryz.func43, Tryz.ntmps43
  go_wp2_with (go_at_call 44; refine (h1 _).mono ?_; clear h1; rintro e w' ⟨rfl, hb⟩; have HC := Aside0.mk hb; clear hb)
  go_ret
  exact ⟨rfl, HC.out⟩
end Go.Proofs.YtgcflmhlegagbaaGreatDoor.E
end
section
set_option linter.unusedVariables false
set_option linter.unusedSimpArgs false
namespace Go.Proofs.YtgcflmhlegagbaaGreatDoor.E
open Go.RowKit Go.Lib Go.Shelf Go.Proofs.YtgcflmhlegagbaaGreatDoorW.PrintWords Go.Proofs.YtgcflmhlegagbaaGreatDoorW.PrintLast Go.Proofs.YtgcflmhlegagbaaGreatDoorW.PrintMore
attribute [local irreducible] G.split G.right may G.mt
theorem find_first (ps : List (List UInt8)) (f : List UInt8 → Bool) (i : Nat) (h : i < ps.length) (h1 : f ps[i] = true) (h2 : ∀ j, (hj : j < i) → f ps[j] = false) : ps.findIdx? f = some i := by
  rw [List.findIdx?_eq_some_iff_getElem]
  exact ⟨h, h1, fun j hj => by rw [h2 j hj]; simp⟩
theorem find_none (ps : List (List UInt8)) (f : List UInt8 → Bool) (h : ps.any f = false) : ps.findIdx? f = none := by
  rw [List.findIdx?_eq_none_iff]
  intro x hx
  have := List.any_eq_false.1 h x hx
  simpa using this
def dat (zs : List ByteArray) : List (List UInt8) := zs.map (fun z => z.data.toList)
def AnyOut (w : World) (r : Int × Int) (e : Ending) (w' : World) : Prop := e = .returned (.tuple #[.int .i64 r.1, .int .i64 r.2]) ∧ Below w.heap.size w w'
set_option maxHeartbeats 4000000 in
set_option maxRecDepth 100000 in
theorem Any_any (s : ByteArray) (a : Option Addr) (n c : Nat) (zs : List ByteArray) (w : World) (hs : s.size < 4294967281) (hzs : ∀ z ∈ zs, z.size < 4294967281)
    (hz : n = zs.length) (hbig : n ≤ 9223372036854775807) (ha : Kd.C Kd.string w a zs.length zs) :
    Calls Tryz.prog 17 #[.string s, .slice a n c] w (AnyOut w (G.which (dat zs) s.data.toList)) := by
  have hP := fun W => Path_any s W hs
  have hW1 : Below w.heap.size w (w.alloc (.cells #[.string s] 9)) := below_alloc (Below.refl _ _) _
  have ha' : ∀ W, Below w.heap.size w W → Kd.C Kd.string W a zs.length zs := fun W hW => Kd.C_below ha hW
  have hC : ∀ W, Below w.heap.size w W → Calls Tryz.prog 39 #[.slice a n c, .func (.func 40) #[] #[]] W fun e w' => e = .returned (.bool (!(dat zs).all (G.right true))) ∧ Below W.heap.size W w' := fun W hW => by
    have e : (!(dat zs).all (G.right true)) = zs.any (fun p => !G.right true p.data.toList) := by
      unfold dat; rw [List.all_map, List.not_all_eq_any_not]; rfl
    rw [e]
    exact strContains (fun p => !G.right true p.data.toList) 40 #[] (fun a w => enters_of Tryz.func40 (by kernel_rfl) rfl a w) a n c zs W (fun W' x hx hb => (any1 x W' (hzs x hx)).mono fun e w' ⟨h1, h2⟩ => ⟨h1, below_then hb hb.size h2⟩) hz hbig (ha' W hW)
  have hI : ∀ W, Below (w.heap.size + 1) (w.alloc (.cells #[.string s] 9)) W → G.right false s.data.toList = true → (dat zs).all (G.right true) = true → Calls Tryz.prog 42 #[.slice a n c, .func (.func 43) #[] #[.pointer (some ⟨w.heap.size, 0, none⟩)]] W fun e w' =>
      (∃ k : Int, e = .returned (.int .i64 k) ∧ G.which (dat zs) s.data.toList = (if k < 0 then (0, 36) else (k, 0))) ∧ Below W.heap.size W w' := fun W hW hr1 hr2 => by
    have hc : W.cell? ⟨w.heap.size, 0, none⟩ = some (.string s) := (hW.cell (p := ⟨w.heap.size, 0, none⟩) (by show w.heap.size < w.heap.size + 1; omega)).trans (Boxed.new w 9 (.string s)).cell
    have hbW : w.heap.size < W.heap.size := by have := hW.size; simp at this; omega
    have hW0 : Below w.heap.size w W := hW1.trans (hW.mono (by omega))
    refine (strIndex (fun p => may p.data.toList s.data.toList) 43 #[.pointer (some ⟨w.heap.size, 0, none⟩)] (fun a w => enters_of Tryz.func43 (by kernel_rfl) rfl a w) a n c zs W
      (fun W' x hx hb => (any2 x s w.heap.size W' ((hb.cell (p := ⟨w.heap.size, 0, none⟩) hbW).trans hc) (hzs x hx) hs).mono fun e w' ⟨h1, h2⟩ => ⟨h1, below_then hb hb.size h2⟩) hz hbig (ha' W hW0)).mono ?_
    rintro e w' ⟨⟨k, rfl, hk1, hk2, hk3⟩, hb⟩
    refine ⟨⟨k, rfl, ?_⟩, hb⟩
    have hm : ∀ p ∈ zs, may p.data.toList s.data.toList = G.mt p.data.toList s.data.toList := fun p hp => by
      have : G.right true p.data.toList = true := List.all_eq_true.1 hr2 _ (List.mem_map.2 ⟨p, hp, rfl⟩)
      unfold may; rw [hr1, this]; simp
    unfold G.which
    rw [if_pos ⟨hr1, hr2⟩]
    by_cases hk : k < 0
    · rw [if_pos hk, find_none]
      unfold dat
      rw [List.any_map]
      have h0 : ¬ zs.any (fun p => may p.data.toList s.data.toList) = true := fun h => by have := hk1.2 h; omega
      rw [← Bool.not_eq_true]
      intro h
      apply h0
      obtain ⟨x, hx, hf⟩ := List.any_eq_true.1 h
      exact List.any_eq_true.2 ⟨x, hx, by rw [hm x hx]; exact hf⟩
    · rw [if_neg hk]
      obtain ⟨i, rfl⟩ : ∃ i : Nat, k = (i : Int) := ⟨k.toNat, by omega⟩
      obtain ⟨hi, h1, h2⟩ := (hk2 i).1 rfl
      rw [find_first (dat zs) (fun p => G.mt p s.data.toList) i (by unfold dat; simpa using hi)]
      · unfold dat; rw [List.getElem_map]; rw [← hm _ (List.getElem_mem _)]; exact h1
      · intro j hj
        unfold dat; rw [List.getElem_map, ← hm _ (List.getElem_mem _)]; exact h2 j hj
  have hw0 : G.right false s.data.toList = false → G.which (dat zs) s.data.toList = (0, 1) := fun h => by unfold G.which; rw [if_neg (by rw [h]; simp)]
  have hw1 : (dat zs).all (G.right true) = false → G.which (dat zs) s.data.toList = (0, 1) := fun h => by unfold G.which; rw [if_neg (by rw [h]; simp)]
  generalize G.which (dat zs) s.data.toList = r at hI hw0 hw1
  generalize (dat zs).all (G.right true) = r2 at hC hI hw1
  generalize G.right false s.data.toList = r1 at hP hI hw0
  clear ha ha' hzs hz hbig hs
  have hbx := (Boxed.new w 9 (.string s)).cell
  cases r1 with
  | false =>
    obtain rfl := hw0 rfl
    clear hw0 hw1 hI hC
    go_enter Tryz.func17, Tryz.ntmps17
    go_wp2_with (go_at_call 18; refine (hP _).mono ?_; clear hP; rintro e w' ⟨rfl, hb⟩; have HC := Aside0.mk (below_step hW1 hb); clear hb)
    go_ret2
    exact ⟨rfl, HC.out⟩
  | true =>
    clear hw0
    cases r2 with
    | false =>
      obtain rfl := hw1 rfl
      clear hw1 hI
      have HC0 := Aside0.mk hC; clear hC
      go_enter Tryz.func17, Tryz.ntmps17
      go_wp2_with (first
       | (go_at_call 18; refine (hP _).mono ?_; clear hP; rintro e w' ⟨rfl, hb⟩; have HC := Aside0.mk (below_step hW1 hb); clear hb)
       | (go_at_call 39; refine (HC0.out _ HC.out).mono ?_; rintro e w' ⟨rfl, hb⟩; have HD := Aside0.mk (below_then HC.out HC.out.size hb); clear hb))
      go_ret2
      exact ⟨rfl, HD.out⟩
    | true =>
      clear hw1
      have HC0 := Aside0.mk hC; clear hC
      have HI0 := Aside0.mk hI; clear hI
      have HS := Aside0.mk (Below.refl (w.heap.size + 1) (w.alloc (.cells #[.string s] 9)))
      have hsz : (w.alloc (.cells #[.string s] 9)).heap.size = w.heap.size + 1 := by simp
      have HSZ := Aside0.mk hsz; clear hsz
      have HW := Aside0.mk hW1; clear hW1
      go_enter Tryz.func17, Tryz.ntmps17
      go_wp2_with (first
       | (go_at_call 18; refine (hP _).mono ?_; clear hP; rintro e w' ⟨rfl, hb⟩; have HC := Aside0.mk (below_then HS.out (by rw [HSZ.out]; exact Nat.le_refl _) hb); clear hb)
       | (go_at_call 39; refine (HC0.out _ (HW.out.trans (HC.out.mono (by omega)))).mono ?_; rintro e w' ⟨rfl, hb⟩; have HD := Aside0.mk (below_then HC.out (by have := HC.out.size; rw [HSZ.out] at this; exact this) hb); clear hb HC)
       | (go_at_call 42; refine (HI0.out _ HD.out trivial trivial).mono ?_; rintro e w' ⟨⟨k, rfl, hk⟩, hb⟩; have HE := Aside0.mk (below_then HD.out (by have := HD.out.size; rw [HSZ.out] at this; exact this) hb); have HK := Aside0.mk hk; clear hb hk HD))
      all_goals
        go_ret2
        refine ⟨?_, HW.out.trans (HE.out.mono (by omega))⟩
        rw [HK.out]
        first | (rw [if_pos (by assumption)]; rfl) | (rw [if_neg (by omega)]; rfl)
end Go.Proofs.YtgcflmhlegagbaaGreatDoor.E
end
