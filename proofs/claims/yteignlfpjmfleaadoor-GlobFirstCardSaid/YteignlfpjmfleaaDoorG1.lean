/- Which bytes may be: plain, Right's test, the parts' test; slices.IndexFunc and ContainsFunc at bytes and strings. -/
import Derived.Test.YteignlfpjmfleaaDoorPGlobMatchesx0
import Derived.Test.YteignlfpjmfleaaDoorGlob
import Derived.Test.YteignlfpjmfleaaDoorShelf
import Derived.Lib.SlBy
set_option linter.unusedVariables false
set_option linter.unusedSimpArgs false
namespace Go.Proofs.YteignlfpjmfleaaDoor.E
open Go.RowKit Go.Lib Go.Proofs.YteignlfpjmfleaaDoorW.PrintWords Go.Proofs.YteignlfpjmfleaaDoorW.PrintLast Go.Proofs.YteignlfpjmfleaaDoorW.PrintMore

theorem u8_all (p : UInt8 → Bool) (h : (List.range 256).all (fun n => p (UInt8.ofNat n)) = true) (c : UInt8) : p c = true := by
  have := List.all_eq_true.1 h c.toNat (List.mem_range.2 c.toNat_lt)
  simpa using this
theorem seps (c : UInt8) : decide (0 ≤ Lib.indexByte [46, 47, 95, 45] c) = (c == 46 || c == 47 || c == 95 || c == 45) := by
  have := u8_all (fun c => decide (0 ≤ Lib.indexByte [46, 47, 95, 45] c) == (c == 46 || c == 47 || c == 95 || c == 45)) (by decide +kernel) c
  simpa using this
theorem plain_eq (c : UInt8) : G.plainB c = ((decide (97 ≤ (c.toNat : Int)) && decide ((c.toNat : Int) ≤ 122)) || (decide (65 ≤ (c.toNat : Int)) && decide ((c.toNat : Int) ≤ 90)) || (decide (48 ≤ (c.toNat : Int)) && decide ((c.toNat : Int) ≤ 57)) || decide (0 ≤ Lib.indexByte [46, 47, 95, 45] c)) := by
  rw [seps]; unfold G.plainB
  have e : ∀ k : Nat, decide ((k : Int) ≤ (c.toNat : Int)) = decide (k ≤ c.toNat) := fun k => by congr 1; simp
  have e' : ∀ k : Nat, decide ((c.toNat : Int) ≤ (k : Int)) = decide (c.toNat ≤ k) := fun k => by congr 1; simp
  have a1 := e 97; have a2 := e 65; have a3 := e 48; have b1 := e' 122; have b2 := e' 90; have b3 := e' 57
  simp only [Int.cast_ofNat_Int] at a1 a2 a3 b1 b2 b3
  rw [a1, a2, a3, b1, b2, b3]
  simp only [Bool.or_assoc]
set_option maxHeartbeats 2000000 in
set_option maxRecDepth 100000 in
theorem plain_any (c : UInt8) (w : World) :
    Calls Tryd.prog 30 #[.int .u8 (c.toNat : Int)] w fun e w' => e = .returned (.bool (G.plainB c)) ∧ w' = w := by
  have hcall : ∀ W, Calls Tryd.prog 48 #[.string ⟨#[46, 47, 95, 45]⟩, .int .u8 (c.toNat : Int)] W fun e w' => e = .returned (.int .i64 (Lib.indexByte [46, 47, 95, 45] c)) ∧ w' = W := by
    intro W
    have := Tryd.strings_IndexByte ⟨#[46, 47, 95, 45]⟩ (c.toNat : Int) W
    rwa [Int.toNat_natCast, show c.toNat.toUInt8 = c from by simp] at this
  rw [plain_eq]
  generalize Lib.indexByte [46, 47, 95, 45] c = ix at hcall
  generalize (c.toNat : Int) = n at hcall
  go_enter Tryd.func30, Tryd.ntmps30
  go_wp2_with (go_at_call 48; refine (hcall _).mono ?_; rintro _ _ ⟨rfl, rfl⟩)
  all_goals (go_ret; refine ⟨?_, rfl⟩; show Ending.returned (.bool _) = .returned (.bool _); congr 2 <;> (rw [Bool.eq_iff_iff]; (first | (simp; done) | (simp; omega))))
theorem plain_quiet (c : UInt8) (w : World) : Calls Tryd.prog 30 #[.int .u8 (c.toNat : Int)] w fun e w' => e = .returned (.bool (G.byt false c)) ∧ ∃ q, w' = w.drewN q :=
  (plain_any c w).mono fun _ _ ⟨a, b⟩ => ⟨a, 0, b⟩
set_option maxHeartbeats 2000000 in
set_option maxRecDepth 100000 in
theorem patt_any (c : UInt8) (w : World) :
    Calls Tryd.prog 29 #[.int .u8 (c.toNat : Int)] w fun e w' => e = .returned (.bool (G.byt true c)) ∧ ∃ q, w' = w.drewN q := by
  have e42 : (c == 42) = decide ((c.toNat : Int) = 42) := by
    have := u8_all (fun c => (c == 42) == decide ((c.toNat : Int) = 42)) (by decide +kernel) c
    simpa using this
  have e63 : (c == 63) = decide ((c.toNat : Int) = 63) := by
    have := u8_all (fun c => (c == 63) == decide ((c.toNat : Int) = 63)) (by decide +kernel) c
    simpa using this
  have hcall := plain_any c
  show Calls Tryd.prog 29 #[.int .u8 (c.toNat : Int)] w fun e w' => e = .returned (.bool (G.plainB c || c == 42 || c == 63)) ∧ ∃ q, w' = w.drewN q
  rw [e42, e63]
  generalize (c.toNat : Int) = n at hcall
  generalize G.plainB c = b at hcall
  cases b
  all_goals
    go_enter Tryd.func29, Tryd.ntmps29
    go_wp2_with (go_at_call 30; refine (hcall _).mono ?_; rintro _ _ ⟨rfl, rfl⟩)
    all_goals (go_ret; refine ⟨?_, 0, rfl⟩; show Ending.returned (.bool _) = .returned (.bool _); congr 2; try (simp [*]; done); try (rw [Bool.eq_iff_iff]; simp; try omega))
set_option maxHeartbeats 2000000 in
set_option maxRecDepth 100000 in
theorem bad_any (s : ByteArray) (w : World) :
    Calls Tryd.prog 47 #[.string s] w fun e w' => e = .returned (.bool (G.bad s.data.toList)) ∧ ∃ q, w' = w.drewN q := by
  have eb : G.bad s.data.toList = (s.toList.isEmpty || s.toList == [46] || s.toList == [46, 46]) := by
    rw [Lib.toList_data]; unfold G.bad; cases s.data.toList <;> rfl
  rw [eb]
  go_enter Tryd.func47, Tryd.ntmps47
  go_wp2
  all_goals (go_ret; refine ⟨?_, 0, rfl⟩; show Ending.returned (.bool _) = .returned (.bool _); congr 2; try (simp [*]; done))

/-- What a test that is handed over must do: at each item, in each world above w, tell p; it may draw and lay blocks. -/
def byteTest (g : Nat) (lb : Array Value) (p : UInt8 → Bool) (w : World) : Prop :=
  ∀ (W : World) (x : UInt8), Below w.heap.size w W → Calls Tryd.prog g (#[.int .u8 (x.toNat : Int)] ++ lb) W fun e w' => e = .returned (.bool (p x)) ∧ Below w.heap.size w w'
set_option maxHeartbeats 2000000 in
set_option maxRecDepth 100000 in
theorem byteIndex (p : UInt8 → Bool) (g : Nat) (lb : Array Value) (eg : ∀ args w, (callFunc g args).run Tryd.prog w = .ok (.enter g args) w) (a : Option Addr) (n c : Nat) (zs : List UInt8) (w : World)
    (hp : byteTest g lb p w) (hz : n = zs.length) (hbig : n ≤ 9223372036854775807) (ha : n = 0 ∨ ∃ b off, a = some ⟨b, off, none⟩ ∧ b < w.heap.size ∧ ∀ j, (h : j < zs.length) → w.cell? ⟨b, off + j, none⟩ = some (.int .u8 (zs[j].toNat : Int))) :
    Calls Tryd.prog 61 #[.slice a n c, .func (.func g) #[] lb] w fun e w' => (∃ k : Int, e = .returned (.int .i64 k) ∧ (0 ≤ k ↔ zs.any p = true) ∧ (∀ (i : Nat), k = (i : Int) ↔ ∃ h : i < zs.length, p zs[i] = true ∧ ∀ j, (hj : j < i) → p zs[j] = false) ∧ -1 ≤ k) ∧ Below w.heap.size w w' := by
  subst hz
  go_enter Tryd.func61, Tryd.ntmps61
  go_wp2
  go_loopg [5, 8] zs.length (fun gg _ s8 wr => ∃ kk : Nat, kk ≤ zs.length ∧ zs.length - kk ≤ gg ∧ s8 = .int .i64 kk ∧ Aside (Below w.heap.size w wr) ∧ Aside (∀ j, j < kk → (hj : j < zs.length) → p zs[j] = false))
  case atStart => exact ⟨0, Nat.zero_le _, by omega, rfl, Below.refl _ w, fun j hj => absurd hj (Nat.not_lt_zero _)⟩
  case round =>
    obtain ⟨kk, hkk, hg, rfl, BW, A⟩ := hrel
    by_cases hlt : kk < zs.length
    · have hltz : (kk : Int) < (zs.length : Int) := by omega
      obtain ⟨b, off, rfl, hb, hc⟩ := ha.resolve_left (by omega)
      clear ha
      have l2 : wr.cell? ⟨b, off + kk, none⟩ = some (.int .u8 (zs[kk].toNat : Int)) := (BW.out.cell (p := ⟨b, off + kk, none⟩) hb).trans (hc kk hlt)
      have hcall := hp wr zs[kk] BW.out
      clear hc hp
      generalize hy : zs[kk] = y at l2 hcall
      have B : Aside (zs[kk] = y) := hy
      clear hy
      cases hq : p y with
      | true =>
        rw [hq] at hcall
        go_wp2_with (go_at_fn g; refine hcall.mono ?_; rintro e w' ⟨rfl, hb'⟩)
        go_ret
        refine ⟨⟨_, rfl, ?_, ?_, by omega⟩, hb'⟩
        · exact ⟨fun _ => List.any_eq_true.2 ⟨zs[kk], List.getElem_mem hlt, by rw [B.out]; exact hq⟩, fun _ => by omega⟩
        · intro i
          constructor
          · intro e
            obtain rfl : kk = i := by omega
            exact ⟨hlt, by rw [B.out]; exact hq, fun j hj => A.out j hj (by omega)⟩
          · rintro ⟨hi, h1, h2⟩
            rcases Nat.lt_trichotomy kk i with h | h | h
            · have := h2 kk h; rw [B.out, hq] at this; cases this
            · omega
            · have := A.out i h hi; rw [h1] at this; cases this
      | false =>
        rw [hq] at hcall
        go_wp2_with (go_at_fn g; refine hcall.mono ?_; rintro e w' ⟨rfl, hb'⟩)
        go_roundg (zs.length - (kk + 1))
        case measure => omega
        case rel =>
          refine ⟨kk + 1, by omega, by omega, by go_num, hb', (show Aside _ from fun j hj hjl => ?_)⟩
          by_cases e : j = kk
          · subst e
            rw [B.out]; exact hq
          · exact A.out j (by omega) hjl
    · have hltz : ¬ (kk : Int) < (zs.length : Int) := by omega
      have hk : kk = zs.length := by omega
      go_wp2
      go_ret
      refine ⟨⟨_, rfl, ?_, ?_, by omega⟩, BW.out⟩
      · refine ⟨fun h => by omega, fun h => ?_⟩
        obtain ⟨x, hx, hpx⟩ : ∃ x, x ∈ zs ∧ p x = true := by simpa using h
        obtain ⟨j, hj, rfl⟩ := List.mem_iff_getElem.1 hx
        rw [A.out j (by omega) hj] at hpx; cases hpx
      · intro i
        refine ⟨fun h => by omega, ?_⟩
        rintro ⟨hi, h1, _⟩
        rw [A.out i (by omega) hi] at h1; cases h1
set_option maxHeartbeats 2000000 in
set_option maxRecDepth 100000 in
theorem byteContains (p : UInt8 → Bool) (g : Nat) (lb : Array Value) (eg : ∀ args w, (callFunc g args).run Tryd.prog w = .ok (.enter g args) w) (a : Option Addr) (n c : Nat) (zs : List UInt8) (w : World)
    (hp : byteTest g lb p w) (hz : n = zs.length) (hbig : n ≤ 9223372036854775807) (ha : n = 0 ∨ ∃ b off, a = some ⟨b, off, none⟩ ∧ b < w.heap.size ∧ ∀ j, (h : j < zs.length) → w.cell? ⟨b, off + j, none⟩ = some (.int .u8 (zs[j].toNat : Int))) :
    Calls Tryd.prog 44 #[.slice a n c, .func (.func g) #[] lb] w fun e w' => e = .returned (.bool (zs.any p)) ∧ Below w.heap.size w w' := by
  have H : Calls Tryd.prog 61 #[.slice a n c, .func (.func g) #[] lb] w fun e w' => (∃ k : Int, e = .returned (.int .i64 k) ∧ decide (0 ≤ k) = zs.any p) ∧ Below w.heap.size w w' :=
    (byteIndex p g lb eg a n c zs w hp hz hbig ha).mono fun e w' ⟨⟨k, h1, h2, _, _⟩, h3⟩ => ⟨⟨k, h1, by rw [Bool.eq_iff_iff, ← h2]; simp⟩, h3⟩
  clear hp ha eg hbig hz
  generalize zs.any p = bb at H ⊢
  clear p zs
  go_enter Tryd.func44, Tryd.ntmps44
  go_wp2_with (go_at_call 61; refine H.mono ?_; rintro e w' ⟨⟨k, rfl, hk⟩, hb'⟩)
  go_ret
  refine ⟨?_, hb'⟩
  rw [← hk]; rfl

/-- What a test that is handed over must do: at each item, in each world above w, tell p; it may draw and lay blocks. -/
def strTest (g : Nat) (lb : Array Value) (p : ByteArray → Bool) (zs : List ByteArray) (w : World) : Prop :=
  ∀ (W : World) (x : ByteArray), x ∈ zs → Below w.heap.size w W → Calls Tryd.prog g (#[.string x] ++ lb) W fun e w' => e = .returned (.bool (p x)) ∧ Below w.heap.size w w'
theorem str_at {w : World} {A : Option Addr} {zs : List ByteArray} (h : Kd.C Kd.string w A zs.length zs) (j : Nat) (hj : j < zs.length) : ∃ ad, A = some ad ∧ w.cell? (ad.add j) = some (.string zs[j]) := by
  obtain ⟨ad, had, hc⟩ := Kd.at_string h (j : Int) (by omega) (by omega)
  rw [Int.toNat_natCast] at hc
  have : rdOf ByteArray.empty zs (j : Int) = zs[j] := by rw [rdOf, Int.toNat_natCast, List.getD_eq_getElem?_getD, List.getElem?_eq_getElem hj]; rfl
  exact ⟨ad, had, by rw [hc, this]⟩
theorem str_mk {w : World} {b off : Nat} {zs : List ByteArray} (hm : zs.length ≤ 9223372036854775807) (h : ∀ j, (hj : j < zs.length) → w.cell? ⟨b, off + j, none⟩ = some (.string zs[j])) : Kd.C Kd.string w (some ⟨b, off, none⟩) zs.length zs := by
  refine Kd.C_of_reads (d := ByteArray.empty) (h1 := fun _ => rfl) ⟨rfl, hm, fun _ => ⟨⟨b, off, none⟩, rfl, fun i hi => ?_⟩⟩
  have e : (⟨b, off, none⟩ : Addr).add i = ⟨b, off + i, none⟩ := by unfold Addr.add; by_cases h0 : i = 0 <;> simp [h0]
  rw [e, h i hi, List.getD_eq_getElem?_getD, List.getElem?_eq_getElem hi]; rfl
set_option maxHeartbeats 2000000 in
set_option maxRecDepth 100000 in
theorem strIndex (p : ByteArray → Bool) (g : Nat) (lb : Array Value) (eg : ∀ args w, (callFunc g args).run Tryd.prog w = .ok (.enter g args) w) (a : Option Addr) (n c : Nat) (zs : List ByteArray) (w : World)
    (hp : strTest g lb p zs w) (hz : n = zs.length) (hbig : n ≤ 9223372036854775807) (ha : Kd.C Kd.string w a zs.length zs) :
    Calls Tryd.prog 26 #[.slice a n c, .func (.func g) #[] lb] w fun e w' => (∃ k : Int, e = .returned (.int .i64 k) ∧ (0 ≤ k ↔ zs.any p = true) ∧ (∀ (i : Nat), k = (i : Int) ↔ ∃ h : i < zs.length, p zs[i] = true ∧ ∀ j, (hj : j < i) → p zs[j] = false) ∧ -1 ≤ k) ∧ Below w.heap.size w w' := by
  subst hz
  go_enter Tryd.func26, Tryd.ntmps26
  go_wp2
  go_loopg [5, 8] zs.length (fun gg _ s8 wr => ∃ kk : Nat, kk ≤ zs.length ∧ zs.length - kk ≤ gg ∧ s8 = .int .i64 kk ∧ Aside (Below w.heap.size w wr) ∧ Aside (∀ j, j < kk → (hj : j < zs.length) → p zs[j] = false))
  case atStart => exact ⟨0, Nat.zero_le _, by omega, rfl, Below.refl _ w, fun j hj => absurd hj (Nat.not_lt_zero _)⟩
  case round =>
    obtain ⟨kk, hkk, hg, rfl, BW, A⟩ := hrel
    by_cases hlt : kk < zs.length
    · have hltz : (kk : Int) < (zs.length : Int) := by omega
      obtain ⟨ad, rfl, hc⟩ := str_at ha kk hlt
      clear ha
      have l2 : wr.cell? (ad.add kk) = some (.string zs[kk]) := (BW.out.cell (World.block_lt_of_cell? w _ hc)).trans hc
      have hcall := hp wr zs[kk] (List.getElem_mem hlt) BW.out
      clear hc hp
      generalize hy : zs[kk] = y at l2 hcall
      have B : Aside (zs[kk] = y) := hy
      clear hy
      cases hq : p y with
      | true =>
        rw [hq] at hcall
        go_wp2_with (go_at_fn g; refine hcall.mono ?_; rintro e w' ⟨rfl, hb'⟩)
        go_ret
        refine ⟨⟨_, rfl, ?_, ?_, by omega⟩, hb'⟩
        · exact ⟨fun _ => List.any_eq_true.2 ⟨zs[kk], List.getElem_mem hlt, by rw [B.out]; exact hq⟩, fun _ => by omega⟩
        · intro i
          constructor
          · intro e
            obtain rfl : kk = i := by omega
            exact ⟨hlt, by rw [B.out]; exact hq, fun j hj => A.out j hj (by omega)⟩
          · rintro ⟨hi, h1, h2⟩
            rcases Nat.lt_trichotomy kk i with h | h | h
            · have := h2 kk h; rw [B.out, hq] at this; cases this
            · omega
            · have := A.out i h hi; rw [h1] at this; cases this
      | false =>
        rw [hq] at hcall
        go_wp2_with (go_at_fn g; refine hcall.mono ?_; rintro e w' ⟨rfl, hb'⟩)
        go_roundg (zs.length - (kk + 1))
        case measure => omega
        case rel =>
          refine ⟨kk + 1, by omega, by omega, by go_num, hb', (show Aside _ from fun j hj hjl => ?_)⟩
          by_cases e : j = kk
          · subst e
            rw [B.out]; exact hq
          · exact A.out j (by omega) hjl
    · have hltz : ¬ (kk : Int) < (zs.length : Int) := by omega
      have hk : kk = zs.length := by omega
      go_wp2
      go_ret
      refine ⟨⟨_, rfl, ?_, ?_, by omega⟩, BW.out⟩
      · refine ⟨fun h => by omega, fun h => ?_⟩
        obtain ⟨x, hx, hpx⟩ : ∃ x, x ∈ zs ∧ p x = true := by simpa using h
        obtain ⟨j, hj, rfl⟩ := List.mem_iff_getElem.1 hx
        rw [A.out j (by omega) hj] at hpx; cases hpx
      · intro i
        refine ⟨fun h => by omega, ?_⟩
        rintro ⟨hi, h1, _⟩
        rw [A.out i (by omega) hi] at h1; cases h1
set_option maxHeartbeats 2000000 in
set_option maxRecDepth 100000 in
theorem strContains (p : ByteArray → Bool) (g : Nat) (lb : Array Value) (eg : ∀ args w, (callFunc g args).run Tryd.prog w = .ok (.enter g args) w) (a : Option Addr) (n c : Nat) (zs : List ByteArray) (w : World)
    (hp : strTest g lb p zs w) (hz : n = zs.length) (hbig : n ≤ 9223372036854775807) (ha : Kd.C Kd.string w a zs.length zs) :
    Calls Tryd.prog 24 #[.slice a n c, .func (.func g) #[] lb] w fun e w' => e = .returned (.bool (zs.any p)) ∧ Below w.heap.size w w' := by
  have H : Calls Tryd.prog 26 #[.slice a n c, .func (.func g) #[] lb] w fun e w' => (∃ k : Int, e = .returned (.int .i64 k) ∧ decide (0 ≤ k) = zs.any p) ∧ Below w.heap.size w w' :=
    (strIndex p g lb eg a n c zs w hp hz hbig ha).mono fun e w' ⟨⟨k, h1, h2, _, _⟩, h3⟩ => ⟨⟨k, h1, by rw [Bool.eq_iff_iff, ← h2]; simp⟩, h3⟩
  clear hp ha eg hbig hz
  generalize zs.any p = bb at H ⊢
  clear p zs
  go_enter Tryd.func24, Tryd.ntmps24
  go_wp2_with (go_at_call 26; refine H.mono ?_; rintro e w' ⟨⟨k, rfl, hk⟩, hb'⟩)
  go_ret
  refine ⟨?_, hb'⟩
  rw [← hk]; rfl
end Go.Proofs.YteignlfpjmfleaaDoor.E
