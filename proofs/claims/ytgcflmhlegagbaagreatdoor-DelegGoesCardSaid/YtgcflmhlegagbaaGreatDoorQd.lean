/- A walk, with less held, or more: plain. -/
import Derived.Test.YtgcflmhlegagbaaGreatDoorQ9
import Derived.Test.YtgcflmhlegagbaaGreatDoorQ5
import Derived.Deep.RegionHeld3
import Derived.Test.YtgcflmhlegagbaaGreatDoorQa
section
set_option linter.unusedVariables false
set_option linter.unusedSimpArgs false
namespace Go.Proofs.YtgcflmhlegagbaaGreatDoor.E
open Go.RowKit Go.Lib Go.Shelf
open X (S25 z25 S28 S53 S70 S46 S48 z48)
/-- What was seen stays seen, in order. -/
theorem walkS_pre (path : ByteArray) (l : List S48) (h16 : ∀ x ∈ l, x.f1.f7.length ≤ 16) : ∀ (n : Nat) (row : List PAsk) (seen : List ByteArray), (32 - seen.length) * 20 + row.length ≤ n → ∃ t, seenOf (walkS path l row seen) = seen ++ t := by
  intro n
  induction n with
  | zero =>
    intro row seen hm
    have : row = [] := List.length_eq_zero_iff.1 (by omega)
    subst this
    rw [walkS_nil]
    exact ⟨[], (List.append_nil _).symm⟩
  | succ n ih =>
    intro row seen hm
    cases row with
    | nil => rw [walkS_nil]; exact ⟨[], (List.append_nil _).symm⟩
    | cons a t =>
      rw [List.length_cons] at hm
      by_cases h32 : seen.length < 32
      · by_cases hs : wasSeen seen a.nm = true
        · rw [walkS_seen path l a t seen h32 hs]
          exact ih t seen (by omega)
        · cases hh : heldBy l a.nm with
          | none => rw [walkS_want path l a t seen h32 hs hh]; exact ⟨[], (List.append_nil _).symm⟩
          | some x =>
            by_cases hi : 0 ≤ fileIdx path x.f1.f6
            · rw [walkS_found path l a t seen x h32 hs hh hi]; exact ⟨[a.nm], rfl⟩
            · rw [walkS_on path l a t seen x h32 hs hh hi]
              have hgl := goOn_len path x t (h16 x (heldBy_mem hh).1)
              obtain ⟨u, hu⟩ := ih (goOn path x t) (seen ++ [a.nm]) (by rw [List.length_append, List.length_singleton]; omega)
              exact ⟨[a.nm] ++ u, by rw [hu, List.append_assoc]⟩
      · rw [walkS_full path l _ seen h32]; exact ⟨[], (List.append_nil _).symm⟩
/-- What is held of roles that are not seen changes nothing. -/
theorem walkS_same (path : ByteArray) (l l' : List S48) (h16 : ∀ x ∈ l, x.f1.f7.length ≤ 16) (hno : ∀ nm, heldBy l nm = none → heldBy l' nm = none) : ∀ (n : Nat) (row : List PAsk) (seen : List ByteArray), (32 - seen.length) * 20 + row.length ≤ n → (∀ nm ∈ seenOf (walkS path l row seen), heldBy l' nm = heldBy l nm) → walkS path l' row seen = walkS path l row seen := by
  intro n
  induction n with
  | zero =>
    intro row seen hm _
    have : row = [] := List.length_eq_zero_iff.1 (by omega)
    subst this
    rw [walkS_nil, walkS_nil]
  | succ n ih =>
    intro row seen hm hy
    cases row with
    | nil => rw [walkS_nil, walkS_nil]
    | cons a t =>
      rw [List.length_cons] at hm
      by_cases h32 : seen.length < 32
      · by_cases hs : wasSeen seen a.nm = true
        · rw [walkS_seen path l a t seen h32 hs] at hy ⊢
          rw [walkS_seen path l' a t seen h32 hs]
          exact ih t seen (by omega) hy
        · cases hh : heldBy l a.nm with
          | none => rw [walkS_want path l a t seen h32 hs hh, walkS_want path l' a t seen h32 hs (hno _ hh)]
          | some x =>
            by_cases hi : 0 ≤ fileIdx path x.f1.f6
            · rw [walkS_found path l a t seen x h32 hs hh hi] at hy ⊢
              have h2 := hy a.nm (by simp [seenOf])
              rw [walkS_found path l' a t seen x h32 hs (h2.trans hh) hi]
            · rw [walkS_on path l a t seen x h32 hs hh hi] at hy ⊢
              have hgl := goOn_len path x t (h16 x (heldBy_mem hh).1)
              obtain ⟨u, hu⟩ := walkS_pre path l h16 n (goOn path x t) (seen ++ [a.nm]) (by rw [List.length_append, List.length_singleton]; omega)
              have h2 := hy a.nm (by rw [hu]; simp)
              rw [walkS_on path l' a t seen x h32 hs (h2.trans hh) hi]
              exact ih (goOn path x t) (seen ++ [a.nm]) (by rw [List.length_append, List.length_singleton]; omega) hy
      · rw [walkS_full path l _ seen h32, walkS_full path l' _ seen h32]
/-- With what is wanted held, too, a walk goes on from what it had seen. -/
theorem walkS_more (path : ByteArray) (l l' : List S48) (h16 : ∀ x ∈ l, x.f1.f7.length ≤ 16) (h16' : ∀ x ∈ l', x.f1.f7.length ≤ 16) : ∀ (n : Nat) (row : List PAsk) (seen : List ByteArray) (s : List ByteArray) (p : PAsk), (32 - seen.length) * 20 + row.length ≤ n → walkS path l row seen = .want s p →
    (∀ nm ∈ s, heldBy l' nm = heldBy l nm) → (∀ nm, nm ≠ p.nm → heldBy l nm = none → heldBy l' nm = none) → (∃ y, heldBy l' p.nm = some y) → ∃ t, seenOf (walkS path l' row seen) = s ++ p.nm :: t := by
  intro n
  induction n with
  | zero =>
    intro row seen s p hm he
    have : row = [] := List.length_eq_zero_iff.1 (by omega)
    subst this
    rw [walkS_nil] at he; cases he
  | succ n ih =>
    intro row seen s p hm he hy hno hp
    cases row with
    | nil => rw [walkS_nil] at he; cases he
    | cons a t =>
      rw [List.length_cons] at hm
      by_cases h32 : seen.length < 32
      · by_cases hs : wasSeen seen a.nm = true
        · rw [walkS_seen path l a t seen h32 hs] at he
          rw [walkS_seen path l' a t seen h32 hs]
          exact ih t seen s p (by omega) he hy hno hp
        · cases hh : heldBy l a.nm with
          | none =>
            rw [walkS_want path l a t seen h32 hs hh] at he
            injection he with e1 e2
            subst e1; subst e2
            obtain ⟨y, hy2⟩ := hp
            by_cases hi : 0 ≤ fileIdx path y.f1.f6
            · rw [walkS_found path l' a t seen y h32 hs hy2 hi]; exact ⟨[], rfl⟩
            · rw [walkS_on path l' a t seen y h32 hs hy2 hi]
              obtain ⟨u, hu⟩ := walkS_pre path l' h16' _ (goOn path y t) (seen ++ [a.nm]) (Nat.le_refl _)
              exact ⟨u, by rw [hu, List.append_assoc]; rfl⟩
          | some x =>
            by_cases hi : 0 ≤ fileIdx path x.f1.f6
            · rw [walkS_found path l a t seen x h32 hs hh hi] at he; cases he
            · rw [walkS_on path l a t seen x h32 hs hh hi] at he
              have hgl := goOn_len path x t (h16 x (heldBy_mem hh).1)
              obtain ⟨u, hu⟩ := walkS_pre path l h16 n (goOn path x t) (seen ++ [a.nm]) (by rw [List.length_append, List.length_singleton]; omega)
              rw [he] at hu
              have h2 := hy a.nm (by have e : s = (seen ++ [a.nm]) ++ u := hu; rw [e]; simp)
              rw [walkS_on path l' a t seen x h32 hs (h2.trans hh) hi]
              exact ih (goOn path x t) (seen ++ [a.nm]) s p (by rw [List.length_append, List.length_singleton]; omega) he hy hno hp
      · rw [walkS_full path l _ seen h32] at he; cases he
/-- One that is held may be, by itself. -/
def oneOk (x : S48) : Bool := Nm.nameOk x.f0.data.toList && (x.f1.f0 == 4) && metaR x
theorem heldOk_iff (l : List S48) : heldOk l = true ↔ l.length ≤ 32 ∧ (∀ x ∈ l, oneOk x = true) ∧ Unlike l := by
  constructor
  · intro h
    refine ⟨heldOk_len h, fun x hx => ?_, heldOk_unlike h⟩
    obtain ⟨k, hk, rfl⟩ := List.mem_iff_getElem.1 hx
    have h1 := heldOk_at h k hk
    unfold heldAt at h1
    rw [Bool.and_eq_true] at h1
    exact h1.1
  · rintro ⟨h1, h2, h3⟩
    unfold heldOk
    rw [decide_eq_true h1, Bool.true_and]
    refine allK_true _ _ _ (fun k hk => ?_)
    rw [List.getD_eq_getElem?_getD, List.getElem?_eq_getElem hk]
    show heldAt l k l[k] = true
    unfold heldAt
    have ho := h2 l[k] (List.getElem_mem hk)
    unfold oneOk at ho
    rw [ho, Bool.true_and, Bool.not_eq_true', List.any_eq_false]
    intro y hy e
    obtain ⟨j, hj, rfl⟩ := List.mem_take_iff_getElem.1 hy
    exact h3 j k (by omega) hk (bytes_ext (beq_iff_eq.1 e))
end Go.Proofs.YtgcflmhlegagbaaGreatDoor.E
end
section
set_option linter.unusedVariables false
set_option linter.unusedSimpArgs false
namespace Go.Proofs.YtgcflmhlegagbaaGreatDoor.E
open Go.RowKit Go.Lib Go.Shelf Go.Proofs.YtgcflmhlegagbaaGreatDoorW.PrintWords Go.Proofs.YtgcflmhlegagbaaGreatDoorW.PrintLast Go.Proofs.YtgcflmhlegagbaaGreatDoorW.PrintMore
open X (S25 k25 z25 S28 k28 S53 k53 S70 k70 z70 S46 k46 S48 k48 z48)
theorem eqF2 (d : Nat) (w : World) (x : S25) : (Op.equalIn (d + 2) 25 (.agg #[.string x.f0, .int .i64 x.f1, .int .i64 x.f2, .string x.f3]) (.agg #[.string x.f0, .int .i64 x.f1, .int .i64 x.f2, .string x.f3])).run Tryz.prog w = .ok true w := by
  rw [X.eqA25]; simp
theorem eqK2 (d : Nat) (w : World) (x : S70) : (Op.equalIn (d + 2) 70 (.agg #[.string x.f0, .string x.f1]) (.agg #[.string x.f0, .string x.f1])).run Tryz.prog w = .ok true w := by
  rw [X.eqA70]; simp
attribute [local go_sem high] eqF2 eqK2
structure LK (w : World) (g2 g3 : Nat) (ca cb : Array Value) (W : World) : Prop where
  hb : Below w.heap.size w W
  h2 : W.heap[g2]? = some (.cells ca 31 (0, 0))
  h3 : W.heap[g3]? = some (.cells cb 31 (0, 0))
theorem LK.step {w : World} {g2 g3 : Nat} {ca cb : Array Value} {W W' : World} (h : LK w g2 g3 ca cb W) (hb : Below W.heap.size W W') : LK w g2 g3 ca cb W' :=
  ⟨below_step h.hb hb, (hb.block _ (blk_lt h.h2)).trans h.h2, (hb.block _ (blk_lt h.h3)).trans h.h3⟩
theorem LK.made (w : World) (ca cb : Array Value) : LK w w.heap.size (w.heap.size + 1) ca cb ((w.alloc (.cells ca 31)).alloc (.cells cb 31)) := by
  have b1 := below_alloc (Below.refl w.heap.size w) (.cells ca 31)
  have hs1 : (w.alloc (.cells ca 31)).heap.size = w.heap.size + 1 := by simp
  have n := blk_new (w.alloc (.cells ca 31)) (.cells cb 31)
  rw [hs1] at n
  exact ⟨below_alloc b1 _, blk_alloc (blk_new _ _) _, n⟩
/-- An element of a row of texts, where it lies. -/
theorem text_at {w : World} {A : Option Addr} {l : List ByteArray} (h : Kd.C Kd.string w A l.length l) (k : Nat) (hk : k < l.length) : ∃ ad, A = some ad ∧ w.cell? (ad.add k) = some (.string l[k]) := by
  obtain ⟨ad, c, e, _, hK, hc⟩ := Kd.C_get h ByteArray.empty (k : Int) (by omega) (by omega)
  have e1 : c = [.string l[k]] := by
    have h2 : c = [.string (l.getD ((k : Int)).toNat ByteArray.empty)] := hK
    rw [h2, Int.toNat_natCast, List.getD_eq_getElem?_getD, List.getElem?_eq_getElem hk]; rfl
  subst e1
  have q0 := hc 0 _ rfl
  rw [Int.toNat_natCast, show k * Kd.string.sz + 0 = k from by show k * 1 + 0 = k; omega] at q0
  exact ⟨ad, e, q0⟩
theorem key_at {w : World} {A : Option Addr} {l : List S70} (h : Kd.C k70 w A l.length l) (k : Nat) (hk : k < l.length) : ∃ ad, A = some ad ∧ w.cell? (ad.add (k * 2)) = some (.string l[k].f0) ∧ w.cell? ⟨(ad.add (k * 2)).block, (ad.add (k * 2)).off + 1, none⟩ = some (.string l[k].f1) := by
  obtain ⟨ad, e, h0, h1⟩ := X.at_T70 h (k : Int) (by omega) (by omega)
  have er : X.rd_T70 l k = l[k] := by unfold X.rd_T70; rw [Int.toNat_natCast, List.getD_eq_getElem?_getD, List.getElem?_eq_getElem hk]; rfl
  rw [er, Int.toNat_natCast] at h0 h1
  exact ⟨ad, e, h0, h1⟩
set_option maxHeartbeats 8000000 in
set_option maxRecDepth 100000 in
theorem Like_same (st : Int) (f : S25) (b wn : ByteArray) (nd : Int) (seen ids : List ByteArray) (keys : List S70) (As0 As1 Ai0 Ai1 Ak0 Ak1 : Option Addr) (cs0 cs1 ci0 ci1 ck0 ck1 : Nat) (w : World)
    (hs0 : Kd.C Kd.string w As0 seen.length seen) (ks0 : seen.length ≤ cs0) (hs1 : Kd.C Kd.string w As1 seen.length seen) (ks1 : seen.length ≤ cs1)
    (hi0 : Kd.C Kd.string w Ai0 ids.length ids) (ki0 : ids.length ≤ ci0) (hi1 : Kd.C Kd.string w Ai1 ids.length ids) (ki1 : ids.length ≤ ci1)
    (hk0 : Kd.C k70 w Ak0 keys.length keys) (kk0 : keys.length ≤ ck0) (hk1 : Kd.C k70 w Ak1 keys.length keys) (kk1 : keys.length ≤ ck1) :
    Calls Tryz.prog 14 #[.agg #[.int .i64 st, .string f.f0, .int .i64 f.f1, .int .i64 f.f2, .string f.f3, .string b, .slice As0 seen.length cs0, .string wn, .slice Ai0 ids.length ci0, .int .i64 nd, .slice Ak0 keys.length ck0], .agg #[.int .i64 st, .string f.f0, .int .i64 f.f1, .int .i64 f.f2, .string f.f3, .string b, .slice As1 seen.length cs1, .string wn, .slice Ai1 ids.length ci1, .int .i64 nd, .slice Ak1 keys.length ck1]] w fun e w' => e = .returned (.bool true) ∧ Below w.heap.size w w' := by
  have HM := Aside0.mk (LK.made w #[.int .i64 st, .string f.f0, .int .i64 f.f1, .int .i64 f.f2, .string f.f3, .string b, .slice As0 seen.length cs0, .string wn, .slice Ai0 ids.length ci0, .int .i64 nd, .slice Ak0 keys.length ck0] #[.int .i64 st, .string f.f0, .int .i64 f.f1, .int .i64 f.f2, .string f.f3, .string b, .slice As1 seen.length cs1, .string wn, .slice Ai1 ids.length ci1, .int .i64 nd, .slice Ak1 keys.length ck1])
  have HS0 := Aside0.mk hs0
  have HS1 := Aside0.mk hs1
  have HI0 := Aside0.mk hi0
  have HI1 := Aside0.mk hi1
  have HK0 := Aside0.mk hk0
  have HK1 := Aside0.mk hk1
  have ls : seen.length ≤ 9223372036854775807 := hs0.2.1
  have li : ids.length ≤ 9223372036854775807 := hi0.2.1
  have lk : keys.length ≤ 9223372036854775807 := hk0.2.1
  clear hs0 hs1 hi0 hi1 hk0 hk1
  go_enter Tryz.func14, Tryz.ntmps14
  go_wp2
  generalize (w.alloc _).alloc _ = W0 at HM ⊢
  have hbig : w.heap.size + 1 = w.heap.size + 1 := rfl
  generalize w.heap.size + 1 = g3 at HM ⊢
  generalize hg2 : w.heap.size = g2 at HM ⊢
  clear hbig
  obtain ⟨ca, hca⟩ : ∃ ca : Array Value, ca = #[.int .i64 st, .string f.f0, .int .i64 f.f1, .int .i64 f.f2, .string f.f3, .string b, .slice As0 seen.length cs0, .string wn, .slice Ai0 ids.length ci0, .int .i64 nd, .slice Ak0 keys.length ck0] := ⟨_, rfl⟩
  obtain ⟨cb, hcb⟩ : ∃ cb : Array Value, cb = #[.int .i64 st, .string f.f0, .int .i64 f.f1, .int .i64 f.f2, .string f.f3, .string b, .slice As1 seen.length cs1, .string wn, .slice Ai1 ids.length ci1, .int .i64 nd, .slice Ak1 keys.length ck1] := ⟨_, rfl⟩
  rw [← hca, ← hcb] at HM
  have HCA := Lib.hid hca
  have HCB := Lib.hid hcb
  clear hca hcb
  go_loopg [75] seen.length (fun gg s75 wr => ∃ kx : Nat, kx ≤ seen.length ∧ seen.length - kx ≤ gg ∧ s75 = .int .i64 kx ∧ Aside (LK w g2 g3 ca cb wr))
  case atStart => exact ⟨0, Nat.zero_le _, by omega, rfl, HM.out⟩
  case round =>
    obtain ⟨kx, hkx, hg, rfl, M⟩ := hrel
    have m2 : wr.heap[g2]? = some (.cells #[.int .i64 st, .string f.f0, .int .i64 f.f1, .int .i64 f.f2, .string f.f3, .string b, .slice As0 seen.length cs0, .string wn, .slice Ai0 ids.length ci0, .int .i64 nd, .slice Ak0 keys.length ck0] 31 (0, 0)) := HCA.out ▸ M.out.h2
    have m3 : wr.heap[g3]? = some (.cells #[.int .i64 st, .string f.f0, .int .i64 f.f1, .int .i64 f.f2, .string f.f3, .string b, .slice As1 seen.length cs1, .string wn, .slice Ai1 ids.length ci1, .int .i64 nd, .slice Ak1 keys.length ck1] 31 (0, 0)) := HCB.out ▸ M.out.h3
    by_cases hlt : kx < seen.length
    · have hltz : (kx : Int) < (seen.length : Int) := by omega
      have hk0 : (0 : Int) ≤ (kx : Int) := by omega
      obtain ⟨ad0, e0, q0⟩ := text_at HS0.out kx hlt
      obtain ⟨ad1, e1, q1⟩ := text_at HS1.out kx hlt
      subst e0
      subst e1
      replace q0 := (M.out.hb.cell (World.block_lt_of_cell? _ _ q0)).trans q0
      replace q1 := (M.out.hb.cell (World.block_lt_of_cell? _ _ q1)).trans q1
      have u6 := cell_of_block m2 6 (.slice (some ad0) seen.length cs0) rfl
      have v6 := cell_of_block m3 6 (.slice (some ad1) seen.length cs1) rfl
      clear m2 m3
      generalize seen[kx] = sx at q0 q1
      go_upto_region 6 with (fail)
      go_region_held3 (fun W_ => W_.cell? ⟨g2, 6, none⟩ = some (.slice (some ad0) seen.length cs0) ∧ W_.cell? ⟨g3, 6, none⟩ = some (.slice (some ad1) seen.length cs1) ∧ W_.cell? (ad0.add kx) = some (.string sx) ∧ W_.cell? (ad1.add kx) = some (.string sx)) (go_keep) (fail)
      all_goals go_wp2
      go_roundg (seen.length - (kx + 1))
      case measure => omega
      case rel => exact ⟨kx + 1, by omega, by omega, by go_num, M.out.step (below_drew (Below.refl _ _))⟩
    · have hltz : ¬ (kx : Int) < (seen.length : Int) := by omega
      have w8 := cell_of_block m2 8 (.slice Ai0 ids.length ci0) rfl
      clear m2 m3
      go_wp2
      go_loopg [94] ids.length (fun gg s94 wr => ∃ kx : Nat, kx ≤ ids.length ∧ ids.length - kx ≤ gg ∧ s94 = .int .i64 kx ∧ Aside (LK w g2 g3 ca cb wr))
      case atStart => exact ⟨0, Nat.zero_le _, by omega, rfl, M.out⟩
      case round =>
        clear w8
        obtain ⟨ky, hky, hgy, rfl, M⟩ := hrel
        have m2 : wr.heap[g2]? = some (.cells #[.int .i64 st, .string f.f0, .int .i64 f.f1, .int .i64 f.f2, .string f.f3, .string b, .slice As0 seen.length cs0, .string wn, .slice Ai0 ids.length ci0, .int .i64 nd, .slice Ak0 keys.length ck0] 31 (0, 0)) := HCA.out ▸ M.out.h2
        have m3 : wr.heap[g3]? = some (.cells #[.int .i64 st, .string f.f0, .int .i64 f.f1, .int .i64 f.f2, .string f.f3, .string b, .slice As1 seen.length cs1, .string wn, .slice Ai1 ids.length ci1, .int .i64 nd, .slice Ak1 keys.length ck1] 31 (0, 0)) := HCB.out ▸ M.out.h3
        by_cases hlty : ky < ids.length
        · have hltyz : (ky : Int) < (ids.length : Int) := by omega
          have hk0 : (0 : Int) ≤ (ky : Int) := by omega
          obtain ⟨ad0, e0, q0⟩ := text_at HI0.out ky hlty
          obtain ⟨ad1, e1, q1⟩ := text_at HI1.out ky hlty
          subst e0
          subst e1
          replace q0 := (M.out.hb.cell (World.block_lt_of_cell? _ _ q0)).trans q0
          replace q1 := (M.out.hb.cell (World.block_lt_of_cell? _ _ q1)).trans q1
          have u8 := cell_of_block m2 8 (.slice (some ad0) ids.length ci0) rfl
          have v8 := cell_of_block m3 8 (.slice (some ad1) ids.length ci1) rfl
          clear m2 m3
          generalize ids[ky] = sx at q0 q1
          go_upto_region 12 with (fail)
          go_region_held3 (fun W_ => W_.cell? ⟨g2, 8, none⟩ = some (.slice (some ad0) ids.length ci0) ∧ W_.cell? ⟨g3, 8, none⟩ = some (.slice (some ad1) ids.length ci1) ∧ W_.cell? (ad0.add ky) = some (.string sx) ∧ W_.cell? (ad1.add ky) = some (.string sx)) (go_keep) (fail)
          all_goals go_wp2
          go_roundg (ids.length - (ky + 1))
          case measure => omega
          case rel => exact ⟨ky + 1, by omega, by omega, by go_num, M.out.step (below_drew (Below.refl _ _))⟩
        · have hltyz : ¬ (ky : Int) < (ids.length : Int) := by omega
          have w10 := cell_of_block m2 10 (.slice Ak0 keys.length ck0) rfl
          clear m2 m3
          go_wp2
          go_loopg [114] keys.length (fun gg s114 wr => ∃ kx : Nat, kx ≤ keys.length ∧ keys.length - kx ≤ gg ∧ s114 = .int .i64 kx ∧ Aside (LK w g2 g3 ca cb wr))
          case atStart => exact ⟨0, Nat.zero_le _, by omega, rfl, M.out⟩
          case round =>
            clear w10
            obtain ⟨kz, hkz, hgz, rfl, M⟩ := hrel
            have m2 : wr.heap[g2]? = some (.cells #[.int .i64 st, .string f.f0, .int .i64 f.f1, .int .i64 f.f2, .string f.f3, .string b, .slice As0 seen.length cs0, .string wn, .slice Ai0 ids.length ci0, .int .i64 nd, .slice Ak0 keys.length ck0] 31 (0, 0)) := HCA.out ▸ M.out.h2
            have m3 : wr.heap[g3]? = some (.cells #[.int .i64 st, .string f.f0, .int .i64 f.f1, .int .i64 f.f2, .string f.f3, .string b, .slice As1 seen.length cs1, .string wn, .slice Ai1 ids.length ci1, .int .i64 nd, .slice Ak1 keys.length ck1] 31 (0, 0)) := HCB.out ▸ M.out.h3
            by_cases hltz' : kz < keys.length
            · have hltzz : (kz : Int) < (keys.length : Int) := by omega
              have hk0 : (0 : Int) ≤ (kz : Int) := by omega
              obtain ⟨ad0, e0, q0, p0⟩ := key_at HK0.out kz hltz'
              obtain ⟨ad1, e1, q1, p1⟩ := key_at HK1.out kz hltz'
              subst e0
              subst e1
              replace q0 := (M.out.hb.cell (World.block_lt_of_cell? _ _ q0)).trans q0
              replace q1 := (M.out.hb.cell (World.block_lt_of_cell? _ _ q1)).trans q1
              replace p0 := (M.out.hb.cell (World.block_lt_of_cell? _ _ p0)).trans p0
              replace p1 := (M.out.hb.cell (World.block_lt_of_cell? _ _ p1)).trans p1
              have u10 := cell_of_block m2 10 (.slice (some ad0) keys.length ck0) rfl
              have v10 := cell_of_block m3 10 (.slice (some ad1) keys.length ck1) rfl
              clear m2 m3
              generalize keys[kz] = sx at q0 q1 p0 p1
              go_upto_region 18 with (fail)
              go_region_held3 (fun W_ => W_.cell? ⟨g2, 10, none⟩ = some (.slice (some ad0) keys.length ck0) ∧ W_.cell? ⟨g3, 10, none⟩ = some (.slice (some ad1) keys.length ck1) ∧ W_.cell? (ad0.add (kz * 2)) = some (.string sx.f0) ∧ W_.cell? (ad1.add (kz * 2)) = some (.string sx.f0) ∧ W_.cell? ⟨(ad0.add (kz * 2)).block, (ad0.add (kz * 2)).off + 1, none⟩ = some (.string sx.f1) ∧ W_.cell? ⟨(ad1.add (kz * 2)).block, (ad1.add (kz * 2)).off + 1, none⟩ = some (.string sx.f1)) (go_keep) (fail)
              all_goals go_wp2
              go_roundg (keys.length - (kz + 1))
              case measure => omega
              case rel => exact ⟨kz + 1, by omega, by omega, by go_num, M.out.step (below_drew (Below.refl _ _))⟩
            · have hltzz : ¬ (kz : Int) < (keys.length : Int) := by omega
              go_wp2
              go_ret
              exact ⟨rfl, by rw [← hg2]; exact M.out.hb⟩
end Go.Proofs.YtgcflmhlegagbaaGreatDoor.E
end
section
set_option linter.unusedVariables false
set_option linter.unusedSimpArgs false
namespace Go.Proofs.YtgcflmhlegagbaaGreatDoor.E
open Go.RowKit Go.Lib Go.Shelf
open X (S25 z25 S28 S53 S70 S46 S48 z48)
/-- What is held of roles that were seen. -/
def ofSeen (s : List ByteArray) (l : List S48) : List S48 := l.filter (fun h => wasSeen s h.f0)
theorem wasSeen_succ (s : List ByteArray) (nm : ByteArray) (k : Nat) (hk : k < s.length) : wasSeen (s.take (k + 1)) nm = (wasSeen (s.take k) nm || (nm.toList == s[k].toList)) := by
  unfold wasSeen
  rw [List.take_succ_eq_append_getElem hk, List.any_append]; simp
theorem notSeen_take {s : List ByteArray} (h : s.Nodup) {k : Nat} (hk : k < s.length) {nm : ByteArray} (e : s[k] = nm) : wasSeen (s.take k) nm = false := by
  cases e2 : wasSeen (s.take k) nm with
  | false => rfl
  | true =>
    exfalso
    obtain ⟨j, hj, e3⟩ := List.mem_take_iff_getElem.1 (wasSeen_mem.1 e2)
    rw [List.nodup_iff_pairwise_ne, List.pairwise_iff_getElem] at h
    exact h j k (by omega) hk (by omega) (e3.trans e.symm)
theorem ofSeen_len (s : List ByteArray) (l : List S48) : (ofSeen s l).length ≤ l.length := List.length_filter_le _ _
theorem ofSeen_nil (s : List ByteArray) : ofSeen s [] = [] := rfl
theorem ofSeen_succ (s : List ByteArray) (l : List S48) (k : Nat) (hk : k < l.length) : ofSeen s (l.take (k + 1)) = ofSeen s (l.take k) ++ (if wasSeen s l[k].f0 = true then [l[k]] else []) := by
  unfold ofSeen
  rw [List.take_succ_eq_append_getElem hk, List.filter_append, List.filter_cons]; rfl
theorem unlike_iff (l : List S48) : Unlike l ↔ l.Pairwise (fun x y => x.f0 ≠ y.f0) := by
  rw [List.pairwise_iff_getElem]
  exact ⟨fun h i j hi hj hij => h i j hij hj, fun h i j hij hj => h i j (by omega) hj hij⟩
theorem ofSeen_ok {s : List ByteArray} {l : List S48} (h : heldOk l = true) : heldOk (ofSeen s l) = true := by
  obtain ⟨h1, h2, h3⟩ := (heldOk_iff l).1 h
  refine (heldOk_iff _).2 ⟨Nat.le_trans (List.length_filter_le _ _) h1, fun x hx => h2 x (List.mem_filter.1 hx).1, ?_⟩
  rw [unlike_iff] at h3 ⊢
  exact h3.filter _
theorem heldBy_ofSeen (s : List ByteArray) (l : List S48) (nm : ByteArray) : heldBy (ofSeen s l) nm = if wasSeen s nm = true then heldBy l nm else none := by
  induction l with
  | nil => unfold ofSeen; cases wasSeen s nm <;> rfl
  | cons x t ih =>
    unfold ofSeen at ih ⊢
    rw [List.filter_cons]
    by_cases hx : wasSeen s x.f0 = true
    · rw [if_pos hx, heldBy_cons, heldBy_cons, ih]
      by_cases e : x.f0 = nm
      · subst e; rw [if_pos rfl, if_pos hx, if_pos rfl]
      · rw [if_neg e, if_neg e]
    · rw [if_neg hx, ih, heldBy_cons]
      by_cases e : x.f0 = nm
      · subst e; rw [if_neg hx, if_neg hx]
      · rw [if_neg e]
theorem walk_ofSeen {path : ByteArray} {l : List S48} (h : heldOk l = true) : walkS path (ofSeen (seenOf (walkS path l [first] [])) l) [first] [] = walkS path l [first] [] := by
  refine walkS_same path l _ (fun x hx => (Fits.of h hx).delegs) (fun nm hn => ?_) 641 [first] [] (by simp) (fun nm hn => ?_)
  · rw [heldBy_ofSeen, hn]; split <;> rfl
  · rw [heldBy_ofSeen, if_pos (wasSeen_mem.2 hn)]
theorem heldBy_append (l t : List S48) (nm : ByteArray) : heldBy (l ++ t) nm = (heldBy l nm).or (heldBy t nm) := by
  unfold heldBy
  rw [List.find?_append]
/-- .. and with what was wanted: the walk goes on from what it had seen. -/
theorem walk_more {path : ByteArray} {l : List S48} (h : heldOk l = true) {s : List ByteArray} {p : PAsk} (hw : walkS path l [first] [] = .want s p) (m : S46) (h2 : heldOk (ofSeen s l ++ [⟨p.nm, m⟩]) = true) :
    ∃ t, seenOf (walkS path (ofSeen s l ++ [⟨p.nm, m⟩]) [first] []) = s ++ p.nm :: t := by
  have ht := walk_told (path := path) h
  rw [hw] at ht
  have hone : ∀ nm, heldBy [⟨p.nm, m⟩] nm = if p.nm = nm then some ⟨p.nm, m⟩ else none := fun nm => by
    rw [heldBy_cons]; rfl
  refine walkS_more path l _ (fun x hx => (Fits.of h hx).delegs) (fun x hx => (Fits.of h2 hx).delegs) 641 [first] [] s p (by simp) hw (fun nm hn => ?_) (fun nm hne hn => ?_) ⟨⟨p.nm, m⟩, ?_⟩
  · obtain ⟨x, hx⟩ := ht.1.held nm hn
    rw [heldBy_append, heldBy_ofSeen, if_pos (wasSeen_mem.2 hn), hx]; rfl
  · have e0 : heldBy (ofSeen s l) nm = none := by rw [heldBy_ofSeen, hn]; split <;> rfl
    rw [heldBy_append, e0, hone, if_neg (fun e => hne e.symm)]; rfl
  · have e0 : heldBy (ofSeen s l) p.nm = none := by rw [heldBy_ofSeen, ht.2.1]; split <;> rfl
    rw [heldBy_append, e0, hone, if_pos rfl]; rfl
end Go.Proofs.YtgcflmhlegagbaaGreatDoor.E
end
section
set_option linter.unusedVariables false
set_option linter.unusedSimpArgs false
namespace Go.Proofs.YtgcflmhlegagbaaGreatDoor.E
open Go.RowKit Go.Lib Go.Shelf Go.Proofs.YtgcflmhlegagbaaGreatDoorW.PrintWords Go.Proofs.YtgcflmhlegagbaaGreatDoorW.PrintLast Go.Proofs.YtgcflmhlegagbaaGreatDoorW.PrintMore
open X (S25 k25 z25 S28 k28 S53 k53 S70 k70 S46 k46 S48 k48 z48)
theorem all_listed2 {ops : Array Oper} {md : Region.Mode} {listed : Array Bool} (hs : listed.size = ops.size) (hac : ∀ (i : Nat) (o : Oper), ops[i]? = some o → ∀ e ∈ o.after, Region.binds md e = true → e.on < i) (hr : Region.ready md ops listed = []) :
    ∀ i, i < ops.size → listed.getD i true = true := by
  intro i
  induction i using Nat.strongRecOn with
  | ind i ih =>
    intro hi
    cases hv : listed.getD i true with
    | true => rfl
    | false =>
      exfalso
      have ho : ops[i]? = some ops[i] := by simp [hi]
      have : i ∈ Region.ready md ops listed := mem_ready.2 ⟨hv, ops[i], ho, fun e he hb => by
        have hlt := hac i _ ho e he hb
        have h1 := ih e.on hlt (by omega)
        have hlt' : e.on < listed.size := by omega
        simp [hlt'] at h1 ⊢; exact h1⟩
      rw [hr] at this; cases this
theorem of_range2 {ops : Array Oper} {md : Region.Mode} (h : ((List.range ops.size).all fun i => ((ops[i]?).map fun o => o.after.all fun e => !Region.binds md e || decide (e.on < i)).getD true) = true) : ∀ (i : Nat) (o : Oper), ops[i]? = some o → ∀ e ∈ o.after, Region.binds md e = true → e.on < i := by
  intro i o ho e he hb
  have hi := (Array.getElem?_eq_some_iff.1 ho).1
  have := List.all_eq_true.1 h i (List.mem_range.2 hi)
  rw [ho] at this
  simp only [Option.map_some, Option.getD_some, Array.all_eq_true_iff_forall_mem] at this
  have h2 := this e he
  rw [hb] at h2
  simpa using h2
theorem law18 {P : Program} {ops : Array Oper} {Q : Exit → Act → World → Prop} {id : Nat} {w : World} {t0 t1 t2 t3 t4 t5 t6 t7 t8 t9 t10 t11 t12 t13 t14 t15 t16 t17 t18 t19 t20 t21 t22 t23 t24 t25 t26 t27 t28 t29 t30 t31 t32 t33 t34 t35 t36 t37 t38 t39 t40 t41 t42 t43 t44 t45 t46 t47 t48 t49 t50 t51 t52 t53 t54 t55 t56 t57 t58 t59 t60 t61 t62 t63 t64 t65 t66 t67 t68 t69 t70 t71 t72 t73 t74 t75 t76 t77 t78 t79 t80 t81 t82 t83 t84 t85 t86 t87 t88 t89 t90 t91 t92 t93 t94 t95 t96 t97 t98 t99 t100 t101 t102 t103 t104 t105 t106 t107 t108 t109 t110 t111 t112 t113 t114 t115 t116 t117 t118 t119 t120 t121 t122 t123 t124 t125 t126 t127 t128 t129 t130 t131 t132 t133 t134 t135 t136 t137 t138 t139 t140 t141 t142 t143 t144 t145 t146 t147 t148 t149 t150 t151 t152 : Value} (hm : P.follows .mixedOrders = true) (J : Array Bool → (Nat → Value) → World → Prop)
    (hsz : ops.size = 18) (hac : ∀ (i : Nat) (o : Oper), ops[i]? = some o → ∀ e ∈ o.after, Region.binds .any e = true → e.on < i)
    (hJ : ∀ listed x w, J listed x w → listed.size = 18)
    (hstep : ∀ listed (x : Nat → Value) w i o, J listed x w → ops[i]? = some o → listed.getD i true = false → (∀ e ∈ o.after, Region.binds .any e = true → listed.getD e.on false = true) →
      wpOp P ops Q i (fun a' w' => ∃ y : Nat → Value, a' = ⟨#[t0, t1, t2, t3, t4, t5, t6, t7, t8, t9, t10, t11, t12, t13, t14, t15, y 16, y 17, t18, t19, t20, t21, t22, t23, t24, t25, t26, t27, t28, t29, t30, t31, t32, t33, t34, t35, t36, t37, t38, t39, t40, t41, t42, t43, t44, t45, t46, t47, t48, t49, t50, t51, t52, t53, t54, t55, t56, t57, t58, t59, t60, t61, t62, t63, t64, t65, t66, t67, t68, t69, t70, t71, t72, t73, t74, t75, t76, t77, t78, t79, t80, t81, t82, t83, t84, t85, t86, t87, t88, t89, t90, t91, t92, t93, t94, t95, t96, t97, t98, y 99, y 100, y 101, y 102, y 103, y 104, y 105, y 106, y 107, y 108, y 109, y 110, y 111, y 112, y 113, t114, t115, t116, t117, t118, t119, t120, t121, t122, t123, t124, t125, t126, t127, t128, t129, t130, t131, t132, t133, t134, t135, t136, t137, t138, t139, t140, t141, t142, t143, t144, t145, t146, t147, t148, t149, t150, t151, t152], []⟩ ∧ J (listed.setIfInBounds i true) y w') ⟨#[t0, t1, t2, t3, t4, t5, t6, t7, t8, t9, t10, t11, t12, t13, t14, t15, x 16, x 17, t18, t19, t20, t21, t22, t23, t24, t25, t26, t27, t28, t29, t30, t31, t32, t33, t34, t35, t36, t37, t38, t39, t40, t41, t42, t43, t44, t45, t46, t47, t48, t49, t50, t51, t52, t53, t54, t55, t56, t57, t58, t59, t60, t61, t62, t63, t64, t65, t66, t67, t68, t69, t70, t71, t72, t73, t74, t75, t76, t77, t78, t79, t80, t81, t82, t83, t84, t85, t86, t87, t88, t89, t90, t91, t92, t93, t94, t95, t96, t97, t98, x 99, x 100, x 101, x 102, x 103, x 104, x 105, x 106, x 107, x 108, x 109, x 110, x 111, x 112, x 113, t114, t115, t116, t117, t118, t119, t120, t121, t122, t123, t124, t125, t126, t127, t128, t129, t130, t131, t132, t133, t134, t135, t136, t137, t138, t139, t140, t141, t142, t143, t144, t145, t146, t147, t148, t149, t150, t151, t152], []⟩ w)
    (hdone : ∀ listed (x : Nat → Value) w, J listed x w → (∀ i, i < 18 → listed.getD i true = true) → Q .normal ⟨#[t0, t1, t2, t3, t4, t5, t6, t7, t8, t9, t10, t11, t12, t13, t14, t15, x 16, x 17, t18, t19, t20, t21, t22, t23, t24, t25, t26, t27, t28, t29, t30, t31, t32, t33, t34, t35, t36, t37, t38, t39, t40, t41, t42, t43, t44, t45, t46, t47, t48, t49, t50, t51, t52, t53, t54, t55, t56, t57, t58, t59, t60, t61, t62, t63, t64, t65, t66, t67, t68, t69, t70, t71, t72, t73, t74, t75, t76, t77, t78, t79, t80, t81, t82, t83, t84, t85, t86, t87, t88, t89, t90, t91, t92, t93, t94, t95, t96, t97, t98, x 99, x 100, x 101, x 102, x 103, x 104, x 105, x 106, x 107, x 108, x 109, x 110, x 111, x 112, x 113, t114, t115, t116, t117, t118, t119, t120, t121, t122, t123, t124, t125, t126, t127, t128, t129, t130, t131, t132, t133, t134, t135, t136, t137, t138, t139, t140, t141, t142, t143, t144, t145, t146, t147, t148, t149, t150, t151, t152], []⟩ w)
    (h0 : ∀ x : Nat → Value, J (Array.replicate 18 false) x { w with drawn := w.drawn + 1 }) :
    (Code.region id ops true).wp P Q ⟨#[t0, t1, t2, t3, t4, t5, t6, t7, t8, t9, t10, t11, t12, t13, t14, t15, t16, t17, t18, t19, t20, t21, t22, t23, t24, t25, t26, t27, t28, t29, t30, t31, t32, t33, t34, t35, t36, t37, t38, t39, t40, t41, t42, t43, t44, t45, t46, t47, t48, t49, t50, t51, t52, t53, t54, t55, t56, t57, t58, t59, t60, t61, t62, t63, t64, t65, t66, t67, t68, t69, t70, t71, t72, t73, t74, t75, t76, t77, t78, t79, t80, t81, t82, t83, t84, t85, t86, t87, t88, t89, t90, t91, t92, t93, t94, t95, t96, t97, t98, t99, t100, t101, t102, t103, t104, t105, t106, t107, t108, t109, t110, t111, t112, t113, t114, t115, t116, t117, t118, t119, t120, t121, t122, t123, t124, t125, t126, t127, t128, t129, t130, t131, t132, t133, t134, t135, t136, t137, t138, t139, t140, t141, t142, t143, t144, t145, t146, t147, t148, t149, t150, t151, t152], []⟩ w := by
  refine wp_region_any hm ?_
  refine wpAny_inv (fun listed a w => ∃ x : Nat → Value, a = ⟨#[t0, t1, t2, t3, t4, t5, t6, t7, t8, t9, t10, t11, t12, t13, t14, t15, x 16, x 17, t18, t19, t20, t21, t22, t23, t24, t25, t26, t27, t28, t29, t30, t31, t32, t33, t34, t35, t36, t37, t38, t39, t40, t41, t42, t43, t44, t45, t46, t47, t48, t49, t50, t51, t52, t53, t54, t55, t56, t57, t58, t59, t60, t61, t62, t63, t64, t65, t66, t67, t68, t69, t70, t71, t72, t73, t74, t75, t76, t77, t78, t79, t80, t81, t82, t83, t84, t85, t86, t87, t88, t89, t90, t91, t92, t93, t94, t95, t96, t97, t98, x 99, x 100, x 101, x 102, x 103, x 104, x 105, x 106, x 107, x 108, x 109, x 110, x 111, x 112, x 113, t114, t115, t116, t117, t118, t119, t120, t121, t122, t123, t124, t125, t126, t127, t128, t129, t130, t131, t132, t133, t134, t135, t136, t137, t138, t139, t140, t141, t142, t143, t144, t145, t146, t147, t148, t149, t150, t151, t152], []⟩ ∧ J listed x w) ?_ ?_ _ _ _ _ ?_ ?_
  · rintro listed a w i o ⟨x, rfl, hj⟩ ho hn hd
    exact hstep listed x w i o hj ho hn hd
  · rintro listed a w ⟨x, rfl, hj⟩ hr
    exact hdone listed x w hj (fun i hi => all_listed2 ((hJ _ _ _ hj).trans hsz.symm) hac hr i (hsz ▸ hi))
  · rw [hsz]
    exact ⟨fun k => match k with | 16 => t16 | 17 => t17 | 99 => t99 | 100 => t100 | 101 => t101 | 102 => t102 | 103 => t103 | 104 => t104 | 105 => t105 | 106 => t106 | 107 => t107 | 108 => t108 | 109 => t109 | 110 => t110 | 111 => t111 | 112 => t112 | 113 => t113 | _ => undef, rfl, h0 _⟩
  · rw [hsz]; decide
def C48of (nm : ByteArray) (m : S46) (B3 B4 B6 B7 : Option Addr) (d3 d4 d6 d7 : Nat) : Array Value := #[.string nm, .int .i64 m.f0, .int .i64 m.f1, .int .i64 m.f2, .slice B3 m.f3.length d3, .slice B4 m.f4.length d4, .string m.f5, .slice B6 m.f6.length d6, .slice B7 m.f7.length d7]
def C46of (m : S46) (B3 B4 B6 B7 : Option Addr) (d3 d4 d6 d7 : Nat) : Array Value := #[.int .i64 m.f0, .int .i64 m.f1, .int .i64 m.f2, .slice B3 m.f3.length d3, .slice B4 m.f4.length d4, .string m.f5, .slice B6 m.f6.length d6, .slice B7 m.f7.length d7]
/-- What the third walk handed back. -/
def CFact (path : ByteArray) (l2 : List S48) (W : World) (cs : Array Value) (en : Int) : Prop :=
  (okW path l2 = false ∧ en = 1 ∧ cs = noCells) ∨
  (okW path l2 = true ∧ en = 0 ∧ ∃ st f b As k wn Ai ni ki nd Ak nk kk, cs = #[.int .i64 st, .string (f : S25).f0, .int .i64 f.f1, .int .i64 f.f2, .string f.f3, .string b, .slice As (seenOf (walkS path l2 [first] [])).length k, .string wn, .slice Ai ni ki, .int .i64 nd, .slice Ak nk kk] ∧ (seenOf (walkS path l2 [first] [])).length ≤ k ∧ Kd.C Kd.string W As (seenOf (walkS path l2 [first] [])).length (seenOf (walkS path l2 [first] [])))
theorem CFact.below {path : ByteArray} {l2 : List S48} {W W' : World} {cs : Array Value} {en : Int} (h : CFact path l2 W cs en) (hb : Below W.heap.size W W') : CFact path l2 W' cs en := by
  rcases h with h | ⟨h1, h2, st, f, b, As, k, wn, Ai, ni, ki, nd, Ak, nk, kk, h3, h4, h5⟩
  · exact .inl h
  · exact .inr ⟨h1, h2, st, f, b, As, k, wn, Ai, ni, ki, nd, Ak, nk, kk, h3, h4, Kd.C_below h5 hb⟩
theorem seen_ne {path : ByteArray} {l2 : List S48} (h : okW path l2 = true) : ∀ x ∈ seenOf (walkS path l2 [first] []), x ≠ ⟨#[]⟩ := by
  have hr : heldOk l2 = true := by unfold okW at h; rw [Bool.and_eq_true] at h; exact h.2
  have ht := walk_told (path := path) hr
  have hg : Good l2 (seenOf (walkS path l2 [first] [])) := by
    cases e : walkS path l2 [first] [] with
    | found s f b => rw [e] at ht; exact ht.1
    | want s a => rw [e] at ht; exact ht.1
    | none s => rw [e] at ht; exact ht
  intro x hx e
  obtain ⟨y, hy⟩ := hg.held x hx
  rw [e, held_ne hr] at hy
  cases hy
/-- A row of names that are not empty does not lie in a result's block that is zero. -/
theorem not_zero {W : World} {A : Option Addr} {l : List ByteArray} {g : Nat} (h : Kd.C Kd.string W A l.length l) (hne : ∀ x ∈ l, x ≠ ⟨#[]⟩) (hg : W.heap[g]? = some (.cells noCells 31 (0, 0))) : ∀ ad, A = some ad → 0 < l.length → ad.block ≠ g := by
  intro ad e hp eb
  obtain ⟨ad', e', q⟩ := text_at h 0 hp
  rw [e] at e'
  obtain rfl := Option.some.inj e'
  have q' : W.cell? ad = some (.string l[0]) := by simpa [Addr.add] using q
  have hl0 := hne l[0] (List.getElem_mem hp)
  unfold World.cell? at q'
  rw [eb, hg] at q'
  obtain ⟨bk, off, sp⟩ := ad
  simp only [] at q' eb
  have : ∀ j : Nat, noCells[j]? = some (.string l[0]) → l[0] = ⟨#[]⟩ := fun j hj => by
    have hlt := (Array.getElem?_eq_some_iff.1 hj).1
    have hlt' : j < 11 := hlt
    obtain rfl | rfl | rfl | rfl | rfl | rfl | rfl | rfl | rfl | rfl | rfl : j = 0 ∨ j = 1 ∨ j = 2 ∨ j = 3 ∨ j = 4 ∨ j = 5 ∨ j = 6 ∨ j = 7 ∨ j = 8 ∨ j = 9 ∨ j = 10 := by omega
    all_goals (simp [noCells] at hj; try exact hj.symm)
  split at q'
  · cases q'
  · exact hl0 (this _ q')
def slot21 (i : Nat) : Nat := if i ≤ 11 then 100 + i else if i = 12 then 99 else if i = 13 then 112 else if i = 14 then 113 else if i = 15 then 16 else if i = 17 then 17 else 0
theorem slot21_inj {i j : Nat} (hi : i < 18) (hj : j < 18) (h : slot21 i = slot21 j) : i = j := by
  have e : ∀ k, k < 18 → (k ≤ 11 ∧ slot21 k = 100 + k) ∨ (k = 12 ∧ slot21 k = 99) ∨ (k = 13 ∧ slot21 k = 112) ∨ (k = 14 ∧ slot21 k = 113) ∨ (k = 15 ∧ slot21 k = 16) ∨ (k = 16 ∧ slot21 k = 0) ∨ (k = 17 ∧ slot21 k = 17) := fun k hk => by
    by_cases h11 : k ≤ 11
    · exact .inl ⟨h11, by unfold slot21; rw [if_pos h11]⟩
    · obtain rfl | rfl | rfl | rfl | rfl | rfl : k = 12 ∨ k = 13 ∨ k = 14 ∨ k = 15 ∨ k = 16 ∨ k = 17 := by omega
      all_goals simp [slot21]
  have a := e i hi
  have b := e j hj
  omega
def F21 (w2 W0 : World) (g7 : Nat) (path nm : ByteArray) (m : S46) (B3 B4 B6 B7 : Option Addr) (d3 d4 d6 d7 : Nat) (A9 : Option Addr) (c9 : Nat) (hs : List (List Value)) (fs : List S48) (listed : Array Bool) (W : World) (v : Value) : Nat → Prop
  | 0 => v = .string path
  | 1 => listed.getD 3 false = false → ∃ g, v = .slice (some ⟨g, 0, none⟩) 0 0 ∧ W0.heap.size ≤ g ∧ W.heap[g]? = some (.cells #[] 48 (0, 0))
  | 2 => v = .slice A9 fs.length c9
  | 3 => listed.getD 10 false = false → (valK 9).R 48 W W0.heap.size (fun _ => True) v hs
  | 4 => v = .pointer (some ⟨g7, 7, none⟩)
  | 5 => v = .string nm
  | 6 => v = .agg (C46of m B3 B4 B6 B7 d3 d4 d6 d7)
  | 7 => v = .agg (C48of nm m B3 B4 B6 B7 d3 d4 d6 d7)
  | 8 => listed.getD 9 false = false → ∃ g, v = .slice (some ⟨g, 0, none⟩) 1 1 ∧ W.heap[g]? = some (.cells (C48of nm m B3 B4 B6 B7 d3 d4 d6 d7) 48 (0, 0))
  | 9 => listed.getD 10 false = false → ∃ A c hs', v = .slice A 1 c ∧ 1 ≤ c ∧ (valK 9).C W A 1 hs' ∧ HsAre w2 hs' [⟨nm, cutM m⟩]
  | 10 => listed.getD 11 false = false → ∃ A c hs', v = .slice A (fs ++ [(⟨nm, cutM m⟩ : S48)]).length c ∧ (fs ++ [(⟨nm, cutM m⟩ : S48)]).length ≤ c ∧ (valK 9).C W A (fs ++ [(⟨nm, cutM m⟩ : S48)]).length hs' ∧ HsAre w2 hs' (fs ++ [⟨nm, cutM m⟩])
  | 11 => ∃ cs en, v = .tuple #[.agg cs, .int .i64 en] ∧ CFact path (fs ++ [⟨nm, cutM m⟩]) W cs en
  | 12 => ∃ cs en, v = .tuple #[.agg cs, .int .i64 en] ∧ CFact path (fs ++ [⟨nm, cutM m⟩]) W cs en
  | 13 => ∃ cs en, v = .agg cs ∧ CFact path (fs ++ [⟨nm, cutM m⟩]) W cs en
  | 14 => ∃ cs en, v = .int .i64 en ∧ CFact path (fs ++ [⟨nm, cutM m⟩]) W cs en
  | 15 => ∃ g, v = .pointer (some ⟨g, 0, none⟩) ∧ W0.heap.size ≤ g ∧ (listed.getD 16 false = false → W.heap[g]? = some (.cells noCells 31 (0, 0))) ∧ (listed.getD 16 false = true → ∃ cs en, W.heap[g]? = some (.cells cs 31 (0, 0)) ∧ CFact path (fs ++ [⟨nm, cutM m⟩]) W cs en)
  | 16 => listed.getD 15 false = true
  | 17 => ∃ cs en, v = .int .i64 en ∧ CFact path (fs ++ [⟨nm, cutM m⟩]) W cs en
  | _ => True
structure J21 (w2 W0 : World) (g7 : Nat) (path nm : ByteArray) (m : S46) (B3 B4 B6 B7 : Option Addr) (d3 d4 d6 d7 : Nat) (A9 : Option Addr) (c9 : Nat) (hs : List (List Value)) (fs : List S48) (listed : Array Bool) (x : Nat → Value) (W : World) : Prop where
  sz : listed.size = 18
  hb : Below W0.heap.size W0 W
  f : ∀ j, j < 18 → listed.getD j false = true → F21 w2 W0 g7 path nm m B3 B4 B6 B7 d3 d4 d6 d7 A9 c9 hs fs listed W (x (slot21 j)) j
  dA : ∀ j, 9 ≤ j → j ≠ 15 → j < 18 → listed.getD j false = true → listed.getD 3 false = true
  dB : ∀ j, 11 ≤ j → j ≠ 15 → j < 18 → listed.getD j false = true → listed.getD 10 false = true
section
variable {w2 W0 : World} {g7 : Nat} {path nm : ByteArray} {m : S46} {B3 B4 B6 B7 : Option Addr} {d3 d4 d6 d7 : Nat} {A9 : Option Addr} {c9 : Nat} {hs : List (List Value)} {fs : List S48} {listed : Array Bool} {x : Nat → Value} {W W' : World}
theorem set_false {i j : Nat} (h : (listed.setIfInBounds i true).getD j false = false) : listed.getD j false = false := by
  by_cases e : j = i
  · subst e
    by_cases hlt : j < listed.size
    · rw [getD_set_same j false hlt] at h; exact absurd h (by decide)
    · simp [Array.getElem?_eq_none (Nat.le_of_not_lt hlt)]
  · exact (getD_set_ne false (fun q => e q.symm)).symm.trans h
theorem F21.pass {i j : Nat} {v : Value} (h : F21 w2 W0 g7 path nm m B3 B4 B6 B7 d3 d4 d6 d7 A9 c9 hs fs listed W v j) (hb : Below W.heap.size W W') (hi : i ≠ 16) : F21 w2 W0 g7 path nm m B3 B4 B6 B7 d3 d4 d6 d7 A9 c9 hs fs (listed.setIfInBounds i true) W' v j := by
  have e16 : (listed.setIfInBounds i true).getD 16 false = listed.getD 16 false := getD_set_ne false hi
  unfold F21 at h ⊢
  split at h
  all_goals first
    | exact h
    | trivial
    | skip
  · intro hn
    obtain ⟨g, h1, h2, h3⟩ := h (set_false hn)
    exact ⟨g, h1, h2, (hb.block _ (blk_lt h3)).trans h3⟩
  · intro hn; exact Kd.R_below (h (set_false hn)) hb
  · intro hn
    obtain ⟨g, h1, h3⟩ := h (set_false hn)
    exact ⟨g, h1, (hb.block _ (blk_lt h3)).trans h3⟩
  · intro hn
    obtain ⟨A, c, hs', h1, h2, h3, h4⟩ := h (set_false hn)
    exact ⟨A, c, hs', h1, h2, Kd.C_below h3 hb, h4⟩
  · intro hn
    obtain ⟨A, c, hs', h1, h2, h3, h4⟩ := h (set_false hn)
    exact ⟨A, c, hs', h1, h2, Kd.C_below h3 hb, h4⟩
  · obtain ⟨cs, en, h1, h2⟩ := h; exact ⟨cs, en, h1, h2.below hb⟩
  · obtain ⟨cs, en, h1, h2⟩ := h; exact ⟨cs, en, h1, h2.below hb⟩
  · obtain ⟨cs, en, h1, h2⟩ := h; exact ⟨cs, en, h1, h2.below hb⟩
  · obtain ⟨cs, en, h1, h2⟩ := h; exact ⟨cs, en, h1, h2.below hb⟩
  · obtain ⟨g, h1, h2, h3, h4⟩ := h
    refine ⟨g, h1, h2, fun hn => ?_, fun hn => ?_⟩
    · have := h3 (e16.symm.trans hn); exact (hb.block _ (blk_lt this)).trans this
    · obtain ⟨cs, en, h5, h6⟩ := h4 (e16.symm.trans hn)
      exact ⟨cs, en, (hb.block _ (blk_lt h5)).trans h5, h6.below hb⟩
  · by_cases e : i = 15
    · subst e
      by_cases hlt : 15 < listed.size
      · exact getD_set_same 15 false hlt
      · rw [show listed.getD 15 false = false from by simp [Array.getElem?_eq_none (Nat.le_of_not_lt hlt)]] at h; exact absurd h (by decide)
    · exact (getD_set_ne false e).trans h
  · obtain ⟨cs, en, h1, h2⟩ := h; exact ⟨cs, en, h1, h2.below hb⟩
/-- An operation that makes a value, and leaves what was there. -/
theorem J21.next (i : Nat) (hi : i < 18) (hi16 : i ≠ 16) (h : J21 w2 W0 g7 path nm m B3 B4 B6 B7 d3 d4 d6 d7 A9 c9 hs fs listed x W) (hb : Below W.heap.size W W') (v : Value) (hv : F21 w2 W0 g7 path nm m B3 B4 B6 B7 d3 d4 d6 d7 A9 c9 hs fs (listed.setIfInBounds i true) W' v i)
    (hA : 9 ≤ i → i ≠ 15 → listed.getD 3 false = true) (hB : 11 ≤ i → i ≠ 15 → listed.getD 10 false = true) :
    J21 w2 W0 g7 path nm m B3 B4 B6 B7 d3 d4 d6 d7 A9 c9 hs fs (listed.setIfInBounds i true) (fun k => if k = slot21 i then v else x k) W' := by
  have up : ∀ j, listed.getD j false = true → (listed.setIfInBounds i true).getD j false = true := fun j hj => by
    by_cases e : j = i
    · subst e; exact getD_set_same j false (by rw [h.sz]; exact hi)
    · exact (getD_set_ne false (fun q => e q.symm)).trans hj
  refine ⟨by rw [Array.size_setIfInBounds]; exact h.sz, below_step h.hb hb, fun j hj e => ?_, fun j h9 h15 hj e => ?_, fun j h9 h15 hj e => ?_⟩
  · by_cases hij : j = i
    · subst hij; simpa using hv
    · have hne : slot21 j ≠ slot21 i := fun q => hij (slot21_inj hj hi q)
      simp only [hne, if_false]
      exact (h.f j hj ((getD_set_ne false (fun q => hij q.symm)).symm.trans e)).pass hb hi16
  · by_cases hij : j = i
    · subst hij; exact up 3 (hA h9 h15)
    · exact up 3 (h.dA j h9 h15 hj ((getD_set_ne false (fun q => hij q.symm)).symm.trans e))
  · by_cases hij : j = i
    · subst hij; exact up 10 (hB h9 h15)
    · exact up 10 (h.dB j h9 h15 hj ((getD_set_ne false (fun q => hij q.symm)).symm.trans e))
theorem J21.app3 (h : J21 w2 W0 g7 path nm m B3 B4 B6 B7 d3 d4 d6 d7 A9 c9 hs fs listed x W) (hn : listed.getD 3 false = false) {g : Nat} {v : Value} (hx : W.heap[g]? = some (.cells #[] 48 (0, 0))) (hge : W0.heap.size ≤ g) (hg : W.grownBy W' (some g)) (r : (valK 9).R 48 W' W0.heap.size (fun _ => True) v hs) :
    J21 w2 W0 g7 path nm m B3 B4 B6 B7 d3 d4 d6 d7 A9 c9 hs fs (listed.setIfInBounds 3 true) (fun k => if k = slot21 3 then v else x k) W' := by
  have e3 : (listed.setIfInBounds 3 true).getD 3 false = true := getD_set_same 3 false (by rw [h.sz]; decide)
  have ene : ∀ j, j ≠ 3 → (listed.setIfInBounds 3 true).getD j false = listed.getD j false := fun j hj => getD_set_ne false (fun q => hj q.symm)
  have kept : ∀ (k : Nat) (o : Obj), W.heap[k]? = some o → o ≠ .cells #[] 48 (0, 0) → W'.heap[k]? = some o := fun k o hk hno => (hg.block k (blk_lt hk) (fun e => by
    injection e with e
    rw [e, hx] at hk
    exact hno (Option.some.inj hk).symm)).trans hk
  refine ⟨by rw [Array.size_setIfInBounds]; exact h.sz, h.hb.grown hg h.hb.size (fun k e => by cases e; exact hge), fun j hj e => ?_, fun j h9 h15 hj e => e3, fun j h9 h15 hj e => ?_⟩
  · by_cases hij : j = 3
    · subst hij
      simp only [if_true]
      exact fun _ => r
    · rw [ene j hij] at e
      have hne : slot21 j ≠ slot21 3 := fun q => hij (slot21_inj hj (by decide) q)
      simp only [hne, if_false]
      have hf := h.f j hj e
      have hlate : 9 ≤ j → j = 15 := fun h9 => by
        by_cases h15 : j = 15
        · exact h15
        · rw [h.dA j h9 h15 hj e] at hn; exact absurd hn (by decide)
      have h16 : listed.getD 16 false = false := by
        cases e16 : listed.getD 16 false with
        | false => rfl
        | true => rw [h.dA 16 (by decide) (by decide) (by decide) e16] at hn; exact absurd hn (by decide)
      obtain rfl | rfl | rfl | rfl | rfl | rfl | rfl | rfl | rfl : j = 0 ∨ j = 1 ∨ j = 2 ∨ j = 4 ∨ j = 5 ∨ j = 6 ∨ j = 7 ∨ j = 8 ∨ j = 15 := by
        by_cases h9 : 9 ≤ j
        · have := hlate h9; omega
        · omega
      · exact hf
      · intro hn3; rw [e3] at hn3; exact absurd hn3 (by decide)
      · exact hf
      · exact hf
      · exact hf
      · exact hf
      · exact hf
      · intro hn9
        rw [ene 9 (by decide)] at hn9
        obtain ⟨g8, h1, h2⟩ := hf hn9
        exact ⟨g8, h1, kept g8 _ h2 (by unfold C48of; simp)⟩
      · obtain ⟨g16, h1, h2, h3, h4⟩ := hf
        refine ⟨g16, h1, h2, fun _ => kept g16 _ (h3 h16) (by simp [noCells]), fun e16 => ?_⟩
        rw [ene 16 (by decide), h16] at e16
        exact absurd e16 (by decide)
  · rw [ene 10 (by decide)]
    rw [ene j (by omega)] at e
    exact h.dB j h9 h15 hj e
theorem J21.app10 (h : J21 w2 W0 g7 path nm m B3 B4 B6 B7 d3 d4 d6 d7 A9 c9 hs fs listed x W) (hn : listed.getD 10 false = false) (h3 : listed.getD 3 false = true) (h9 : listed.getD 9 false = true) {v : Value} (hg : W.grownBy W' (x 103).ownBlock)
    (hv : ∃ A c hs', v = .slice A (fs ++ [(⟨nm, cutM m⟩ : S48)]).length c ∧ (fs ++ [(⟨nm, cutM m⟩ : S48)]).length ≤ c ∧ (valK 9).C W' A (fs ++ [(⟨nm, cutM m⟩ : S48)]).length hs' ∧ HsAre w2 hs' (fs ++ [⟨nm, cutM m⟩])) :
    J21 w2 W0 g7 path nm m B3 B4 B6 B7 d3 d4 d6 d7 A9 c9 hs fs (listed.setIfInBounds 10 true) (fun k => if k = slot21 10 then v else x k) W' := by
  have r : (valK 9).R 48 W W0.heap.size (fun _ => True) (x 103) hs := h.f 3 (by decide) h3 hn
  have e10 : (listed.setIfInBounds 10 true).getD 10 false = true := getD_set_same 10 false (by rw [h.sz]; decide)
  have ene : ∀ j, j ≠ 10 → (listed.setIfInBounds 10 true).getD j false = listed.getD j false := fun j hj => getD_set_ne false (fun q => hj q.symm)
  have kept : ∀ (k : Nat) (cs : Array Value), W.heap[k]? = some (.cells cs 31 (0, 0)) → W'.heap[k]? = some (.cells cs 31 (0, 0)) := fun k cs hk => (hg.block k (blk_lt hk) (fun e => by
    obtain ⟨cells, hc⟩ := Kd.R_typed r k e.symm
    rw [hc] at hk
    injection hk with hk
    injection hk with _ hk
    exact absurd hk (by decide))).trans hk
  have h16 : listed.getD 16 false = false := by
    cases e16 : listed.getD 16 false with
    | false => rfl
    | true => rw [h.dB 16 (by decide) (by decide) (by decide) e16] at hn; exact absurd hn (by decide)
  refine ⟨by rw [Array.size_setIfInBounds]; exact h.sz, h.hb.grown hg h.hb.size (fun k e => ((Kd.R_bound r).1 k e).2.1), fun j hj e => ?_, fun j h9 h15 hj e => by rw [ene 3 (by decide)]; exact h3, fun j h9 h15 hj e => e10⟩
  by_cases hij : j = 10
  · subst hij
    simp only [if_true]
    exact fun _ => hv
  · rw [ene j hij] at e
    have hne : slot21 j ≠ slot21 10 := fun q => hij (slot21_inj hj (by decide) q)
    simp only [hne, if_false]
    have hf := h.f j hj e
    have hlate : 11 ≤ j → j = 15 := fun h9 => by
      by_cases h15 : j = 15
      · exact h15
      · rw [h.dB j h9 h15 hj e] at hn; exact absurd hn (by decide)
    obtain rfl | rfl | rfl | rfl | rfl | rfl | rfl | rfl | rfl | rfl | rfl : j = 0 ∨ j = 1 ∨ j = 2 ∨ j = 3 ∨ j = 4 ∨ j = 5 ∨ j = 6 ∨ j = 7 ∨ j = 8 ∨ j = 9 ∨ j = 15 := by
      by_cases h9 : 11 ≤ j
      · have := hlate h9; omega
      · omega
    · exact hf
    · intro hn3; rw [ene 3 (by decide), h3] at hn3; exact absurd hn3 (by decide)
    · exact hf
    · intro hn3; rw [e10] at hn3; exact absurd hn3 (by decide)
    · exact hf
    · exact hf
    · exact hf
    · exact hf
    · intro hn9; rw [ene 9 (by decide), h9] at hn9; exact absurd hn9 (by decide)
    · intro hn9; rw [e10] at hn9; exact absurd hn9 (by decide)
    · obtain ⟨g16, h1, h2, h3, h4⟩ := hf
      refine ⟨g16, h1, h2, fun _ => kept g16 _ (h3 h16), fun e16 => ?_⟩
      rw [ene 16 (by decide), h16] at e16
      exact absurd e16 (by decide)
theorem CFact.set {l2 : List S48} {g : Nat} {cs cs' : Array Value} {en : Int} (h : CFact path l2 W cs en) (hz : W.heap[g]? = some (.cells noCells 31 (0, 0))) : CFact path l2 (W.setRow g cs') cs en := by
  rcases h with h | ⟨h1, h2, st, f, b, As, k, wn, Ai, ni, ki, nd, Ak, nk, kk, h3, h4, h5⟩
  · exact .inl h
  · refine .inr ⟨h1, h2, st, f, b, As, k, wn, Ai, ni, ki, nd, Ak, nk, kk, h3, h4, C_block h5 (fun _ _ hk => hk) (fun ad ea hn => ?_)⟩
    have := not_zero h5 (seen_ne h1) hz ad ea hn
    simp [World.setRow, Array.getElem?_modify, Ne.symm this]
theorem J21.store16 (h : J21 w2 W0 g7 path nm m B3 B4 B6 B7 d3 d4 d6 d7 A9 c9 hs fs listed x W) (hn : listed.getD 16 false = false) (hall : ∀ j, j < 16 → j ≠ 14 → listed.getD j false = true) {g : Nat} (hx : x 16 = .pointer (some ⟨g, 0, none⟩)) {cs : Array Value} {en : Int} (hc : CFact path (fs ++ [⟨nm, cutM m⟩]) W cs en) :
    J21 w2 W0 g7 path nm m B3 B4 B6 B7 d3 d4 d6 d7 A9 c9 hs fs (listed.setIfInBounds 16 true) x (W.setRow g cs) := by
  obtain ⟨g', h1, hge, hz, _⟩ := h.f 15 (by decide) (hall 15 (by decide) (by decide))
  have eg : g' = g := by
    have h2 : x 16 = .pointer (some ⟨g', 0, none⟩) := h1
    rw [hx] at h2
    injection h2 with h2
    injection h2 with h2
    injection h2 with h2
    exact h2.symm
  subst eg
  have hz := hz hn
  have e16 : (listed.setIfInBounds 16 true).getD 16 false = true := getD_set_same 16 false (by rw [h.sz]; decide)
  have ene : ∀ j, j ≠ 16 → (listed.setIfInBounds 16 true).getD j false = listed.getD j false := fun j hj => getD_set_ne false (fun q => hj q.symm)
  refine ⟨by rw [Array.size_setIfInBounds]; exact h.sz, K.below_setRow h.hb hge cs, fun j hj e => ?_, fun j h9 h15 hj e => by rw [ene 3 (by decide)]; exact hall 3 (by decide) (by decide), fun j h9 h15 hj e => by rw [ene 10 (by decide)]; exact hall 10 (by decide) (by decide)⟩
  by_cases hij : j = 16
  · subst hij; exact (ene 15 (by decide)).trans (hall 15 (by decide) (by decide))
  · rw [ene j hij] at e
    have hf := h.f j hj e
    have no : ∀ k, k < 16 → k ≠ 14 → (listed.setIfInBounds 16 true).getD k false = false → False := fun k hk h14 hk2 => by
      rw [ene k (by omega), hall k hk h14] at hk2; exact absurd hk2 (by decide)
    obtain rfl | rfl | rfl | rfl | rfl | rfl | rfl | rfl | rfl | rfl | rfl | rfl | rfl | rfl | rfl | rfl | rfl : j = 0 ∨ j = 1 ∨ j = 2 ∨ j = 3 ∨ j = 4 ∨ j = 5 ∨ j = 6 ∨ j = 7 ∨ j = 8 ∨ j = 9 ∨ j = 10 ∨ j = 11 ∨ j = 12 ∨ j = 13 ∨ j = 14 ∨ j = 15 ∨ j = 17 := by omega
    · exact hf
    · exact fun q => (no 3 (by decide) (by decide) q).elim
    · exact hf
    · exact fun q => (no 10 (by decide) (by decide) q).elim
    · exact hf
    · exact hf
    · exact hf
    · exact hf
    · exact fun q => (no 9 (by decide) (by decide) q).elim
    · exact fun q => (no 10 (by decide) (by decide) q).elim
    · exact fun q => (no 11 (by decide) (by decide) q).elim
    · obtain ⟨c2, e2, h1, h2⟩ := hf; exact ⟨c2, e2, h1, h2.set hz⟩
    · obtain ⟨c2, e2, h1, h2⟩ := hf; exact ⟨c2, e2, h1, h2.set hz⟩
    · obtain ⟨c2, e2, h1, h2⟩ := hf; exact ⟨c2, e2, h1, h2.set hz⟩
    · obtain ⟨c2, e2, h1, h2⟩ := hf; exact ⟨c2, e2, h1, h2.set hz⟩
    · exact ⟨g', hx, hge, fun q => by rw [e16] at q; exact absurd q (by decide), fun _ => ⟨cs, en, setRow_heap W g' noCells cs 31 (0, 0) hz, hc.set hz⟩⟩
    · obtain ⟨c2, e2, h1, h2⟩ := hf; exact ⟨c2, e2, h1, h2.set hz⟩
theorem rep18 (j : Nat) : (Array.replicate 18 false).getD j false = false := by
  by_cases h : j < 18
  · simp [h]
  · simp [Array.getElem?_eq_none (show (Array.replicate 18 false).size ≤ j by simp; omega)]
theorem J21.start : J21 w2 W g7 path nm m B3 B4 B6 B7 d3 d4 d6 d7 A9 c9 hs fs (Array.replicate 18 false) x W :=
  ⟨by simp, Below.refl _ _, fun j _ e => absurd ((rep18 j).symm.trans e) (by decide), fun j _ _ _ e => absurd ((rep18 j).symm.trans e) (by decide), fun j _ _ _ e => absurd ((rep18 j).symm.trans e) (by decide)⟩
end
end Go.Proofs.YtgcflmhlegagbaaGreatDoor.E
end
section
set_option linter.unusedVariables false
set_option linter.unusedSimpArgs false
namespace Go.Proofs.YtgcflmhlegagbaaGreatDoor.E
open Go.RowKit Go.Lib Go.Shelf Go.Proofs.YtgcflmhlegagbaaGreatDoorW.PrintWords Go.Proofs.YtgcflmhlegagbaaGreatDoorW.PrintLast Go.Proofs.YtgcflmhlegagbaaGreatDoorW.PrintMore
open X (S25 k25 z25 S28 k28 S53 k53 S70 k70 S46 k46 S48 k48 z48)
theorem step_valueW {P : Program} {o : Oper} {a : Act} {w w' : World} {K : Act → World → Prop} {Q : Exit → Act → World → Prop} (v : Value) (hrun : (execOp a.eval o).run P w = .ok (.value v) w') (h : K (a.put o.dst v) w') : o.wp P a w K Q := by
  unfold Oper.wp; rw [hrun]; exact h
theorem step_call {P : Program} {o : Oper} {a : Act} {w : World} {K : Act → World → Prop} {Q : Exit → Act → World → Prop} (f : FuncId) (args : Array Value) (hrun : (execOp a.eval o).run P w = .ok (.enter f args) w) {R : Ending → World → Prop} (hc : Calls P f args w R) (h : ∀ e w', R e w' → ∃ v, e = .returned v ∧ K (a.put o.dst v) w') : o.wp P a w K Q := by
  unfold Oper.wp; rw [hrun]
  exact hc.mono fun e w' hr => by
    obtain ⟨v, rfl, hk⟩ := h e w' hr
    exact hk
/-- What a list of operations asks, only going on in the usual way. -/
def Only (K : Act → World → Prop) : Exit → Act → World → Prop
  | .normal, a, w => K a w
  | _, _, _ => False
theorem wp_of_list {P : Program} {ops : Array Oper} {o : Oper} {a : Act} {w : World} {K : Act → World → Prop} {Q : Exit → Act → World → Prop} (hg : o.guard = none)
    (h : wpList P ops (Only K) [o] a w) : o.wp P a w K Q := by
  unfold wpList at h
  rw [if_pos (by simp [Region.wanted, hg])] at h
  rcases h with h | ⟨_, _, _, h⟩
  · unfold Oper.wp at h ⊢
    generalize (execOp a.eval o).run P w = r at h ⊢
    cases r with
    | ok n w' =>
      cases n with
      | enter f args =>
        refine Calls.mono h ?_
        intro e w'' he
        cases e with
        | returned v => exact he
        | panicked c => exact he.elim
        | outgrown => obtain ⟨_, _, he⟩ := he; exact he.elim
      | _ => exact h
    | halt x w' => cases x <;> first | exact h.elim | exact h
  · exact h.elim
theorem R_none2 {α : Type} (d : Kd α) {e : Nat} {W : World} {g base : Nat} (h : W.heap[g]? = some (.cells #[] e (0, 0))) (hb : base ≤ g) : d.R e W base (fun _ => True) (.slice (some ⟨g, 0, none⟩) 0 0) [] :=
  ⟨fun _ _ => trivial, [], ⟨by simp, .inr ⟨g, 0, #[], rfl, hb, h, Nat.le_refl _, by decide, by simp, by simp⟩⟩, ⟨by simp, fun j p h => by simp at h⟩⟩
theorem C_one {n : Nat} {e : Nat} {W : World} {g : Nat} {cs : Array Value} (h : W.heap[g]? = some (.cells cs e (0, 0))) (hn : cs.toList.length = n) (h1 : ∀ u ∈ cs.toList, u.oneCell' = true) : (valK n).C W (some ⟨g, 0, none⟩) 1 [cs.toList] := by
  refine ⟨rfl, by decide, fun _ => ⟨_, rfl, fun j p hj => ?_⟩⟩
  obtain rfl : j = 0 := by have := (List.getElem?_eq_some_iff.1 hj).1; simpa using this
  obtain rfl : cs.toList = p := by simpa using hj
  refine ⟨cs.toList, hn, ⟨rfl, hn, h1⟩, fun i u hu => ?_⟩
  rw [Array.getElem?_toList] at hu
  have := cell_of_block h i u hu
  have e : (Addr.add ⟨g, 0, none⟩ (0 * n + i) : Addr) = ⟨g, i, none⟩ := by simp [Addr.add]; intro e; exact e.symm
  rw [show (0 * (valK n).sz + i) = 0 * n + i from rfl, e]; exact this
theorem HsAre.app1 {w : World} {hs hs' : List (List Value)} {fs : List S48} {x : S48} (h : HsAre w hs fs) (h' : HsAre w hs' [x]) : HsAre w (hs ++ hs') (fs ++ [x]) := by
  obtain ⟨c, rfl⟩ : ∃ c, hs' = [c] := List.length_eq_one_iff.1 h'.1
  exact h.snoc (h'.2 0 c x rfl rfl)
theorem CFact.same {path : ByteArray} {l2 : List S48} {W : World} {cs cs' : Array Value} {en en' : Int} (h : CFact path l2 W cs en) (h' : CFact path l2 W cs' en') : en = en' := by
  rcases h with ⟨a, b, _⟩ | ⟨a, b, _⟩ <;> rcases h' with ⟨a', b', _⟩ | ⟨a', b', _⟩
  · rw [b, b']
  · rw [a] at a'; cases a'
  · rw [a] at a'; cases a'
  · rw [b, b']
theorem CFact.size {path : ByteArray} {l2 : List S48} {W : World} {cs : Array Value} {en : Int} (h : CFact path l2 W cs en) : cs.size = 11 ∧ cs.all (·.oneCell') = true := by
  rcases h with ⟨_, _, rfl⟩ | ⟨_, _, st, f, b, As, k, wn, Ai, ni, ki, nd, Ak, nk, kk, rfl, _⟩
  · exact ⟨rfl, by simp [noCells, Value.oneCell']⟩
  · exact ⟨rfl, by simp [Value.oneCell']⟩
theorem CFact.of_walk {path : ByteArray} {l2 : List S48} {W W' : World} {e : Ending} (h : WalkOut W path l2 e W') : ∃ cs en, e = .returned (.tuple #[.agg cs, .int .i64 en]) ∧ CFact path l2 W' cs en ∧ Below W.heap.size W W' := by
  obtain ⟨cs, h | ⟨h1, h2, h3⟩, hb⟩ := h
  · obtain ⟨h1, h2, h3⟩ := h
    obtain ⟨st, f, b, As, ks, wn, Ai, ki, Ak, kk, e1, _, hk, hC, _⟩ := h3.openAll
    exact ⟨cs, 0, h2, .inr ⟨h1, rfl, st, f, b, As, ks, wn, Ai, _, ki, _, Ak, _, kk, e1, hk, hC⟩, hb⟩
  · exact ⟨cs, 1, h2, .inl ⟨h1, rfl, h3⟩, hb⟩
theorem few_val1 (w0 : World) (A : Option Addr) (c : Nat) (nm : ByteArray) (m : S46) (cs : List Value) (w : World) (hC : (valK 9).C w A 1 [cs]) (hK : k48.K w0 ⟨nm, m⟩ cs) (hc : 1 ≤ c) :
    Calls Tryz.prog 8 #[.slice A 1 c] w fun e w' => ∃ A' c' hs', e = .returned (.slice A' 1 c') ∧ 1 ≤ c' ∧ (valK 9).C w' A' 1 hs' ∧ HsAre w0 hs' [⟨nm, cutM m⟩] ∧ Below w.heap.size w w' :=
  few_val w0 A c [⟨nm, m⟩] [cs] w hC ((HsAre.nil w0).snoc hK) hc
theorem info31 : (Tryz.prog.info? 31).map (·.size) = some 11 := by kernel_rfl
end Go.Proofs.YtgcflmhlegagbaaGreatDoor.E
end
section
set_option linter.unusedVariables false
set_option linter.unusedSimpArgs false
namespace Go.Proofs.YtgcflmhlegagbaaGreatDoor.E
open Go.RowKit Go.Lib Go.Shelf Go.Proofs.YtgcflmhlegagbaaGreatDoorW.PrintWords Go.Proofs.YtgcflmhlegagbaaGreatDoorW.PrintLast Go.Proofs.YtgcflmhlegagbaaGreatDoorW.PrintMore
open X (S25 k25 z25 S28 k28 S53 k53 S70 k70 S46 k46 S48 k48 z48 rd_T48 at_T48)
/-- In the law: the first walk's result in block g7, the row that is made. -/
structure G5 (w : World) (B g7 : Nat) (cs : Array Value) (ok : Nat → Prop) (v : Value) (hs : List (List Value)) (W : World) : Prop where
  hb : Below w.heap.size w W
  h7 : W.heap[g7]? = some (.cells cs 31 (0, 0))
  l7 : w.heap.size ≤ g7
  n7 : g7 < B
  nB : B ≤ W.heap.size
  r : (valK 9).R 48 W B ok v hs
theorem G5.step {w : World} {B g7 : Nat} {cs : Array Value} {ok : Nat → Prop} {v : Value} {hs : List (List Value)} {W W' : World} (h : G5 w B g7 cs ok v hs W) (hb : Below W.heap.size W W') : G5 w B g7 cs ok v hs W' :=
  ⟨below_step h.hb hb, (hb.block _ (blk_lt h.h7)).trans h.h7, h.l7, h.n7, Nat.le_trans h.nB hb.size, Kd.R_below h.r hb⟩
theorem G5.app {w : World} {B g7 : Nat} {cs : Array Value} {ok : Nat → Prop} {v v1 : Value} {hs hs1 : List (List Value)} {W W' : World} (h : G5 w B g7 cs ok v hs W) (hg : W.grownBy W' v.ownBlock) (r1 : (valK 9).R 48 W' B ok v1 hs1) : G5 w B g7 cs ok v1 hs1 W' := by
  have hbd : ∀ k, v.ownBlock = some k → B ≤ k := fun k hk => ((Kd.R_bound h.r).1 k hk).2.1
  have l7 := h.l7; have n7 := h.n7
  refine ⟨h.hb.grown hg h.hb.size (fun k e => by have := hbd k e; omega), (hg.block _ (blk_lt h.h7) (fun e => by have := hbd g7 e.symm; omega)).trans h.h7, l7, n7, Nat.le_trans h.nB hg.size, r1⟩
theorem G5.okTo {w : World} {B g7 : Nat} {cs : Array Value} {ok ok' : Nat → Prop} {v : Value} {hs : List (List Value)} {W : World} (h : G5 w B g7 cs ok v hs W) (hk : ∀ k, ok k → ok' k) : G5 w B g7 cs ok' v hs W :=
  ⟨h.hb, h.h7, h.l7, h.n7, h.nB, Kd.R_mono h.r hk⟩
theorem OutIs.same {st st' : Int} {f f' : S25} {b b' wn wn' : ByteArray} {out : WOut} (h : OutIs st f b wn out) (h' : OutIs st' f' b' wn' out) : st = st' ∧ f = f' ∧ b = b' ∧ wn = wn' := by
  cases out <;> obtain ⟨rfl, rfl, rfl, rfl⟩ := h <;> obtain ⟨rfl, rfl, rfl, rfl⟩ := h' <;> exact ⟨rfl, rfl, rfl, rfl⟩
attribute [local irreducible] heldOk fewS okW ofSeen
set_option maxHeartbeats 8000000 in
set_option maxRecDepth 100000 in
theorem Goes_not (path : ByteArray) (A : Option Addr) (c : Nat) (l : List S48) (m : S46) (B3 B4 B6 B7 : Option Addr) (d3 d4 d6 d7 : Nat) (w : World) (ht : Tabs w) (hA : Kd.C k48 w A l.length l) (hlc : l.length ≤ c) (hno : okW path (fewS l) = false) :
    Calls Tryz.prog 5 #[.string path, .slice A l.length c, .agg #[.int .i64 m.f0, .int .i64 m.f1, .int .i64 m.f2, .slice B3 m.f3.length d3, .slice B4 m.f4.length d4, .string m.f5, .slice B6 m.f6.length d6, .slice B7 m.f7.length d7]] w fun e w' => e = .returned (.bool true) ∧ Below w.heap.size w w' := by
  have hb0 := below_alloc (Below.refl w.heap.size w) (.cells #[.int .i64 m.f0, .int .i64 m.f1, .int .i64 m.f2, .slice B3 m.f3.length d3, .slice B4 m.f4.length d4, .string m.f5, .slice B6 m.f6.length d6, .slice B7 m.f7.length d7] 46)
  have HF := Aside0.mk (few_any A c l _ (Kd.C_below hA hb0) hlc)
  have HB0 := Aside0.mk hb0
  have HW := Aside0.mk (fun (A1 : Option Addr) (c1 : Nat) (W : World) (h1 : (fewS l).length ≤ c1) (hC : Kd.C k48 W A1 (fewS l).length (fewS l)) (hT : Tabs W) => show Calls Tryz.prog 9 #[.string path, .slice A1 (fewS l).length c1] W fun e w' => e = .returned (.tuple #[.agg #[.int .i64 0, .string ⟨#[]⟩, .int .i64 0, .int .i64 0, .string ⟨#[]⟩, .string ⟨#[]⟩, .slice none 0 0, .string ⟨#[]⟩, .slice none 0 0, .int .i64 0, .slice none 0 0], .int .i64 1]) ∧ Below W.heap.size W w' from
    (Walk_any path A1 c1 (fewS l) W hT hC h1).mono fun e w' ⟨cs, h, hb⟩ => by
      rcases h with ⟨h, _, _⟩ | ⟨_, rfl, rfl⟩
      · rw [hno] at h; exact absurd h (by decide)
      · exact ⟨rfl, hb⟩)
  have HT := Aside0.mk ht
  have HL := Aside0.mk (fun (W : World) (hT : Tabs W) => alive_any W hT)
  clear ht hA hno hb0
  generalize fewS l = fl at *
  go_enter Tryz.func5, Tryz.ntmps5
  go_wp2_with (first
    | (go_at_call 8; (with_reducible refine HF.out.mono ?_); rintro e w1 ⟨A1, c1, rfl, hl1, hC1, hb1⟩; have HB1 := Aside0.mk (below_step HB0.out hb1); have HC1 := Aside0.mk hC1; clear hb1 hC1)
    | (go_at_call 9; (with_reducible refine (HW.out _ _ _ hl1 HC1.out (HT.out.below HB1.out)).mono ?_); rintro e w2 ⟨rfl, hb2⟩; have HB2 := Aside0.mk (below_step (below_step HB1.out hb2) (below_alloc (Below.refl _ _) (.cells #[.int .i64 0, .string ⟨#[]⟩, .int .i64 0, .int .i64 0, .string ⟨#[]⟩, .string ⟨#[]⟩, .slice none 0 0, .string ⟨#[]⟩, .slice none 0 0, .int .i64 0, .slice none 0 0] 31))); clear hb2)
    | (go_at_call 12; (with_reducible refine (HL.out _ (HT.out.below HB2.out)).mono ?_); rintro e w3 ⟨rfl, hb3⟩; have HB3 := Aside0.mk (below_step HB2.out hb3); clear hb3))
  go_ret
  exact ⟨rfl, HB3.out⟩
set_option maxHeartbeats 8000000 in
set_option maxRecDepth 100000 in
theorem Goes_ok (path : ByteArray) (A : Option Addr) (c : Nat) (l : List S48) (m : S46) (B3 B4 B6 B7 : Option Addr) (d3 d4 d6 d7 : Nat) (w : World) (ht : Tabs w) (hA : Kd.C k48 w A l.length l) (hlc : l.length ≤ c) (hok : okW path (fewS l) = true)
    (hl3 : m.f3.length ≤ d3) (hC3 : Kd.C k70 w B3 m.f3.length m.f3) (hl4 : m.f4.length ≤ d4) (hC4 : Kd.C k28 w B4 m.f4.length m.f4) (hl6 : m.f6.length ≤ d6) (hC6 : Kd.C k25 w B6 m.f6.length m.f6) (hl7 : m.f7.length ≤ d7) (hC7 : Kd.C k53 w B7 m.f7.length m.f7) :
    Calls Tryz.prog 5 #[.string path, .slice A l.length c, .agg #[.int .i64 m.f0, .int .i64 m.f1, .int .i64 m.f2, .slice B3 m.f3.length d3, .slice B4 m.f4.length d4, .string m.f5, .slice B6 m.f6.length d6, .slice B7 m.f7.length d7]] w fun e w' => e = .returned (.bool true) ∧ Below w.heap.size w w' := by
  have hb0 := below_alloc (Below.refl w.heap.size w) (.cells #[.int .i64 m.f0, .int .i64 m.f1, .int .i64 m.f2, .slice B3 m.f3.length d3, .slice B4 m.f4.length d4, .string m.f5, .slice B6 m.f6.length d6, .slice B7 m.f7.length d7] 46)
  have HF := Aside0.mk (few_any A c l _ (Kd.C_below hA hb0) hlc)
  have HB0 := Aside0.mk hb0
  have HMC := Aside0.mk (blk_new w (.cells #[.int .i64 m.f0, .int .i64 m.f1, .int .i64 m.f2, .slice B3 m.f3.length d3, .slice B4 m.f4.length d4, .string m.f5, .slice B6 m.f6.length d6, .slice B7 m.f7.length d7] 46))
  have HKN := Aside0.mk (fun nm : ByteArray => X.k48_mk w ⟨nm, m⟩ hl3 hC3 hl4 hC4 hl6 hC6 hl7 hC7)
  have hr : heldOk (fewS l) = true := by
    have h := hok
    unfold okW at h
    rw [Bool.and_eq_true] at h
    exact h.2
  have hp : G.right false path.data.toList = true := by
    have h := hok
    unfold okW at h
    rw [Bool.and_eq_true] at h
    exact h.1
  generalize fewS l = fl at *
  have HTD := Aside0.mk (walk_told (path := path) hr)
  have HWS := Aside0.mk (walk_ofSeen (path := path) hr)
  have HWM := Aside0.mk (fun (s : List ByteArray) (p : PAsk) (h : walkS path fl [first] [] = .want s p) (m : S46) (h2 : heldOk (ofSeen s fl ++ [⟨p.nm, m⟩]) = true) => walk_more hr h m h2)
  have HSO := Aside0.mk (fun (s : List ByteArray) => ofSeen_ok (s := s) hr)
  obtain ⟨out, hout⟩ : ∃ out, walkS path fl [first] [] = out := ⟨_, rfl⟩
  rw [hout] at HTD HWS HWM
  have HW := Aside0.mk (fun (l' : List S48) (hl' : heldOk l' = true) (A1 : Option Addr) (c1 : Nat) (W : World) (h1 : l'.length ≤ c1) (hC : Kd.C k48 W A1 l'.length l') (hT : Tabs W) => show Calls Tryz.prog 9 #[.string path, .slice A1 l'.length c1] W fun e w' => ∃ cs, e = .returned (.tuple #[.agg cs, .int .i64 0]) ∧ WalkIs w' cs (walkS path l' [first] []) ∧ Below W.heap.size W w' from
    Walk_ok path A1 c1 l' W hT hC h1 hp hl')
  have HT := Aside0.mk ht
  have HL := Aside0.mk (fun (W : World) (hT : Tabs W) => alive_any W hT)
  have h32 := heldOk_len hr
  have HHR := Aside0.mk hr
  have HOUT := Lib.hid hout
  have HP := Aside0.mk hp
  clear ht hA hok hr hp hb0 hC3 hC4 hC6 hC7 hout
  go_enter Tryz.func5, Tryz.ntmps5
  go_wp2_with (first
    | (go_at_call 8; (with_reducible refine HF.out.mono ?_); rintro e w1 ⟨A1, c1, rfl, hl1, hC1, hb1⟩; have HB1 := Aside0.mk (below_step HB0.out hb1); have HM1 := Aside0.mk ((hb1.block _ (blk_lt HMC.out)).trans HMC.out); have HC1 := Aside0.mk hC1; clear hb1 hC1)
    | (go_at_call 9; (with_reducible refine (HW.out fl HHR.out _ _ _ hl1 HC1.out (HT.out.below HB1.out)).mono ?_); rintro e w2 ⟨cs, rfl, hwi, hb2⟩; rw [HOUT.out] at hwi; obtain ⟨st, f, b, As, ks, wn, Ai, ki, Ak, kk, rfl, hOI, hsk, hsC, hik, hiC, hkk, hkC⟩ := hwi.openAll; have HOI := Aside0.mk hOI; have HSC := Aside0.mk hsC; have HIC := Aside0.mk hiC; have HKC := Aside0.mk hkC; have HB2 := Aside0.mk (below_step HB1.out hb2); have HM2 := Aside0.mk ((hb2.block _ (blk_lt HM1.out)).trans HM1.out); have HC2 := Aside0.mk (Kd.C_below HC1.out hb2); clear hb2 hwi hOI hsC hiC hkC))
  obtain ⟨seen, hseen⟩ : ∃ s, seenOf out = s := ⟨_, rfl⟩
  have HSEEN := Lib.hid hseen
  rw [hseen] at HSC hsk HWS ⊢
  have HG0 := Aside0.mk (show G5 w2 (w2.heap.size + 1) w2.heap.size #[.int .i64 st, .string f.f0, .int .i64 f.f1, .int .i64 f.f2, .string f.f3, .string b, .slice As seen.length ks, .string wn, .slice Ai (roleOf out).1.length ki, .int .i64 (roleOf out).2.1, .slice Ak (roleOf out).2.2.length kk] (fun _ => True) (.slice none 0 0) [] (w2.alloc (.cells #[.int .i64 st, .string f.f0, .int .i64 f.f1, .int .i64 f.f2, .string f.f3, .string b, .slice As seen.length ks, .string wn, .slice Ai (roleOf out).1.length ki, .int .i64 (roleOf out).2.1, .slice Ak (roleOf out).2.2.length kk] 31)) from
    ⟨below_alloc (Below.refl _ _) _, blk_new _ _, Nat.le_refl _, by omega, by simp, Kd.R_nil _ _ _ _ _⟩)
  generalize w2.alloc _ = W0 at HG0 ⊢
  generalize hg7 : w2.heap.size = g7 at HG0 ⊢
  obtain ⟨cs5, hcs5⟩ : ∃ cs5 : Array Value, cs5 = #[.int .i64 st, .string f.f0, .int .i64 f.f1, .int .i64 f.f2, .string f.f3, .string b, .slice As seen.length ks, .string wn, .slice Ai (roleOf out).1.length ki, .int .i64 (roleOf out).2.1, .slice Ak (roleOf out).2.2.length kk] := ⟨_, rfl⟩
  rw [← hcs5] at HG0
  have HCS := Lib.hid hcs5
  clear hcs5
  have HGD := Aside0.mk (show Good fl seen from by
    have h := HTD.out
    have h2 := HSEEN.out
    subst h2
    cases out with
    | found s f b => exact h.1
    | want s a => exact h.1
    | none s => exact h)
  have hs32 := HGD.out.few
  go_loopg [9, 33] fl.length (fun gg s9 s33 wr => ∃ (kx : Nat) (hs : List (List Value)), kx ≤ fl.length ∧ fl.length - kx ≤ gg ∧ s33 = .int .i64 kx ∧ Aside (G5 w2 (g7 + 1) g7 cs5 (fun _ => True) s9 hs wr) ∧ Aside (HsAre w2 hs (ofSeen seen (fl.take kx))))
  case atStart => exact ⟨0, [], Nat.zero_le _, by omega, rfl, HG0.out, (show Aside _ from by rw [List.take_zero, ofSeen_nil]; exact HsAre.nil w2)⟩
  case round =>
    obtain ⟨kx, hs, hkx, hg, rfl, GW, HA⟩ := hrel
    have hhl := HA.out.1
    have hofl := ofSeen_len seen (fl.take kx)
    have hfk := List.length_take_le kx fl
    by_cases hlt : kx < fl.length
    · have hltz : (kx : Int) < (fl.length : Int) := by omega
      obtain ⟨ad, a4, k4, a5, k5, a7, k7, a8, k8, rfl, c0, c1', c2, c3, c4, c5, c6, c7, c8, l4, q4, l5, q5, l7, q7, l8, q8⟩ := at_T48 HC2.out (kx : Int) (by omega) (by omega)
      have er : rd_T48 fl kx = fl.getD kx z48 := by unfold rd_T48; rw [Int.toNat_natCast]
      obtain ⟨x, hx⟩ : ∃ x, fl.getD kx z48 = x := ⟨_, rfl⟩
      rw [er, hx, Int.toNat_natCast] at c0 c1' c2 c3 c4 c5 c6 c7 c8
      rw [er, hx] at l4 q4 l5 q5 l7 q7 l8 q8
      have BW := Aside0.mk GW.out.hb
      replace c0 := (BW.out.cell (World.block_lt_of_cell? _ _ c0)).trans c0
      replace c1' := (BW.out.cell (World.block_lt_of_cell? _ _ c1')).trans c1'
      replace c2 := (BW.out.cell (World.block_lt_of_cell? _ _ c2)).trans c2
      replace c3 := (BW.out.cell (World.block_lt_of_cell? _ _ c3)).trans c3
      replace c4 := (BW.out.cell (World.block_lt_of_cell? _ _ c4)).trans c4
      replace c5 := (BW.out.cell (World.block_lt_of_cell? _ _ c5)).trans c5
      replace c6 := (BW.out.cell (World.block_lt_of_cell? _ _ c6)).trans c6
      replace c7 := (BW.out.cell (World.block_lt_of_cell? _ _ c7)).trans c7
      replace c8 := (BW.out.cell (World.block_lt_of_cell? _ _ c8)).trans c8
      have HXK := Aside0.mk (X.k48_mk w2 x l4 q4 l5 q5 l7 q7 l8 q8)
      have hxg : fl[kx] = x := by rw [← hx, List.getD_eq_getElem?_getD, List.getElem?_eq_getElem hlt]; rfl
      have HXG := Lib.hid hxg
      have hst := ofSeen_succ seen fl kx hlt
      rw [hxg] at hst
      have HST := Lib.hid hst
      have GA := Aside0.mk (GW.out.step (below_alloc (Below.refl wr.heap.size wr) (.cells #[.string x.f0, .int .i64 x.f1.f0, .int .i64 x.f1.f1, .int .i64 x.f1.f2, .slice a4 x.f1.f3.length k4, .slice a5 x.f1.f4.length k5, .string x.f1.f5, .slice a7 x.f1.f6.length k7, .slice a8 x.f1.f7.length k8] 48)))
      have hb11 := blk_new wr (.cells #[.string x.f0, .int .i64 x.f1.f0, .int .i64 x.f1.f1, .int .i64 x.f1.f2, .slice a4 x.f1.f3.length k4, .slice a5 x.f1.f4.length k5, .string x.f1.f5, .slice a7 x.f1.f6.length k7, .slice a8 x.f1.f7.length k8] 48)
      have G11 := Aside0.mk (show G5 w2 (g7 + 1) g7 cs5 (fun k => k ≠ wr.heap.size) u9 hs (wr.alloc (.cells #[.string x.f0, .int .i64 x.f1.f0, .int .i64 x.f1.f1, .int .i64 x.f1.f2, .slice a4 x.f1.f3.length k4, .slice a5 x.f1.f4.length k5, .string x.f1.f5, .slice a7 x.f1.f6.length k7, .slice a8 x.f1.f7.length k8] 48)) from
        ⟨GA.out.hb, GA.out.h7, GA.out.l7, GA.out.n7, GA.out.nB, Kd.R_mono (Kd.R_below (Kd.R_elderB GW.out.r wr.heap.size (Nat.le_refl _)) (below_alloc (Below.refl _ _) _)) (fun (k : Nat) (hk : True ∧ k ≠ wr.heap.size) => hk.2)⟩)
      have HB11 := Aside0.mk hb11
      have n6 := cell_of_block (HCS.out ▸ GA.out.h7 : (wr.alloc (.cells #[.string x.f0, .int .i64 x.f1.f0, .int .i64 x.f1.f1, .int .i64 x.f1.f2, .slice a4 x.f1.f3.length k4, .slice a5 x.f1.f4.length k5, .string x.f1.f5, .slice a7 x.f1.f6.length k7, .slice a8 x.f1.f7.length k8] 48)).heap[g7]? = some (.cells #[.int .i64 st, .string f.f0, .int .i64 f.f1, .int .i64 f.f2, .string f.f3, .string b, .slice As seen.length ks, .string wn, .slice Ai (roleOf out).1.length ki, .int .i64 (roleOf out).2.1, .slice Ak (roleOf out).2.2.length kk] 31 (0, 0))) 6 (.slice As seen.length ks) rfl
      clear hx er q4 q5 q7 q8 hxg hst hb11 GA
      go_wp2
      generalize hg11 : wr.heap.size = g11 at G11 HB11 ⊢
      go_loopg [9, 40] seen.length (fun gg s9 s40 wr => ∃ ky : Nat, ky ≤ seen.length ∧ seen.length - ky ≤ gg ∧ s40 = .int .i64 ky ∧ Aside (G5 w2 (g7 + 1) g7 cs5 (fun k => k ≠ g11) s9 (hs ++ (if wasSeen (seen.take ky) x.f0 = true then [[.string x.f0, .int .i64 x.f1.f0, .int .i64 x.f1.f1, .int .i64 x.f1.f2, .slice a4 x.f1.f3.length k4, .slice a5 x.f1.f4.length k5, .string x.f1.f5, .slice a7 x.f1.f6.length k7, .slice a8 x.f1.f7.length k8]] else [])) wr) ∧ Aside (wr.heap[g11]? = some (.cells #[.string x.f0, .int .i64 x.f1.f0, .int .i64 x.f1.f1, .int .i64 x.f1.f2, .slice a4 x.f1.f3.length k4, .slice a5 x.f1.f4.length k5, .string x.f1.f5, .slice a7 x.f1.f6.length k7, .slice a8 x.f1.f7.length k8] 48 (0, 0))))
      case atStart => exact ⟨0, Nat.zero_le _, by omega, rfl, (show Aside _ from by rw [List.take_zero, show wasSeen [] x.f0 = false from rfl, if_neg (by decide), List.append_nil]; exact G11.out), HB11.out⟩
      case round =>
        clear n6 c0 c1' c2 c3 c4 c5 c6 c7 c8 G11 HB11
        obtain ⟨ky, hky, hgy, rfl, GY, CY⟩ := hrel
        by_cases hlty : ky < seen.length
        · have hltyz : (ky : Int) < (seen.length : Int) := by omega
          have hk0 : (0 : Int) ≤ (ky : Int) := by omega
          obtain ⟨ad0, e0, q0⟩ := text_at HSC.out ky hlty
          subst e0
          replace q0 := (GY.out.hb.cell (World.block_lt_of_cell? _ _ q0)).trans q0
          have p0 := cell_of_block CY.out 0 (.string x.f0) rfl
          have p1 := cell_of_block CY.out 1 (.int .i64 x.f1.f0) rfl
          have p2 := cell_of_block CY.out 2 (.int .i64 x.f1.f1) rfl
          have p3 := cell_of_block CY.out 3 (.int .i64 x.f1.f2) rfl
          have p4 := cell_of_block CY.out 4 (.slice a4 x.f1.f3.length k4) rfl
          have p5 := cell_of_block CY.out 5 (.slice a5 x.f1.f4.length k5) rfl
          have p6 := cell_of_block CY.out 6 (.string x.f1.f5) rfl
          have p7 := cell_of_block CY.out 7 (.slice a7 x.f1.f6.length k7) rfl
          have p8 := cell_of_block CY.out 8 (.slice a8 x.f1.f7.length k8) rfl
          have hws := wasSeen_succ seen x.f0 ky hlty
          have HNS := Aside0.mk (fun e : seen[ky] = x.f0 => notSeen_take HGD.out.once hlty e)
          generalize seen[ky] = sy at q0 hws HNS
          have HWS2 := Lib.hid hws
          clear hws
          by_cases e : sy = x.f0
          · have hbe : (sy.toList == x.f0.toList) = true := by rw [e]; exact beq_self_eq_true _
            have hnw := HNS.out e
            have GY2 := Aside0.mk (show G5 w2 (g7 + 1) g7 cs5 (fun k => k ≠ g11) u9 hs wr from by
              have h := GY.out
              rw [hnw] at h
              simpa using h)
            have HBE := Lib.hid (show (x.f0.toList == sy.toList) = true from by rw [e]; exact beq_self_eq_true _)
            have hlt11 := blk_lt CY.out
            have HLH := Aside0.mk (show hs.length ≤ 34 from by omega)
            clear hnw e HNS
            go_wp2_with (first
              | ((with_reducible refine gate_builtin (b := .append) (xs := #[.tmp 48, .tmp 50]) rfl ?_); at_builtin; refine Kd.R_append (valK 9) (w0 := wr) (g7 + 1) rfl (.tmp 48) (.tmp 50) 22 48 (.agg #[.string ⟨#[]⟩, .int .i64 0, .int .i64 0, .int .i64 0, .slice none 0 0, .slice none 0 0, .string ⟨#[]⟩, .slice none 0 0, .slice none 0 0]) 152 rfl Tryz.underlying22 info48 rfl (by decide) (by decide) u9 hs [.string x.f0, .int .i64 x.f1.f0, .int .i64 x.f1.f1, .int .i64 x.f1.f2, .slice a4 x.f1.f3.length k4, .slice a5 x.f1.f4.length k5, .string x.f1.f5, .slice a7 x.f1.f6.length k7, .slice a8 x.f1.f7.length k8] [.string x.f0, .int .i64 x.f1.f0, .int .i64 x.f1.f1, .int .i64 x.f1.f2, .slice a4 x.f1.f3.length k4, .slice a5 x.f1.f4.length k5, .string x.f1.f5, .slice a7 x.f1.f6.length k7, .slice a8 x.f1.f7.length k8] (fun k => k ≠ g11) (fun _ => False) rfl rfl ⟨rfl, rfl, by simp [Value.oneCell']⟩ (fun _ hk => hk.elim) (fun k hk => by omega) GY2.out.r (Below.refl _ _) GY2.out.nB (by have := HLH.out; omega) ?_; intro v7 w7 r7 _ hg7 _; have G7 := Aside0.mk (GY2.out.app hg7 r7); have CB7 := Aside0.mk ((hg7.block _ hlt11 (fun e => GY2.out.r.1 g11 e.symm rfl)).trans CY.out); clear r7 hg7))
            go_roundg (seen.length - (ky + 1))
            case measure => omega
            case rel => exact ⟨ky + 1, by omega, by omega, by go_num, (show Aside _ from by rw [HWS2.out, HBE.out, Bool.or_true, if_pos rfl]; exact G7.out), CB7.out⟩
          · have hbe : (sy.toList == x.f0.toList) = false := beq_eq_false_iff_ne.2 (fun h => e (bytes_ext h))
            have HBE := Lib.hid (show (x.f0.toList == sy.toList) = false from beq_eq_false_iff_ne.2 (fun h => e (bytes_ext h).symm))
            clear e HNS
            go_wp2
            go_roundg (seen.length - (ky + 1))
            case measure => omega
            case rel => exact ⟨ky + 1, by omega, by omega, by go_num, (show Aside _ from by rw [HWS2.out, HBE.out, Bool.or_false]; exact GY.out), CY.out⟩
        · have hltyz : ¬ (ky : Int) < (seen.length : Int) := by omega
          have ek : seen.take ky = seen := List.take_of_length_le (by omega)
          go_wp2
          go_roundg (fl.length - (kx + 1))
          case measure => omega
          case rel =>
            refine ⟨kx + 1, hs ++ (if wasSeen seen x.f0 = true then [[.string x.f0, .int .i64 x.f1.f0, .int .i64 x.f1.f1, .int .i64 x.f1.f2, .slice a4 x.f1.f3.length k4, .slice a5 x.f1.f4.length k5, .string x.f1.f5, .slice a7 x.f1.f6.length k7, .slice a8 x.f1.f7.length k8]] else []), by omega, by omega, by go_num, (show Aside _ from by have h := GY.out; rw [ek] at h; exact h.okTo (fun _ _ => trivial)), (show Aside _ from ?_)⟩
            rw [HST.out]
            by_cases hx : wasSeen seen x.f0 = true
            · rw [if_pos hx, if_pos hx]; exact HA.out.snoc HXK.out
            · rw [if_neg hx, if_neg hx, List.append_nil, List.append_nil]; exact HA.out
    · have hltz : ¬ (kx : Int) < (fl.length : Int) := by omega
      have ek : fl.take kx = fl := List.take_of_length_le (by omega)
      rw [ek] at HA
      have hfs : hs.length = (ofSeen seen fl).length := by rw [HA.out.1]
      obtain ⟨A9, c9, e9, hl9, hC9⟩ := Kd.R_reads GW.out.r
      subst e9
      rw [hfs] at hC9 hl9 ⊢
      have HC9 := Aside0.mk (show Kd.C k48 wr A9 (ofSeen seen fl).length (ofSeen seen fl) from C_of_val (d := k48) hC9 hfs (fun j c x hj hx => k48.K_below GW.out.hb (HA.out.2 j c x hj hx)))
      clear hC9 hfs ek hhl hofl hfk HG0
      go_upto_region 17 with (first
        | (go_at_call 9; (with_reducible refine (HW.out (ofSeen seen fl) (HSO.out seen) _ _ _ hl9 HC9.out (HT.out.below (below_step HB2.out GW.out.hb))).mono ?_); rintro e w7 ⟨cs7, rfl, hwi7, hb7⟩; rw [HWS.out] at hwi7; obtain ⟨st7, f7, b7, As7, ks7, wn7, Ai7, ki7, Ak7, kk7, rfl, hOI7, hsk7, hsC7, hik7, hiC7, hkk7, hkC7⟩ := hwi7.openAll; obtain ⟨rfl, rfl, rfl, rfl⟩ := HOI.out.same hOI7; rw [HSEEN.out] at hsk7 hsC7 ⊢; have HSC7 := Aside0.mk hsC7; have HIC7 := Aside0.mk hiC7; have HKC7 := Aside0.mk hkC7; have G8 := Aside0.mk ((GW.out.step hb7).step (below_alloc (Below.refl _ _) (.cells #[.int .i64 st, .string f.f0, .int .i64 f.f1, .int .i64 f.f2, .string f.f3, .string b, .slice As7 seen.length ks7, .string wn, .slice Ai7 (roleOf out).1.length ki7, .int .i64 (roleOf out).2.1, .slice Ak7 (roleOf out).2.2.length kk7] 31))); have B78 := Aside0.mk (below_alloc (Below.refl w7.heap.size w7) (.cells #[.int .i64 st, .string f.f0, .int .i64 f.f1, .int .i64 f.f2, .string f.f3, .string b, .slice As7 seen.length ks7, .string wn, .slice Ai7 (roleOf out).1.length ki7, .int .i64 (roleOf out).2.1, .slice Ak7 (roleOf out).2.2.length kk7] 31)); have H14 := Aside0.mk (blk_new w7 (.cells #[.int .i64 st, .string f.f0, .int .i64 f.f1, .int .i64 f.f2, .string f.f3, .string b, .slice As7 seen.length ks7, .string wn, .slice Ai7 (roleOf out).1.length ki7, .int .i64 (roleOf out).2.1, .slice Ak7 (roleOf out).2.2.length kk7] 31)); have X7 := Aside0.mk (HCS.out ▸ G8.out.h7 : (w7.alloc (.cells #[.int .i64 st, .string f.f0, .int .i64 f.f1, .int .i64 f.f2, .string f.f3, .string b, .slice As7 seen.length ks7, .string wn, .slice Ai7 (roleOf out).1.length ki7, .int .i64 (roleOf out).2.1, .slice Ak7 (roleOf out).2.2.length kk7] 31)).heap[g7]? = some (.cells #[.int .i64 st, .string f.f0, .int .i64 f.f1, .int .i64 f.f2, .string f.f3, .string b, .slice As seen.length ks, .string wn, .slice Ai (roleOf out).1.length ki, .int .i64 (roleOf out).2.1, .slice Ak (roleOf out).2.2.length kk] 31 (0, 0))); clear hb7 hwi7 hOI7 hsC7 hiC7 hkC7))
      generalize w7.alloc _ = W8 at G8 B78 H14 X7 ⊢
      generalize w7.heap.size = g14 at H14 ⊢
      rcases out with ⟨s_, f_, b_⟩ | ⟨s_, p_⟩ | s_
      · obtain ⟨rfl, rfl, rfl, rfl⟩ := HOI.out
        clear HSEEN HWS HWM HTD HOI
        generalize (roleOf (.found s_ f b)).1 = rids at *
        generalize (roleOf (.found s_ f b)).2.1 = rnd at *
        generalize (roleOf (.found s_ f b)).2.2 = rkeys at *
        have a0 := cell_of_block X7.out 0 (.int .i64 1) rfl
        have a1 := cell_of_block X7.out 1 (.string f.f0) rfl
        have a2 := cell_of_block X7.out 2 (.int .i64 f.f1) rfl
        have a3 := cell_of_block X7.out 3 (.int .i64 f.f2) rfl
        have a4 := cell_of_block X7.out 4 (.string f.f3) rfl
        have a5 := cell_of_block X7.out 5 (.string b) rfl
        have a6 := cell_of_block X7.out 6 (.slice As seen.length ks) rfl
        have a7 := cell_of_block X7.out 7 (.string ⟨#[]⟩) rfl
        have a8 := cell_of_block X7.out 8 (.slice Ai rids.length ki) rfl
        have a9 := cell_of_block X7.out 9 (.int .i64 rnd) rfl
        have a10 := cell_of_block X7.out 10 (.slice Ak rkeys.length kk) rfl
        have b0 := cell_of_block H14.out 0 (.int .i64 1) rfl
        have b1 := cell_of_block H14.out 1 (.string f.f0) rfl
        have b2 := cell_of_block H14.out 2 (.int .i64 f.f1) rfl
        have b3 := cell_of_block H14.out 3 (.int .i64 f.f2) rfl
        have b4 := cell_of_block H14.out 4 (.string f.f3) rfl
        have b5 := cell_of_block H14.out 5 (.string b) rfl
        have b6 := cell_of_block H14.out 6 (.slice As7 seen.length ks7) rfl
        have b7 := cell_of_block H14.out 7 (.string ⟨#[]⟩) rfl
        have b8 := cell_of_block H14.out 8 (.slice Ai7 rids.length ki7) rfl
        have b9 := cell_of_block H14.out 9 (.int .i64 rnd) rfl
        have b10 := cell_of_block H14.out 10 (.slice Ak7 rkeys.length kk7) rfl
        go_wp2_with (first
          | (go_at_call 14; (with_reducible refine (Like_same 1 f b ⟨#[]⟩ rnd seen rids rkeys As As7 Ai Ai7 Ak Ak7 ks ks7 ki ki7 kk kk7 _ (Kd.C_below HSC.out G8.out.hb) hsk (Kd.C_below HSC7.out B78.out) hsk7 (Kd.C_below HIC.out G8.out.hb) hik (Kd.C_below HIC7.out B78.out) hik7 (Kd.C_below HKC.out G8.out.hb) hkk (Kd.C_below HKC7.out B78.out) hkk7).mono ?_); rintro e w9 ⟨rfl, hb9⟩; have G9 := Aside0.mk (G8.out.step hb9); have X9 := Aside0.mk ((hb9.block _ (blk_lt X7.out)).trans X7.out); have H149 := Aside0.mk ((hb9.block _ (blk_lt H14.out)).trans H14.out); have j0 := cell_of_block X9.out 0 (.int .i64 1) rfl; clear hb9)
          | (go_at_call 12; (with_reducible refine (HL.out _ (HT.out.below (below_step HB2.out G9.out.hb))).mono ?_); rintro e w10 ⟨rfl, hb10⟩; have G10 := Aside0.mk (G9.out.step hb10); have X10 := Aside0.mk ((hb10.block _ (blk_lt X9.out)).trans X9.out); have i0 := cell_of_block X10.out 0 (.int .i64 1) rfl;  clear hb10))
        go_ret
        exact ⟨rfl, below_step HB2.out G10.out.hb⟩
      · obtain ⟨rfl, rfl, rfl, rfl⟩ := HOI.out
        have HWM2 := Aside0.mk (fun (m2 : S46) (h2 : heldOk (ofSeen s_ fl ++ [⟨p_.nm, m2⟩]) = true) => HWM.out s_ p_ rfl m2 h2)
        have es : seen = s_ := HSEEN.out.symm
        subst es
        clear HSEEN HWS HWM HTD HOI HOUT
        generalize (roleOf (.want seen p_)).1 = rids at *
        generalize (roleOf (.want seen p_)).2.1 = rnd at *
        generalize (roleOf (.want seen p_)).2.2 = rkeys at *
        have a0 := cell_of_block X7.out 0 (.int .i64 3) rfl
        have a1 := cell_of_block X7.out 1 (.string z25.f0) rfl
        have a2 := cell_of_block X7.out 2 (.int .i64 z25.f1) rfl
        have a3 := cell_of_block X7.out 3 (.int .i64 z25.f2) rfl
        have a4 := cell_of_block X7.out 4 (.string z25.f3) rfl
        have a5 := cell_of_block X7.out 5 (.string ⟨#[]⟩) rfl
        have a6 := cell_of_block X7.out 6 (.slice As seen.length ks) rfl
        have a7 := cell_of_block X7.out 7 (.string p_.nm) rfl
        have a8 := cell_of_block X7.out 8 (.slice Ai rids.length ki) rfl
        have a9 := cell_of_block X7.out 9 (.int .i64 rnd) rfl
        have a10 := cell_of_block X7.out 10 (.slice Ak rkeys.length kk) rfl
        have b0 := cell_of_block H14.out 0 (.int .i64 3) rfl
        have b1 := cell_of_block H14.out 1 (.string z25.f0) rfl
        have b2 := cell_of_block H14.out 2 (.int .i64 z25.f1) rfl
        have b3 := cell_of_block H14.out 3 (.int .i64 z25.f2) rfl
        have b4 := cell_of_block H14.out 4 (.string z25.f3) rfl
        have b5 := cell_of_block H14.out 5 (.string ⟨#[]⟩) rfl
        have b6 := cell_of_block H14.out 6 (.slice As7 seen.length ks7) rfl
        have b7 := cell_of_block H14.out 7 (.string p_.nm) rfl
        have b8 := cell_of_block H14.out 8 (.slice Ai7 rids.length ki7) rfl
        have b9 := cell_of_block H14.out 9 (.int .i64 rnd) rfl
        have b10 := cell_of_block H14.out 10 (.slice Ak7 rkeys.length kk7) rfl
        go_upto_region 21 with (first
          | (go_at_call 14; (with_reducible refine (Like_same 3 z25 ⟨#[]⟩ p_.nm rnd seen rids rkeys As As7 Ai Ai7 Ak Ak7 ks ks7 ki ki7 kk kk7 _ (Kd.C_below HSC.out G8.out.hb) hsk (Kd.C_below HSC7.out B78.out) hsk7 (Kd.C_below HIC.out G8.out.hb) hik (Kd.C_below HIC7.out B78.out) hik7 (Kd.C_below HKC.out G8.out.hb) hkk (Kd.C_below HKC7.out B78.out) hkk7).mono ?_); rintro e w9 ⟨rfl, hb9⟩; have G9 := Aside0.mk (G8.out.step hb9); have X9 := Aside0.mk ((hb9.block _ (blk_lt X7.out)).trans X7.out); have j0 := cell_of_block X9.out 0 (.int .i64 3) rfl; clear hb9)
          | (go_at_call 12; (with_reducible refine (HL.out _ (HT.out.below (below_step HB2.out G9.out.hb))).mono ?_); rintro e w10 ⟨rfl, hb10⟩; have G10 := Aside0.mk (G9.out.step hb10); have X10 := Aside0.mk ((hb10.block _ (blk_lt X9.out)).trans X9.out); have i0 := cell_of_block X10.out 0 (.int .i64 3) rfl; clear hb10))
        have HM10 := Aside0.mk ((G10.out.hb.block _ (blk_lt HM2.out)).trans HM2.out)
        obtain ⟨A9', c9', e9, hl9', hC9'⟩ := Kd.R_reads G10.out.r
        injection e9 with e91 e92 e93
        subst e91; subst e93
        rw [HA.out.1] at hC9' hl9'
        have HC10 := Aside0.mk hC9'
        have HWAL := Aside0.mk (fun (l2 : List S48) (A1 : Option Addr) (c1 : Nat) (W : World) (h1 : l2.length ≤ c1) (hC : Kd.C k48 W A1 l2.length l2) (hT : Tabs W) => show Calls Tryz.prog 9 #[.string path, .slice A1 l2.length c1] W (WalkOut W path l2) from Walk_any path A1 c1 l2 W hT hC h1)
        have HHS := Aside0.mk HA.out
        have hf32 : (ofSeen seen fl).length ≤ 32 := Nat.le_trans (ofSeen_len seen fl) h32
        clear e92 hC9' HA
        generalize hfs : ofSeen seen fl = fs at HC10 HHS HWM2 hf32 hl9' ⊢
        go_cut [16, 17] (fun v16 v17 wx => Aside (∃ (g16 : Nat) (cs : Array Value) (en : Int), v16 = .pointer (some ⟨g16, 0, none⟩) ∧ v17 = .int .i64 en ∧ Below w10.heap.size w10 wx ∧ wx.heap[g16]? = some (.cells cs 31 (0, 0)) ∧ CFact path (fs ++ [⟨p_.nm, cutM m⟩]) wx cs en))
        case first =>
          refine law18 (by kernel_rfl) (J21 w2 w10.drew g7 path p_.nm m B3 B4 B6 B7 d3 d4 d6 d7 A9 c9 hs fs) rfl (of_range2 (by kernel_rfl)) (fun _ _ _ h => h.sz) ?_ ?_ (fun _ => J21.start)
          · intro listed xx W i o hj ho hn hd
            have hi : i < 18 := (Array.getElem?_eq_some_iff.1 ho).1
            have hn' : listed.getD i false = false := (getD_any (by rw [hj.sz]; exact hi)).symm.trans hn
            obtain rfl | rfl | rfl | rfl | rfl | rfl | rfl | rfl | rfl | rfl | rfl | rfl | rfl | rfl | rfl | rfl | rfl | rfl : i = 0 ∨ i = 1 ∨ i = 2 ∨ i = 3 ∨ i = 4 ∨ i = 5 ∨ i = 6 ∨ i = 7 ∨ i = 8 ∨ i = 9 ∨ i = 10 ∨ i = 11 ∨ i = 12 ∨ i = 13 ∨ i = 14 ∨ i = 15 ∨ i = 16 ∨ i = 17 := by omega
            · obtain rfl := Option.some.inj ho
              refine wpOp_of rfl rfl ?_
              refine step_value (.string path) (by go_simp) ?_
              exact ⟨_, rfl, hj.next 0 (by decide) (by decide) (Below.refl _ _) _ rfl (fun h => absurd h (by decide)) (fun h => absurd h (by decide))⟩
            · obtain rfl := Option.some.inj ho
              refine wpOp_of rfl rfl ?_
              refine step_valueW (w' := W.alloc (.cells #[] 48)) (.slice (some ⟨W.heap.size, 0, none⟩) 0 0) (by go_simp) ?_
              exact ⟨_, rfl, hj.next 1 (by decide) (by decide) (below_alloc (Below.refl _ _) _) _ (fun _ => ⟨W.heap.size, rfl, hj.hb.size, blk_new _ _⟩) (fun h => absurd h (by decide)) (fun h => absurd h (by decide))⟩
            · obtain rfl := Option.some.inj ho
              refine wpOp_of rfl rfl ?_
              refine step_value (.slice A9 fs.length c9) (by go_simp) ?_
              exact ⟨_, rfl, hj.next 2 (by decide) (by decide) (Below.refl _ _) _ rfl (fun h => absurd h (by decide)) (fun h => absurd h (by decide))⟩
            · obtain rfl := Option.some.inj ho
              obtain ⟨g, e1, hge, hx⟩ := hj.f 1 (by decide) (hd { on := 1, ground := .data } (by simp) rfl) hn'
              have e2 : xx 102 = .slice A9 fs.length c9 := hj.f 2 (by decide) (hd { on := 2, ground := .data } (by simp) rfl)
              have hCW := Kd.C_below HC10.out (below_step (below_drew (Below.refl _ _)) hj.hb : Below w10.heap.size w10 W)
              refine wpOp_of rfl rfl (wp_of_list (ops := #[]) rfl ?_)
              refine Kd.R_append_rows (valK 9) (Rr := (valK 9).K W) (w0 := w10.drew) w10.drew.heap.size rfl (.tmp 101) (.tmp 102) 22 48 _ 152 rfl Tryz.underlying22 info48 rfl (by decide) (by decide) (.slice (some ⟨g, 0, none⟩) 0 0) [] hs A9 fs.length c9 (fun _ => True) (fun _ => False) e1 e2 (R_none2 (valK 9) hx hge) hCW (fun z cs h => h) (fun _ hk => hk.elim) (fun _ _ => trivial) hj.hb hj.hb.size (by simp; omega) ?_
              intro v1 w1 r1 b1 hgr hob
              rw [List.nil_append] at r1
              exact ⟨_, rfl, hj.app3 hn' hx hge hgr r1⟩
            · obtain rfl := Option.some.inj ho
              refine wpOp_of rfl rfl ?_
              refine step_value (.pointer (some ⟨g7, 7, none⟩)) (by go_simp) ?_
              exact ⟨_, rfl, hj.next 4 (by decide) (by decide) (Below.refl _ _) _ rfl (fun h => absurd h (by decide)) (fun h => absurd h (by decide))⟩
            · obtain rfl := Option.some.inj ho
              have e4 : xx 104 = .pointer (some ⟨g7, 7, none⟩) := hj.f 4 (by decide) (hd { on := 4, ground := .data } (by simp) rfl)
              have hc := cell_of_block ((hj.hb.block _ (blk_lt X10.out)).trans X10.out) 7 (.string p_.nm) rfl
              refine wpOp_of rfl rfl ?_
              refine step_value (.string p_.nm) (by rw [e4]; go_simp) ?_
              exact ⟨_, rfl, hj.next 5 (by decide) (by decide) (Below.refl _ _) _ rfl (fun h => absurd h (by decide)) (fun h => absurd h (by decide))⟩
            · obtain rfl := Option.some.inj ho
              have hbk := (hj.hb.block _ (blk_lt HM10.out)).trans HM10.out
              have c0 := cell_of_block hbk 0 (.int .i64 m.f0) rfl
              have c1 := cell_of_block hbk 1 (.int .i64 m.f1) rfl
              have c2 := cell_of_block hbk 2 (.int .i64 m.f2) rfl
              have c3 := cell_of_block hbk 3 (.slice B3 m.f3.length d3) rfl
              have c4 := cell_of_block hbk 4 (.slice B4 m.f4.length d4) rfl
              have c5 := cell_of_block hbk 5 (.string m.f5) rfl
              have c6 := cell_of_block hbk 6 (.slice B6 m.f6.length d6) rfl
              have c7 := cell_of_block hbk 7 (.slice B7 m.f7.length d7) rfl
              refine wpOp_of rfl rfl ?_
              refine step_value (.agg (C46of m B3 B4 B6 B7 d3 d4 d6 d7)) (by unfold C46of; go_simp) ?_
              exact ⟨_, rfl, hj.next 6 (by decide) (by decide) (Below.refl _ _) _ rfl (fun h => absurd h (by decide)) (fun h => absurd h (by decide))⟩
            · obtain rfl := Option.some.inj ho
              have e5 : xx 105 = .string p_.nm := hj.f 5 (by decide) (hd { on := 5, ground := .data } (by simp) rfl)
              have e6 : xx 106 = .agg (C46of m B3 B4 B6 B7 d3 d4 d6 d7) := hj.f 6 (by decide) (hd { on := 6, ground := .data } (by simp) rfl)
              refine wpOp_of rfl rfl ?_
              refine step_value (.agg (C48of p_.nm m B3 B4 B6 B7 d3 d4 d6 d7)) (by rw [e5, e6]; unfold C46of C48of; go_simp) ?_
              exact ⟨_, rfl, hj.next 7 (by decide) (by decide) (Below.refl _ _) _ rfl (fun h => absurd h (by decide)) (fun h => absurd h (by decide))⟩
            · obtain rfl := Option.some.inj ho
              have e7 : xx 107 = .agg (C48of p_.nm m B3 B4 B6 B7 d3 d4 d6 d7) := hj.f 7 (by decide) (hd { on := 7, ground := .data } (by simp) rfl)
              refine wpOp_of rfl rfl ?_
              refine step_valueW (w' := W.alloc (.cells (C48of p_.nm m B3 B4 B6 B7 d3 d4 d6 d7) 48)) (.slice (some ⟨W.heap.size, 0, none⟩) 1 1) (by rw [e7]; unfold C48of; go_simp) ?_
              exact ⟨_, rfl, hj.next 8 (by decide) (by decide) (below_alloc (Below.refl _ _) _) _ (fun _ => ⟨W.heap.size, rfl, blk_new _ _⟩) (fun h => absurd h (by decide)) (fun h => absurd h (by decide))⟩
            · obtain rfl := Option.some.inj ho
              obtain ⟨g, e8, hx⟩ := hj.f 8 (by decide) (hd { on := 8, ground := .data } (by simp) rfl) hn'
              have l3 : listed.getD 3 false = true := hd { on := 3, ground := .chain } (by simp) rfl
              have e8' : xx 108 = .slice (some ⟨g, 0, none⟩) 1 1 := e8
              refine wpOp_of rfl rfl ?_
              refine step_call 8 #[.slice (some ⟨g, 0, none⟩) 1 1] (by rw [e8']; clear hx hj hd ho hn hn' HL HW HWAL HF HWM2; go_simp) (few_val1 w2 (some ⟨g, 0, none⟩) 1 p_.nm m (C48of p_.nm m B3 B4 B6 B7 d3 d4 d6 d7).toList W (C_one hx rfl (by simp [C48of, Value.oneCell'])) (k48.K_below HB2.out (HKN.out p_.nm)) (Nat.le_refl 1)) ?_
              rintro e w' ⟨A', c', hs', e0, h2, h3, h4, h5⟩
              refine ⟨_, e0, ?_⟩
              exact ⟨_, rfl, hj.next 9 (by decide) (by decide) h5 _ (fun _ => ⟨A', c', hs', rfl, h2, h3, h4⟩) (fun _ _ => l3) (fun h => absurd h (by decide))⟩
            · obtain rfl := Option.some.inj ho
              have l3 : listed.getD 3 false = true := hd { on := 3, ground := .data } (by simp) rfl
              have l9 : listed.getD 9 false = true := hd { on := 9, ground := .data } (by simp) rfl
              have r3 : (valK 9).R 48 W w10.drew.heap.size (fun _ => True) (xx 103) hs := hj.f 3 (by decide) l3 hn'
              obtain ⟨A', c', hs', e0, h2, h3, h4⟩ := hj.f 9 (by decide) l9 hn'
              have e9 : xx 109 = .slice A' 1 c' := e0
              refine wpOp_of rfl rfl (wp_of_list (ops := #[]) rfl ?_)
              refine Kd.R_append_rows (valK 9) (Rr := (valK 9).K W) (w0 := w10.drew) w10.drew.heap.size rfl (.tmp 103) (.tmp 109) 22 48 _ 152 rfl Tryz.underlying22 info48 rfl (by decide) (by decide) (xx 103) hs hs' A' 1 c' (fun _ => True) (fun _ => False) rfl e9 r3 h3 (fun z cs h => h) (fun _ hk => hk.elim) (fun _ _ => trivial) hj.hb hj.hb.size (by have := HHS.out.1; omega) ?_
              intro v1 w1 r1 b1 hgr hob
              obtain ⟨A1', c1', e1, hl1', hC1'⟩ := Kd.R_reads r1
              have hlen : (hs ++ hs').length = (fs ++ [(⟨p_.nm, cutM m⟩ : S48)]).length := (HHS.out.app1 h4).1
              rw [hlen] at e1 hl1' hC1'
              exact ⟨_, rfl, hj.app10 hn' l3 l9 hgr ⟨A1', c1', hs ++ hs', e1, hl1', hC1', HHS.out.app1 h4⟩⟩
            · obtain rfl := Option.some.inj ho
              have l10 : listed.getD 10 false = true := hd { on := 10, ground := .data } (by simp) rfl
              have e0 : xx 100 = .string path := hj.f 0 (by decide) (hd { on := 0, ground := .data } (by simp) rfl)
              obtain ⟨A', c', hs', e1, h2, h3, h4⟩ := hj.f 10 (by decide) l10 hn'
              have e10 : xx 110 = .slice A' (fs ++ [(⟨p_.nm, cutM m⟩ : S48)]).length c' := e1
              have hB2 := below_step G10.out.hb (below_step (below_drew (Below.refl _ _)) hj.hb)
              have hCk : Kd.C k48 W A' (fs ++ [(⟨p_.nm, cutM m⟩ : S48)]).length (fs ++ [(⟨p_.nm, cutM m⟩ : S48)]) := C_of_val (d := k48) h3 h4.1 (fun j c x hj hx => k48.K_below hB2 (h4.2 j c x hj hx))
              have hcall := HWAL.out (fs ++ [⟨p_.nm, cutM m⟩]) A' c' W h2 hCk (HT.out.below (below_step HB2.out hB2))
              generalize (fs ++ [(⟨p_.nm, cutM m⟩ : S48)]).length = nn at e10 hcall
              refine wpOp_of rfl rfl ?_
              refine step_call 9 #[.string path, .slice A' nn c'] (by rw [e0, e10]; clear h2 h3 h4 hB2 hj hd ho hn hn' HL HW HWAL HF HWM2 hcall hCk e0 e10 e1; go_simp) hcall ?_
              intro e w' hw
              obtain ⟨cs, en, ee, hc, hb⟩ := CFact.of_walk hw
              refine ⟨_, ee, ?_⟩
              exact ⟨_, rfl, hj.next 11 (by decide) (by decide) hb _ ⟨cs, en, rfl, hc⟩ (fun _ _ => hj.dA 10 (by decide) (by decide) (by decide) l10) (fun _ _ => l10)⟩
            · obtain rfl := Option.some.inj ho
              have l11 : listed.getD 11 false = true := hd { on := 11, ground := .data } (by simp) rfl
              obtain ⟨cs, en, e0, hc⟩ := hj.f 11 (by decide) l11
              have e1 : xx 111 = .tuple #[.agg cs, .int .i64 en] := e0
              refine wpOp_of rfl rfl ?_
              refine step_value (.tuple #[.agg cs, .int .i64 en]) (by rw [e1]; go_simp) ?_
              exact ⟨_, rfl, hj.next 12 (by decide) (by decide) (Below.refl _ _) _ ⟨cs, en, rfl, hc⟩ (fun _ _ => hj.dA 11 (by decide) (by decide) (by decide) l11) (fun _ _ => hj.dB 11 (by decide) (by decide) (by decide) l11)⟩
            · obtain rfl := Option.some.inj ho
              have l12 : listed.getD 12 false = true := hd { on := 12, ground := .data } (by simp) rfl
              obtain ⟨cs, en, e0, hc⟩ := hj.f 12 (by decide) l12
              have e1 : xx 99 = .tuple #[.agg cs, .int .i64 en] := e0
              refine wpOp_of rfl rfl ?_
              refine step_value (.agg cs) (by rw [e1]; go_simp) ?_
              exact ⟨_, rfl, hj.next 13 (by decide) (by decide) (Below.refl _ _) _ ⟨cs, en, rfl, hc⟩ (fun _ _ => hj.dA 12 (by decide) (by decide) (by decide) l12) (fun _ _ => hj.dB 12 (by decide) (by decide) (by decide) l12)⟩
            · obtain rfl := Option.some.inj ho
              have l12 : listed.getD 12 false = true := hd { on := 12, ground := .data } (by simp) rfl
              obtain ⟨cs, en, e0, hc⟩ := hj.f 12 (by decide) l12
              have e1 : xx 99 = .tuple #[.agg cs, .int .i64 en] := e0
              refine wpOp_of rfl rfl ?_
              refine step_value (.int .i64 en) (by rw [e1]; go_simp) ?_
              exact ⟨_, rfl, hj.next 14 (by decide) (by decide) (Below.refl _ _) _ ⟨cs, en, rfl, hc⟩ (fun _ _ => hj.dA 12 (by decide) (by decide) (by decide) l12) (fun _ _ => hj.dB 12 (by decide) (by decide) (by decide) l12)⟩
            · obtain rfl := Option.some.inj ho
              refine wpOp_of rfl rfl ?_
              refine step_valueW (w' := W.alloc (.cells noCells 31)) (.pointer (some ⟨W.heap.size, 0, none⟩)) (by unfold noCells; go_simp) ?_
              have n16 : listed.getD 16 false = false := by
                  cases e : listed.getD 16 false with
                  | false => rfl
                  | true =>
                    have h15 : listed.getD 15 false = true := hj.f 16 (by decide) e
                    rw [hn'] at h15
                    exact absurd h15 (by decide)
              exact ⟨_, rfl, hj.next 15 (by decide) (by decide) (below_alloc (Below.refl _ _) _) _ ⟨W.heap.size, rfl, hj.hb.size, fun _ => blk_new _ _, fun e => absurd ((getD_set_ne false (by decide)).symm.trans e) (by rw [n16]; decide)⟩ (fun _ h => absurd rfl h) (fun _ h => absurd rfl h)⟩
            · obtain rfl := Option.some.inj ho
              have hall : ∀ j, j < 16 → j ≠ 14 → listed.getD j false = true := fun j h1 h2 => by
                  obtain rfl | rfl | rfl | rfl | rfl | rfl | rfl | rfl | rfl | rfl | rfl | rfl | rfl | rfl | rfl : j = 0 ∨ j = 1 ∨ j = 2 ∨ j = 3 ∨ j = 4 ∨ j = 5 ∨ j = 6 ∨ j = 7 ∨ j = 8 ∨ j = 9 ∨ j = 10 ∨ j = 11 ∨ j = 12 ∨ j = 13 ∨ j = 15 := by omega
                  · exact hd { on := 0, ground := .phase } (by simp) rfl
                  · exact hd { on := 1, ground := .phase } (by simp) rfl
                  · exact hd { on := 2, ground := .phase } (by simp) rfl
                  · exact hd { on := 3, ground := .phase } (by simp) rfl
                  · exact hd { on := 4, ground := .phase } (by simp) rfl
                  · exact hd { on := 5, ground := .phase } (by simp) rfl
                  · exact hd { on := 6, ground := .phase } (by simp) rfl
                  · exact hd { on := 7, ground := .phase } (by simp) rfl
                  · exact hd { on := 8, ground := .phase } (by simp) rfl
                  · exact hd { on := 9, ground := .phase } (by simp) rfl
                  · exact hd { on := 10, ground := .phase } (by simp) rfl
                  · exact hd { on := 11, ground := .phase } (by simp) rfl
                  · exact hd { on := 12, ground := .phase } (by simp) rfl
                  · exact hd { on := 13, ground := .phase } (by simp) rfl
                  · exact hd { on := 15, ground := .phase } (by simp) rfl
              obtain ⟨g, e0, hge, hz, _⟩ := hj.f 15 (by decide) (hall 15 (by decide) (by decide))
              have e15 : xx 16 = .pointer (some ⟨g, 0, none⟩) := e0
              obtain ⟨cs, en, e1, hc⟩ := hj.f 13 (by decide) (hall 13 (by decide) (by decide))
              have e13 : xx 112 = .agg cs := e1
              refine wpOp_of rfl rfl ?_
              refine wp_store_row 31 (.tmp 16) (.tmp 112) rfl g cs e15 e13 31 noCells (hz hn') (by rw [hc.size.1]; exact info31) (by rw [hc.size.1]; rfl) hc.size.2 ?_
              exact ⟨xx, rfl, hj.store16 hn' hall e15 hc⟩
            · obtain rfl := Option.some.inj ho
              have l14 : listed.getD 14 false = true := hd { on := 14, ground := .data } (by simp) rfl
              obtain ⟨cs, en, e0, hc⟩ := hj.f 14 (by decide) l14
              have e1 : xx 113 = .int .i64 en := e0
              refine wpOp_of rfl rfl ?_
              refine step_value (.int .i64 en) (by rw [e1]; go_simp) ?_
              exact ⟨_, rfl, hj.next 17 (by decide) (by decide) (Below.refl _ _) _ ⟨cs, en, rfl, hc⟩ (fun _ _ => hj.dA 14 (by decide) (by decide) (by decide) l14) (fun _ _ => hj.dB 14 (by decide) (by decide) (by decide) l14)⟩
          · intro listed xx W hj hall
            have q : ∀ j, j < 18 → listed.getD j false = true := fun j h => (getD_any (by rw [hj.sz]; exact h)).symm.trans (hall j h)
            obtain ⟨g16, e15, hge, _, h4⟩ := hj.f 15 (by decide) (q 15 (by decide))
            obtain ⟨cs, en, hbk, hc⟩ := h4 (q 16 (by decide))
            obtain ⟨cs2, en2, e17, hc2⟩ := hj.f 17 (by decide) (q 17 (by decide))
            have eq := hc2.same hc
            subst eq
            have hpost : ∃ (g16 : Nat) (cs : Array Value) (en : Int), xx 16 = .pointer (some ⟨g16, 0, none⟩) ∧ xx 17 = .int .i64 en ∧ Below w10.heap.size w10 W ∧ W.heap[g16]? = some (.cells cs 31 (0, 0)) ∧ CFact path (fs ++ [⟨p_.nm, cutM m⟩]) W cs en := ⟨g16, cs, en2, e15, e17, below_step (below_drew (Below.refl _ _)) hj.hb, hbk, hc⟩
            clear hj hall q hc hc2
            go_wp2_with fail
            go_meet
            exact hpost
        case rest =>
          obtain ⟨g16, cs, en, rfl, rfl, hB, hbk, hc⟩ := hcut
          obtain ⟨wD, hwD⟩ : ∃ wD, wD = wc := ⟨_, rfl⟩
          subst hwD
          have BX := Aside0.mk (below_step G10.out.hb hB)
          have X11 := Aside0.mk ((hB.block _ (blk_lt X10.out)).trans X10.out)
          have C11 := Aside0.mk hbk
          clear hB hbk
          rcases hc with ⟨hno, rfl, rfl⟩ | ⟨hyes, rfl, st3, f3, b3, As3, k3, wn3, Ai3, ni3, ki3, nd3, Ak3, nk3, kk3, rfl, hk3, hC3⟩
          · clear hno
            go_wp2
            go_ret
            exact ⟨rfl, below_step HB2.out BX.out⟩
          · have hh : heldOk (fs ++ [⟨p_.nm, cutM m⟩]) = true := by
              have h := hyes
              unfold okW at h
              rw [Bool.and_eq_true] at h
              exact h.2
            obtain ⟨t, ht⟩ := HWM2.out (cutM m) hh
            rw [ht] at hk3 hC3 C11
            obtain ⟨L, hL⟩ : ∃ L, seen ++ p_.nm :: t = L := ⟨_, rfl⟩
            have hLl : seen.length < L.length := by rw [← hL, List.length_append, List.length_cons]; omega
            have hLe : L[seen.length] = p_.nm := by subst hL; simp
            have HLI := Aside0.mk (show ∀ (i : Nat) (h : i < seen.length), L[i]'(Nat.lt_trans h hLl) = seen[i] from fun i h => by subst hL; exact List.getElem_append_left h)
            rw [hL] at hk3 hC3 C11
            have HC3 := Aside0.mk hC3
            clear hh hyes hL ht hC3
            obtain ⟨ad3, e3, q3⟩ := text_at HC3.out seen.length hLl
            subst e3
            rw [hLe] at q3
            have q6 := cell_of_block C11.out 6 (.slice (some ad3) L.length k3) rfl
            have x6 := cell_of_block X11.out 6 (.slice As seen.length ks) rfl
            have x7 := cell_of_block X11.out 7 (.string p_.nm) rfl
            have hz1 : ¬ (L.length : Int) ≤ (seen.length : Int) := by omega
            have hz2 : (seen.length : Int) < (L.length : Int) := by omega
            have hz3 : (0 : Int) ≤ (seen.length : Int) := by omega
            clear hLe
            go_upto_region 24 with (fail)
            go_cut [136] (fun v wx => v = .bool false ∧ Aside (Below wD.heap.size wD wx))
            case first =>
              go_region_held3 (fun W_ => W_.cell? ⟨g16, 6, none⟩ = some (.slice (some ad3) L.length k3) ∧ W_.cell? ⟨g7, 6, none⟩ = some (.slice As seen.length ks) ∧ W_.cell? ⟨g7, 7, none⟩ = some (.string p_.nm) ∧ W_.cell? (ad3.add seen.length) = some (.string p_.nm)) (go_keep) (fail)
              all_goals (go_wp2_with fail; go_meet)
              all_goals exact ⟨rfl, below_drew (Below.refl _ _)⟩
            case rest =>
              obtain ⟨rfl, B12⟩ := hcut
              go_upto_region 26 with (fail)
              have x6' := (B12.cell (World.block_lt_of_cell? _ _ x6)).trans x6
              clear x6 x7 q3 q6
              go_wp2
              go_loopg [140] seen.length (fun gg s140 wr => ∃ kz : Nat, kz ≤ seen.length ∧ seen.length - kz ≤ gg ∧ s140 = .int .i64 kz ∧ Aside (Below wD.heap.size wD wr))
              case atStart => exact ⟨0, Nat.zero_le _, by omega, rfl, B12⟩
              case round =>
                clear x6'
                obtain ⟨kz, hkz, hgz, rfl, BZ⟩ := hrel
                by_cases hlz : kz < seen.length
                · have hltz2 : (kz : Int) < (seen.length : Int) := by omega
                  have hltz3 : (kz : Int) < (L.length : Int) := by omega
                  have hk0 : (0 : Int) ≤ (kz : Int) := by omega
                  obtain ⟨ad0, e0, q0⟩ := text_at HSC.out kz hlz
                  obtain ⟨ad1, e1, q1⟩ := text_at HC3.out kz (Nat.lt_trans hlz hLl)
                  rw [HLI.out kz hlz] at q1
                  injection e1 with e1
                  subst e0
                  subst e1
                  replace q0 := (BX.out.cell (World.block_lt_of_cell? _ _ q0)).trans q0
                  replace q0 := (BZ.cell (World.block_lt_of_cell? _ _ q0)).trans q0
                  replace q1 := (BZ.cell (World.block_lt_of_cell? _ _ q1)).trans q1
                  have y6 := cell_of_block ((BZ.block _ (blk_lt C11.out)).trans C11.out) 6 (.slice (some ad3) L.length k3) rfl
                  generalize seen[kz] = sx at q0 q1
                  go_wp2
                  go_roundg (seen.length - (kz + 1))
                  case measure => omega
                  case rel => exact ⟨kz + 1, by omega, by omega, by go_num, BZ⟩
                · have hltz2 : ¬ (kz : Int) < (seen.length : Int) := by omega
                  go_wp2
                  go_ret
                  exact ⟨rfl, below_step HB2.out (below_step BX.out BZ)⟩
      · obtain ⟨rfl, rfl, rfl, rfl⟩ := HOI.out
        clear HSEEN HWS HWM HTD HOI
        have a0 := cell_of_block X7.out 0 (.int .i64 2) rfl
        have a6 := cell_of_block X7.out 6 (.slice As seen.length ks) rfl
        have b0 := cell_of_block H14.out 0 (.int .i64 2) rfl
        have b6 := cell_of_block H14.out 6 (.slice As7 seen.length ks7) rfl
        go_wp2_with (first
          | (go_at_call 12; (with_reducible refine (HL.out _ (HT.out.below (below_step HB2.out G8.out.hb))).mono ?_); rintro e w10 ⟨rfl, hb10⟩; have G10 := Aside0.mk (G8.out.step hb10); have X10 := Aside0.mk ((hb10.block _ (blk_lt X7.out)).trans X7.out); have i0 := cell_of_block X10.out 0 (.int .i64 2) rfl;  clear hb10))
        go_ret
        exact ⟨rfl, below_step HB2.out G10.out.hb⟩
end Go.Proofs.YtgcflmhlegagbaaGreatDoor.E
end
section
namespace Go.Proofs.YtgcflmhlegagbaaGreatDoor.E
open Go.RowKit Go.Lib Go.Proofs.YtgcflmhlegagbaaGreatDoorW.PrintWords
theorem goes_laid {w : World} (hL : laidMetH Tryz.prog Rows.delegGoesRow.laid w) (path : ByteArray) (_ : path.size ≤ 140737488351232) (A : Option Addr) (c : Nat) (l : List X.S48) (hA : Kd.C X.k48 w A l.length l) (hlc : l.length ≤ c) (cs : Array Value) (m : X.S46) (hm : X.k46.K w m cs.toList) :
    Calls Tryz.prog 5 #[.string path, .slice A l.length c, .agg cs] w fun e w' => e = .returned (.bool true) ∧ Below w.heap.size w w' := by
  have ht := tabs_of (l := Rows.delegGoesRow.laid) hL (by simp [Rows.delegGoesRow]) (by simp [Rows.delegGoesRow]) (by simp [Rows.delegGoesRow])
  obtain ⟨B3, d3, B4, d4, B6, d6, B7, d7, e, hl3, hC3, hl4, hC4, hl6, hC6, hl7, hC7⟩ := X.k46_open hm
  have ec : cs = #[.int .i64 m.f0, .int .i64 m.f1, .int .i64 m.f2, .slice B3 m.f3.length d3, .slice B4 m.f4.length d4, .string m.f5, .slice B6 m.f6.length d6, .slice B7 m.f7.length d7] := Array.toList_inj.1 e
  subst ec
  cases hok : okW path (fewS l) with
  | false => exact Goes_not path A c l m B3 B4 B6 B7 d3 d4 d6 d7 w ht hA hlc hok
  | true => exact Goes_ok path A c l m B3 B4 B6 B7 d3 d4 d6 d7 w ht hA hlc hok hl3 hC3 hl4 hC4 hl6 hC6 hl7 hC7
end Go.Proofs.YtgcflmhlegagbaaGreatDoor.E
end
