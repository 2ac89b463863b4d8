/- The law DelegLast, walked. -/
import Derived.Test.YtgcflmhlegagbaaGreatDoorQ9
import Derived.Test.YtgcflmhlegagbaaGreatDoorQa
section
set_option linter.unusedVariables false
set_option linter.unusedSimpArgs false
namespace Go.Proofs.YtgcflmhlegagbaaGreatDoor.E
open Go.RowKit Go.Lib Go.Shelf Go.Proofs.YtgcflmhlegagbaaGreatDoorW.PrintWords Go.Proofs.YtgcflmhlegagbaaGreatDoorW.PrintLast Go.Proofs.YtgcflmhlegagbaaGreatDoorW.PrintMore
open X (S25 k25 z25 S28 k28 S53 k53 S70 k70 S46 k46 S48 k48 z48)
/-- A row whose block is known, by its cells. -/
theorem C_of_cells {α : Type} {d : Kd α} {W : World} {g : Nat} {cs : List Value} {t : TypeId} {xs : List α} (h : W.heap[g]? = some (.cells cs.toArray t (0, 0))) (hr : Reps (d.K W) d.sz xs cs) (hl : xs.length ≤ 9223372036854775807) : d.C W (some ⟨g, 0, none⟩) xs.length xs := by
  refine ⟨rfl, hl, fun _ => ⟨⟨g, 0, none⟩, rfl, fun j p hj => ?_⟩⟩
  have hK := hr.2 j p hj
  have hlt := (List.getElem?_eq_some_iff.1 hj).1
  have hlen : j * d.sz + d.sz ≤ cs.length := by rw [hr.1, ← Nat.succ_mul]; exact Nat.mul_le_mul_right _ hlt
  refine ⟨(cs.drop (j * d.sz)).take d.sz, by rw [List.length_take, List.length_drop]; omega, hK, fun i u hu => ?_⟩
  have hi : i < d.sz := by
    have := (List.getElem?_eq_some_iff.1 hu).1
    rw [List.length_take] at this
    omega
  rw [List.getElem?_take_of_lt hi, List.getElem?_drop] at hu
  have e : (Addr.mk g 0 none).add (j * d.sz + i) = ⟨g, j * d.sz + i, none⟩ := by
    unfold Addr.add
    by_cases h0 : j * d.sz + i = 0
    · rw [if_pos h0, h0]
    · rw [if_neg h0]; simp
  rw [e]
  exact cell_of_block h _ u (by simpa using hu)
theorem reps_cons {α : Type} {R : α → List Value → Prop} {n : Nat} {x : α} {t : List α} {c cs : List Value} (hc : c.length = n) (hx : R x c) (h : Reps R n t cs) : Reps R n (x :: t) (c ++ cs) := by
  have := Kd.reps_append (ps := [x]) (cs := c) (Reps.snoc (Reps.none R n) hx hc) h
  simpa using this
def s3 (a : UInt8) (b : UInt8) (c : UInt8) : ByteArray := ⟨#[a, b, c]⟩
def nOne : ByteArray := ⟨#[111, 110, 101]⟩
def nTwo : ByteArray := ⟨#[116, 119, 111]⟩
def nThree : ByteArray := ⟨#[116, 104, 114, 101, 101]⟩
def pA : ByteArray := ⟨#[97]⟩
def pStar : ByteArray := ⟨#[42]⟩
def pAny : ByteArray := ⟨#[63]⟩
def dgs (r : S28) (f l : Bool) : List S53 := [⟨nOne, r, [pA], f⟩, ⟨nTwo, r, [pStar], l⟩, ⟨nThree, r, [pAny], false⟩]
def topM (r : S28) (f l : Bool) : S46 := ⟨4, 1, 0, [], [], ⟨#[]⟩, [], dgs r f l⟩
def noneM : S46 := ⟨4, 1, 0, [], [], ⟨#[]⟩, [], []⟩
def heldL (r : S28) (f l : Bool) : List S48 := [⟨TARGETS, topM r f l⟩, ⟨nOne, noneM⟩, ⟨nTwo, noneM⟩, ⟨nThree, noneM⟩]
theorem pm_a : G.pm [97] [97] = true := by rw [G.pm_one_cons _ _ _ _ (by decide), G.pm_nil]; decide
theorem pm_star : G.pm [42] [97] = true := by rw [G.pm_star_cons, G.pm_star_nil, G.pm_nil, G.pm_nil]; decide
theorem pm_any : G.pm [63] [97] = true := by rw [G.pm_one_cons _ _ _ _ (by decide), G.pm_nil]; decide
theorem fits_one (c : UInt8) (n : ByteArray) (r : S28) (f : Bool) (hc : G.right true [c] = true) (hs : G.split [c] = [[c]]) (hp : G.pm [c] [97] = true) : fitsB pA ⟨n, r, [⟨#[c]⟩], f⟩ = true := by
  have hm : G.mt [c] [97] = true := by
    unfold G.mt
    rw [hs, show G.split [97] = [[97]] from by kernel_rfl]
    simp [hp]
  show ((G.which [[c]] [97]).2 == 0) = true
  unfold G.which
  rw [if_pos ⟨by kernel_rfl, by simp [hc]⟩]
  have e : [[c]].findIdx? (fun p => G.mt p [97]) = some 0 := by simp [List.findIdx?_cons, hm]
  rw [e]
  rfl
theorem fits1 (r : S28) (f : Bool) : fitsB pA ⟨nOne, r, [pA], f⟩ = true := fits_one 97 nOne r f (by kernel_rfl) (by kernel_rfl) pm_a
theorem fits2 (r : S28) (f : Bool) : fitsB pA ⟨nTwo, r, [pStar], f⟩ = true := fits_one 42 nTwo r f (by kernel_rfl) (by kernel_rfl) pm_star
theorem fits3 (r : S28) (f : Bool) : fitsB pA ⟨nThree, r, [pAny], f⟩ = true := fits_one 63 nThree r f (by kernel_rfl) (by kernel_rfl) pm_any
theorem asks_dgs (r : S28) (f l : Bool) : asksS pA (dgs r f l) = if f then ([⟨nOne, r, [pA], f⟩], true) else if l then ([⟨nOne, r, [pA], f⟩, ⟨nTwo, r, [pStar], l⟩], true) else (dgs r f l, false) := by
  unfold dgs
  rw [asksS, if_pos (fits1 r f), asksS, if_pos (fits2 r l), asksS, if_pos (fits3 r false), asksS]
  cases f <;> cases l <;> rfl
/-- These may be just if the role may. -/
theorem delegs_dgs (r : S28) (f l : Bool) : delegsOk (dgs r f l) = roleOk r.f0 r.f1 := by
  have h0 : ∀ (ids : List ByteArray) (need : Int), dgB (dgs r f l) 0 nOne ids need [pA] = roleOk ids need := fun ids need => by
    unfold dgB
    rw [show Nm.nameOk nOne.data.toList = true from by kernel_rfl, show (wordsL.any fun y => nOne.toList == y.toList) = false from by kernel_rfl, show ((dgs r f l).take 0).any (fun x => x.f0.toList == nOne.toList) = false from rfl, show ([pA].any fun p => !G.right true p.data.toList) = false from by kernel_rfl]
    cases roleOk ids need <;> rfl
  have h1 : ∀ (ids : List ByteArray) (need : Int), dgB (dgs r f l) 1 nTwo ids need [pStar] = roleOk ids need := fun ids need => by
    unfold dgB
    rw [show Nm.nameOk nTwo.data.toList = true from by kernel_rfl, show (wordsL.any fun y => nTwo.toList == y.toList) = false from by kernel_rfl, show ((dgs r f l).take 1).any (fun x => x.f0.toList == nTwo.toList) = ((nOne.toList == nTwo.toList) || false) from rfl, show (nOne.toList == nTwo.toList) = false from by kernel_rfl, show ([pStar].any fun p => !G.right true p.data.toList) = false from by kernel_rfl]
    cases roleOk ids need <;> rfl
  have h2 : ∀ (ids : List ByteArray) (need : Int), dgB (dgs r f l) 2 nThree ids need [pAny] = roleOk ids need := fun ids need => by
    unfold dgB
    rw [show Nm.nameOk nThree.data.toList = true from by kernel_rfl, show (wordsL.any fun y => nThree.toList == y.toList) = false from by kernel_rfl, show ((dgs r f l).take 2).any (fun x => x.f0.toList == nThree.toList) = ((nOne.toList == nThree.toList) || ((nTwo.toList == nThree.toList) || false)) from rfl, show (nOne.toList == nThree.toList) = false from by kernel_rfl, show (nTwo.toList == nThree.toList) = false from by kernel_rfl, show ([pAny].any fun p => !G.right true p.data.toList) = false from by kernel_rfl]
    cases roleOk ids need <;> rfl
  have e : allK (dgP (dgs r f l)) X.z53 (dgs r f l) = (dgB (dgs r f l) 0 nOne r.f0 r.f1 [pA] && (dgB (dgs r f l) 1 nTwo r.f0 r.f1 [pStar] && (dgB (dgs r f l) 2 nThree r.f0 r.f1 [pAny] && true))) := rfl
  unfold delegsOk
  rw [e, h0, h1, h2, show (dgs r f l).length = 3 from rfl]
  cases roleOk r.f0 r.f1 <;> rfl
theorem meta_top (r : S28) (f l : Bool) : metaR ⟨TARGETS, topM r f l⟩ = roleOk r.f0 r.f1 := by
  have e : metaR ⟨TARGETS, topM r f l⟩ = (((decide ((1 : Int) ≤ 1) && decide ((1 : Int) ≤ 1000000) && decide ((0 : Int) ≤ 0) && decide ((0 : Int) ≤ 1099511627776)) && (decide (0 = 0) && ((⟨#[]⟩ : ByteArray).toList == [])) && filesOk [] && keysOk []) && delegsOk (dgs r f l)) := rfl
  rw [e, delegs_dgs, show ((decide ((1 : Int) ≤ 1) && decide ((1 : Int) ≤ 1000000) && decide ((0 : Int) ≤ 0) && decide ((0 : Int) ≤ 1099511627776)) && (decide (0 = 0) && ((⟨#[]⟩ : ByteArray).toList == [])) && filesOk [] && keysOk []) = true from by kernel_rfl]
  rfl
theorem meta_none (n : ByteArray) : metaR ⟨n, noneM⟩ = true := by
  show metaOk 1 0 0 ⟨#[]⟩ [] [] [] = true
  kernel_rfl
theorem held_top1 (r : S28) (f l : Bool) : heldOk [⟨TARGETS, topM r f l⟩] = roleOk r.f0 r.f1 := by
  have e : heldOk [⟨TARGETS, topM r f l⟩] = (decide (1 ≤ 32) && ((Nm.nameOk TARGETS.data.toList && ((4 : Int) == 4) && metaR ⟨TARGETS, topM r f l⟩ && !false) && true)) := rfl
  rw [e, meta_top, show Nm.nameOk TARGETS.data.toList = true from by kernel_rfl]
  cases roleOk r.f0 r.f1 <;> rfl
theorem held_top (r : S28) (f l : Bool) : heldOk (heldL r f l) = roleOk r.f0 r.f1 := by
  have e : heldOk (heldL r f l) = (decide (4 ≤ 32) && ((Nm.nameOk TARGETS.data.toList && ((4 : Int) == 4) && metaR ⟨TARGETS, topM r f l⟩ && !false) && ((Nm.nameOk nOne.data.toList && ((4 : Int) == 4) && metaR ⟨nOne, noneM⟩ && !((TARGETS.toList == nOne.toList) || false)) &&
    ((Nm.nameOk nTwo.data.toList && ((4 : Int) == 4) && metaR ⟨nTwo, noneM⟩ && !((TARGETS.toList == nTwo.toList) || ((nOne.toList == nTwo.toList) || false))) &&
    ((Nm.nameOk nThree.data.toList && ((4 : Int) == 4) && metaR ⟨nThree, noneM⟩ && !((TARGETS.toList == nThree.toList) || ((nOne.toList == nThree.toList) || ((nTwo.toList == nThree.toList) || false)))) && true))))) := rfl
  rw [e, meta_top, meta_none, meta_none, meta_none, show Nm.nameOk TARGETS.data.toList = true from by kernel_rfl, show Nm.nameOk nOne.data.toList = true from by kernel_rfl, show Nm.nameOk nTwo.data.toList = true from by kernel_rfl, show Nm.nameOk nThree.data.toList = true from by kernel_rfl,
    show (TARGETS.toList == nOne.toList) = false from by kernel_rfl, show (TARGETS.toList == nTwo.toList) = false from by kernel_rfl, show (nOne.toList == nTwo.toList) = false from by kernel_rfl, show (TARGETS.toList == nThree.toList) = false from by kernel_rfl, show (nOne.toList == nThree.toList) = false from by kernel_rfl, show (nTwo.toList == nThree.toList) = false from by kernel_rfl]
  cases roleOk r.f0 r.f1 <;> rfl
theorem idx_nil (s : ByteArray) : ¬ 0 ≤ fileIdx s [] := by
  have e : fileIdx s [] = -1 := rfl
  rw [e]; decide
theorem by_t (r : S28) (f l : Bool) : heldBy (heldL r f l) TARGETS = some ⟨TARGETS, topM r f l⟩ := by kernel_rfl
theorem by_1 (r : S28) (f l : Bool) : heldBy (heldL r f l) nOne = some ⟨nOne, noneM⟩ := by kernel_rfl
theorem by_2 (r : S28) (f l : Bool) : heldBy (heldL r f l) nTwo = some ⟨nTwo, noneM⟩ := by kernel_rfl
theorem by_3 (r : S28) (f l : Bool) : heldBy (heldL r f l) nThree = some ⟨nThree, noneM⟩ := by kernel_rfl
theorem on_none (n : ByteArray) (t : List PAsk) : goOn pA ⟨n, noneM⟩ t = t := rfl
def seenL (f l : Bool) : List ByteArray := if f then [TARGETS, nOne] else if l then [TARGETS, nOne, nTwo] else [TARGETS, nOne, nTwo, nThree]
theorem walk_held (r : S28) (f l : Bool) : walkS pA (heldL r f l) [first] [] = .none (seenL f l) := by
  rw [walkS_on pA _ first [] [] _ (by decide) (by decide) (by_t r f l) (idx_nil _)]
  have hg : goOn pA ⟨TARGETS, topM r f l⟩ [] = (if f then [⟨nOne, r, []⟩] else if l then [⟨nOne, r, []⟩, ⟨nTwo, r, []⟩] else [⟨nOne, r, []⟩, ⟨nTwo, r, []⟩, ⟨nThree, r, []⟩] : List PAsk) := by
    rw [goOn_eq (ds := (asksS pA (dgs r f l)).1) (last := (asksS pA (dgs r f l)).2) rfl, asks_dgs]
    cases f <;> cases l <;> rfl
  rw [hg]
  have w1 : wasSeen ([] ++ [first.nm]) nOne = false := by kernel_rfl
  have w2 : wasSeen ([] ++ [first.nm] ++ [nOne]) nTwo = false := by kernel_rfl
  have w3 : wasSeen ([] ++ [first.nm] ++ [nOne] ++ [nTwo]) nThree = false := by kernel_rfl
  cases f
  · cases l
    · show walkS pA _ [⟨nOne, r, []⟩, ⟨nTwo, r, []⟩, ⟨nThree, r, []⟩] _ = _
      rw [walkS_on pA _ ⟨nOne, r, []⟩ _ _ _ (by simp) (by rw [w1]; decide) (by_1 r false false) (idx_nil _), on_none,
        walkS_on pA _ ⟨nTwo, r, []⟩ _ _ _ (by simp) (by rw [w2]; decide) (by_2 r false false) (idx_nil _), on_none,
        walkS_on pA _ ⟨nThree, r, []⟩ _ _ _ (by simp) (by rw [w3]; decide) (by_3 r false false) (idx_nil _), on_none, walkS_nil]
      rfl
    · show walkS pA _ [⟨nOne, r, []⟩, ⟨nTwo, r, []⟩] _ = _
      rw [walkS_on pA _ ⟨nOne, r, []⟩ _ _ _ (by simp) (by rw [w1]; decide) (by_1 r false true) (idx_nil _), on_none,
        walkS_on pA _ ⟨nTwo, r, []⟩ _ _ _ (by simp) (by rw [w2]; decide) (by_2 r false true) (idx_nil _), on_none, walkS_nil]
      rfl
  · show walkS pA _ [⟨nOne, r, []⟩] _ = _
    rw [walkS_on pA _ ⟨nOne, r, []⟩ _ _ _ (by simp) (by rw [w1]; decide) (by_1 r true l) (idx_nil _), on_none, walkS_nil]
    rfl
theorem walk_top (r : S28) (f l : Bool) : walkS pA [⟨TARGETS, topM r f l⟩] [first] [] = .want [TARGETS] ⟨nOne, r, []⟩ := by
  rw [walkS_on pA _ first [] [] ⟨TARGETS, topM r f l⟩ (by decide) (by decide) (by kernel_rfl) (idx_nil _)]
  have hg : ∃ t, goOn pA ⟨TARGETS, topM r f l⟩ [] = ⟨nOne, r, []⟩ :: t := by
    rw [goOn_eq (ds := (asksS pA (dgs r f l)).1) (last := (asksS pA (dgs r f l)).2) rfl, asks_dgs]
    cases f <;> cases l <;> exact ⟨_, rfl⟩
  obtain ⟨t, ht⟩ := hg
  have w1 : wasSeen ([] ++ [first.nm]) nOne = false := by kernel_rfl
  rw [ht, walkS_want pA _ ⟨nOne, r, []⟩ t _ (by decide) (by rw [w1]; decide) (by kernel_rfl)]
  rfl
end Go.Proofs.YtgcflmhlegagbaaGreatDoor.E

end
section
set_option linter.unusedVariables false
set_option linter.unusedSimpArgs false
namespace Go.Proofs.YtgcflmhlegagbaaGreatDoor.E
open Go.RowKit Go.Lib Go.Shelf Go.Proofs.YtgcflmhlegagbaaGreatDoorW.PrintWords Go.Proofs.YtgcflmhlegagbaaGreatDoorW.PrintLast Go.Proofs.YtgcflmhlegagbaaGreatDoorW.PrintMore
open X (S25 k25 z25 S28 k28 S53 k53 S70 k70 S46 k46 S48 k48 z48)
def lastWorld (w : World) (A : Option Addr) (c : Nat) (r : S28) (f l : Bool) : World := ((((((((w.alloc (.cells #[.slice A r.f0.length c, .int .i64 r.f1] 28)).alloc (.cells #[.string ⟨#[97]⟩] 9)).alloc (.cells #[.string ⟨#[42]⟩] 9)).alloc (.cells #[.string ⟨#[63]⟩] 9)).alloc (.cells #[.string ⟨#[111, 110, 101]⟩, .slice A r.f0.length c, .int .i64 r.f1, .slice (some ⟨w.heap.size + 1, 0, none⟩) 1 1, .bool f, .string ⟨#[116, 119, 111]⟩, .slice A r.f0.length c, .int .i64 r.f1, .slice (some ⟨w.heap.size + 1 + 1, 0, none⟩) 1 1, .bool l, .string ⟨#[116, 104, 114, 101, 101]⟩, .slice A r.f0.length c, .int .i64 r.f1, .slice (some ⟨w.heap.size + 1 + 1 + 1, 0, none⟩) 1 1, .bool false] 53)).alloc (.cells #[.int .i64 4, .int .i64 1, .int .i64 0, .slice none 0 0, .slice none 0 0, .string ⟨#[]⟩, .slice none 0 0, .slice (some ⟨w.heap.size + 1 + 1 + 1 + 1, 0, none⟩) 3 3] 46)).alloc (.cells #[.int .i64 4, .int .i64 1, .int .i64 0, .slice none 0 0, .slice none 0 0, .string ⟨#[]⟩, .slice none 0 0, .slice none 0 0] 46)).alloc (.cells #[.string ⟨#[116, 97, 114, 103, 101, 116, 115]⟩, .int .i64 4, .int .i64 1, .int .i64 0, .slice none 0 0, .slice none 0 0, .string ⟨#[]⟩, .slice none 0 0, .slice (some ⟨w.heap.size + 1 + 1 + 1 + 1, 0, none⟩) 3 3, .string ⟨#[111, 110, 101]⟩, .int .i64 4, .int .i64 1, .int .i64 0, .slice none 0 0, .slice none 0 0, .string ⟨#[]⟩, .slice none 0 0, .slice none 0 0, .string ⟨#[116, 119, 111]⟩, .int .i64 4, .int .i64 1, .int .i64 0, .slice none 0 0, .slice none 0 0, .string ⟨#[]⟩, .slice none 0 0, .slice none 0 0, .string ⟨#[116, 104, 114, 101, 101]⟩, .int .i64 4, .int .i64 1, .int .i64 0, .slice none 0 0, .slice none 0 0, .string ⟨#[]⟩, .slice none 0 0, .slice none 0 0] 48))
/-- What lies in memory when the walk is called. -/
structure LastMem (w : World) (A : Option Addr) (c : Nat) (r : S28) (f l : Bool) (g0 g4 g5 g7 : Nat) (W : World) : Prop where
  hb : Below w.heap.size w W
  h0 : W.heap[g0]? = some (.cells #[.slice A r.f0.length c, .int .i64 r.f1] 28 (0, 0))
  h5 : W.heap[g5]? = some (.cells #[.int .i64 4, .int .i64 1, .int .i64 0, .slice none 0 0, .slice none 0 0, .string ⟨#[]⟩, .slice none 0 0, .slice (some ⟨g4, 0, none⟩) 3 3] 46 (0, 0))
  hd : Kd.C k53 W (some ⟨g4, 0, none⟩) 3 (dgs r f l)
  hh : Kd.C k48 W (some ⟨g7, 0, none⟩) 4 (heldL r f l)
theorem LastMem.step {w : World} {A : Option Addr} {c : Nat} {r : S28} {f l : Bool} {g0 g4 g5 g7 : Nat} {W W' : World} (h : LastMem w A c r f l g0 g4 g5 g7 W) (hb : Below W.heap.size W W') : LastMem w A c r f l g0 g4 g5 g7 W' :=
  ⟨below_step h.hb hb, (hb.block _ (blk_lt h.h0)).trans h.h0, (hb.block _ (blk_lt h.h5)).trans h.h5, Kd.C_below h.hd hb, Kd.C_below h.hh hb⟩
theorem C_none {α : Type} (d : Kd α) (W : World) : d.C W none ([] : List α).length [] := ⟨rfl, Nat.zero_le _, fun h => absurd h (Nat.lt_irrefl 0)⟩
theorem LastMem.made (w : World) (A : Option Addr) (c : Nat) (r : S28) (f l : Bool) (hl : r.f0.length ≤ c) (hC : Kd.C Kd.string w A r.f0.length r.f0) : LastMem w A c r f l w.heap.size (w.heap.size + 1 + 1 + 1 + 1) (w.heap.size + 1 + 1 + 1 + 1 + 1) (w.heap.size + 1 + 1 + 1 + 1 + 1 + 1 + 1) (lastWorld w A c r f l) := by
  unfold lastWorld
  obtain ⟨g0, e0⟩ : ∃ g, w.heap.size = g := ⟨_, rfl⟩
  have b0 := Below.refl w.heap.size w
  obtain ⟨W1, eW1⟩ : ∃ W, w.alloc (.cells #[.slice A r.f0.length c, .int .i64 r.f1] 28) = W := ⟨_, rfl⟩
  have s1 : W1.heap.size = w.heap.size + 1 := by rw [← eW1]; simp
  have n0 := blk_new w (.cells #[.slice A r.f0.length c, .int .i64 r.f1] 28)
  rw [eW1] at n0
  have b1 := below_alloc b0 (.cells #[.slice A r.f0.length c, .int .i64 r.f1] 28)
  rw [eW1] at b1
  obtain ⟨W2, eW2⟩ : ∃ W, W1.alloc (.cells #[.string ⟨#[97]⟩] 9) = W := ⟨_, rfl⟩
  have s2 : W2.heap.size = w.heap.size + 1 + 1 := by rw [← eW2]; simp [s1]
  have n1 := blk_new W1 (.cells #[.string ⟨#[97]⟩] 9)
  rw [eW2, s1] at n1
  have n0 := blk_alloc n0 (.cells #[.string ⟨#[97]⟩] 9)
  rw [eW2] at n0
  have b2 := below_alloc b1 (.cells #[.string ⟨#[97]⟩] 9)
  rw [eW2] at b2
  obtain ⟨W3, eW3⟩ : ∃ W, W2.alloc (.cells #[.string ⟨#[42]⟩] 9) = W := ⟨_, rfl⟩
  have s3 : W3.heap.size = w.heap.size + 1 + 1 + 1 := by rw [← eW3]; simp [s2]
  have n2 := blk_new W2 (.cells #[.string ⟨#[42]⟩] 9)
  rw [eW3, s2] at n2
  have n0 := blk_alloc n0 (.cells #[.string ⟨#[42]⟩] 9)
  rw [eW3] at n0
  have n1 := blk_alloc n1 (.cells #[.string ⟨#[42]⟩] 9)
  rw [eW3] at n1
  have b3 := below_alloc b2 (.cells #[.string ⟨#[42]⟩] 9)
  rw [eW3] at b3
  obtain ⟨W4, eW4⟩ : ∃ W, W3.alloc (.cells #[.string ⟨#[63]⟩] 9) = W := ⟨_, rfl⟩
  have s4 : W4.heap.size = w.heap.size + 1 + 1 + 1 + 1 := by rw [← eW4]; simp [s3]
  have n3 := blk_new W3 (.cells #[.string ⟨#[63]⟩] 9)
  rw [eW4, s3] at n3
  have n0 := blk_alloc n0 (.cells #[.string ⟨#[63]⟩] 9)
  rw [eW4] at n0
  have n1 := blk_alloc n1 (.cells #[.string ⟨#[63]⟩] 9)
  rw [eW4] at n1
  have n2 := blk_alloc n2 (.cells #[.string ⟨#[63]⟩] 9)
  rw [eW4] at n2
  have b4 := below_alloc b3 (.cells #[.string ⟨#[63]⟩] 9)
  rw [eW4] at b4
  obtain ⟨W5, eW5⟩ : ∃ W, W4.alloc (.cells #[.string ⟨#[111, 110, 101]⟩, .slice A r.f0.length c, .int .i64 r.f1, .slice (some ⟨w.heap.size + 1, 0, none⟩) 1 1, .bool f, .string ⟨#[116, 119, 111]⟩, .slice A r.f0.length c, .int .i64 r.f1, .slice (some ⟨w.heap.size + 1 + 1, 0, none⟩) 1 1, .bool l, .string ⟨#[116, 104, 114, 101, 101]⟩, .slice A r.f0.length c, .int .i64 r.f1, .slice (some ⟨w.heap.size + 1 + 1 + 1, 0, none⟩) 1 1, .bool false] 53) = W := ⟨_, rfl⟩
  have s5 : W5.heap.size = w.heap.size + 1 + 1 + 1 + 1 + 1 := by rw [← eW5]; simp [s4]
  have n4 := blk_new W4 (.cells #[.string ⟨#[111, 110, 101]⟩, .slice A r.f0.length c, .int .i64 r.f1, .slice (some ⟨w.heap.size + 1, 0, none⟩) 1 1, .bool f, .string ⟨#[116, 119, 111]⟩, .slice A r.f0.length c, .int .i64 r.f1, .slice (some ⟨w.heap.size + 1 + 1, 0, none⟩) 1 1, .bool l, .string ⟨#[116, 104, 114, 101, 101]⟩, .slice A r.f0.length c, .int .i64 r.f1, .slice (some ⟨w.heap.size + 1 + 1 + 1, 0, none⟩) 1 1, .bool false] 53)
  rw [eW5, s4] at n4
  have n0 := blk_alloc n0 (.cells #[.string ⟨#[111, 110, 101]⟩, .slice A r.f0.length c, .int .i64 r.f1, .slice (some ⟨w.heap.size + 1, 0, none⟩) 1 1, .bool f, .string ⟨#[116, 119, 111]⟩, .slice A r.f0.length c, .int .i64 r.f1, .slice (some ⟨w.heap.size + 1 + 1, 0, none⟩) 1 1, .bool l, .string ⟨#[116, 104, 114, 101, 101]⟩, .slice A r.f0.length c, .int .i64 r.f1, .slice (some ⟨w.heap.size + 1 + 1 + 1, 0, none⟩) 1 1, .bool false] 53)
  rw [eW5] at n0
  have n1 := blk_alloc n1 (.cells #[.string ⟨#[111, 110, 101]⟩, .slice A r.f0.length c, .int .i64 r.f1, .slice (some ⟨w.heap.size + 1, 0, none⟩) 1 1, .bool f, .string ⟨#[116, 119, 111]⟩, .slice A r.f0.length c, .int .i64 r.f1, .slice (some ⟨w.heap.size + 1 + 1, 0, none⟩) 1 1, .bool l, .string ⟨#[116, 104, 114, 101, 101]⟩, .slice A r.f0.length c, .int .i64 r.f1, .slice (some ⟨w.heap.size + 1 + 1 + 1, 0, none⟩) 1 1, .bool false] 53)
  rw [eW5] at n1
  have n2 := blk_alloc n2 (.cells #[.string ⟨#[111, 110, 101]⟩, .slice A r.f0.length c, .int .i64 r.f1, .slice (some ⟨w.heap.size + 1, 0, none⟩) 1 1, .bool f, .string ⟨#[116, 119, 111]⟩, .slice A r.f0.length c, .int .i64 r.f1, .slice (some ⟨w.heap.size + 1 + 1, 0, none⟩) 1 1, .bool l, .string ⟨#[116, 104, 114, 101, 101]⟩, .slice A r.f0.length c, .int .i64 r.f1, .slice (some ⟨w.heap.size + 1 + 1 + 1, 0, none⟩) 1 1, .bool false] 53)
  rw [eW5] at n2
  have n3 := blk_alloc n3 (.cells #[.string ⟨#[111, 110, 101]⟩, .slice A r.f0.length c, .int .i64 r.f1, .slice (some ⟨w.heap.size + 1, 0, none⟩) 1 1, .bool f, .string ⟨#[116, 119, 111]⟩, .slice A r.f0.length c, .int .i64 r.f1, .slice (some ⟨w.heap.size + 1 + 1, 0, none⟩) 1 1, .bool l, .string ⟨#[116, 104, 114, 101, 101]⟩, .slice A r.f0.length c, .int .i64 r.f1, .slice (some ⟨w.heap.size + 1 + 1 + 1, 0, none⟩) 1 1, .bool false] 53)
  rw [eW5] at n3
  have b5 := below_alloc b4 (.cells #[.string ⟨#[111, 110, 101]⟩, .slice A r.f0.length c, .int .i64 r.f1, .slice (some ⟨w.heap.size + 1, 0, none⟩) 1 1, .bool f, .string ⟨#[116, 119, 111]⟩, .slice A r.f0.length c, .int .i64 r.f1, .slice (some ⟨w.heap.size + 1 + 1, 0, none⟩) 1 1, .bool l, .string ⟨#[116, 104, 114, 101, 101]⟩, .slice A r.f0.length c, .int .i64 r.f1, .slice (some ⟨w.heap.size + 1 + 1 + 1, 0, none⟩) 1 1, .bool false] 53)
  rw [eW5] at b5
  obtain ⟨W6, eW6⟩ : ∃ W, W5.alloc (.cells #[.int .i64 4, .int .i64 1, .int .i64 0, .slice none 0 0, .slice none 0 0, .string ⟨#[]⟩, .slice none 0 0, .slice (some ⟨w.heap.size + 1 + 1 + 1 + 1, 0, none⟩) 3 3] 46) = W := ⟨_, rfl⟩
  have s6 : W6.heap.size = w.heap.size + 1 + 1 + 1 + 1 + 1 + 1 := by rw [← eW6]; simp [s5]
  have n5 := blk_new W5 (.cells #[.int .i64 4, .int .i64 1, .int .i64 0, .slice none 0 0, .slice none 0 0, .string ⟨#[]⟩, .slice none 0 0, .slice (some ⟨w.heap.size + 1 + 1 + 1 + 1, 0, none⟩) 3 3] 46)
  rw [eW6, s5] at n5
  have n0 := blk_alloc n0 (.cells #[.int .i64 4, .int .i64 1, .int .i64 0, .slice none 0 0, .slice none 0 0, .string ⟨#[]⟩, .slice none 0 0, .slice (some ⟨w.heap.size + 1 + 1 + 1 + 1, 0, none⟩) 3 3] 46)
  rw [eW6] at n0
  have n1 := blk_alloc n1 (.cells #[.int .i64 4, .int .i64 1, .int .i64 0, .slice none 0 0, .slice none 0 0, .string ⟨#[]⟩, .slice none 0 0, .slice (some ⟨w.heap.size + 1 + 1 + 1 + 1, 0, none⟩) 3 3] 46)
  rw [eW6] at n1
  have n2 := blk_alloc n2 (.cells #[.int .i64 4, .int .i64 1, .int .i64 0, .slice none 0 0, .slice none 0 0, .string ⟨#[]⟩, .slice none 0 0, .slice (some ⟨w.heap.size + 1 + 1 + 1 + 1, 0, none⟩) 3 3] 46)
  rw [eW6] at n2
  have n3 := blk_alloc n3 (.cells #[.int .i64 4, .int .i64 1, .int .i64 0, .slice none 0 0, .slice none 0 0, .string ⟨#[]⟩, .slice none 0 0, .slice (some ⟨w.heap.size + 1 + 1 + 1 + 1, 0, none⟩) 3 3] 46)
  rw [eW6] at n3
  have n4 := blk_alloc n4 (.cells #[.int .i64 4, .int .i64 1, .int .i64 0, .slice none 0 0, .slice none 0 0, .string ⟨#[]⟩, .slice none 0 0, .slice (some ⟨w.heap.size + 1 + 1 + 1 + 1, 0, none⟩) 3 3] 46)
  rw [eW6] at n4
  have b6 := below_alloc b5 (.cells #[.int .i64 4, .int .i64 1, .int .i64 0, .slice none 0 0, .slice none 0 0, .string ⟨#[]⟩, .slice none 0 0, .slice (some ⟨w.heap.size + 1 + 1 + 1 + 1, 0, none⟩) 3 3] 46)
  rw [eW6] at b6
  obtain ⟨W7, eW7⟩ : ∃ W, W6.alloc (.cells #[.int .i64 4, .int .i64 1, .int .i64 0, .slice none 0 0, .slice none 0 0, .string ⟨#[]⟩, .slice none 0 0, .slice none 0 0] 46) = W := ⟨_, rfl⟩
  have s7 : W7.heap.size = w.heap.size + 1 + 1 + 1 + 1 + 1 + 1 + 1 := by rw [← eW7]; simp [s6]
  have n6 := blk_new W6 (.cells #[.int .i64 4, .int .i64 1, .int .i64 0, .slice none 0 0, .slice none 0 0, .string ⟨#[]⟩, .slice none 0 0, .slice none 0 0] 46)
  rw [eW7, s6] at n6
  have n0 := blk_alloc n0 (.cells #[.int .i64 4, .int .i64 1, .int .i64 0, .slice none 0 0, .slice none 0 0, .string ⟨#[]⟩, .slice none 0 0, .slice none 0 0] 46)
  rw [eW7] at n0
  have n1 := blk_alloc n1 (.cells #[.int .i64 4, .int .i64 1, .int .i64 0, .slice none 0 0, .slice none 0 0, .string ⟨#[]⟩, .slice none 0 0, .slice none 0 0] 46)
  rw [eW7] at n1
  have n2 := blk_alloc n2 (.cells #[.int .i64 4, .int .i64 1, .int .i64 0, .slice none 0 0, .slice none 0 0, .string ⟨#[]⟩, .slice none 0 0, .slice none 0 0] 46)
  rw [eW7] at n2
  have n3 := blk_alloc n3 (.cells #[.int .i64 4, .int .i64 1, .int .i64 0, .slice none 0 0, .slice none 0 0, .string ⟨#[]⟩, .slice none 0 0, .slice none 0 0] 46)
  rw [eW7] at n3
  have n4 := blk_alloc n4 (.cells #[.int .i64 4, .int .i64 1, .int .i64 0, .slice none 0 0, .slice none 0 0, .string ⟨#[]⟩, .slice none 0 0, .slice none 0 0] 46)
  rw [eW7] at n4
  have n5 := blk_alloc n5 (.cells #[.int .i64 4, .int .i64 1, .int .i64 0, .slice none 0 0, .slice none 0 0, .string ⟨#[]⟩, .slice none 0 0, .slice none 0 0] 46)
  rw [eW7] at n5
  have b7 := below_alloc b6 (.cells #[.int .i64 4, .int .i64 1, .int .i64 0, .slice none 0 0, .slice none 0 0, .string ⟨#[]⟩, .slice none 0 0, .slice none 0 0] 46)
  rw [eW7] at b7
  obtain ⟨W8, eW8⟩ : ∃ W, W7.alloc (.cells #[.string ⟨#[116, 97, 114, 103, 101, 116, 115]⟩, .int .i64 4, .int .i64 1, .int .i64 0, .slice none 0 0, .slice none 0 0, .string ⟨#[]⟩, .slice none 0 0, .slice (some ⟨w.heap.size + 1 + 1 + 1 + 1, 0, none⟩) 3 3, .string ⟨#[111, 110, 101]⟩, .int .i64 4, .int .i64 1, .int .i64 0, .slice none 0 0, .slice none 0 0, .string ⟨#[]⟩, .slice none 0 0, .slice none 0 0, .string ⟨#[116, 119, 111]⟩, .int .i64 4, .int .i64 1, .int .i64 0, .slice none 0 0, .slice none 0 0, .string ⟨#[]⟩, .slice none 0 0, .slice none 0 0, .string ⟨#[116, 104, 114, 101, 101]⟩, .int .i64 4, .int .i64 1, .int .i64 0, .slice none 0 0, .slice none 0 0, .string ⟨#[]⟩, .slice none 0 0, .slice none 0 0] 48) = W := ⟨_, rfl⟩
  have s8 : W8.heap.size = w.heap.size + 1 + 1 + 1 + 1 + 1 + 1 + 1 + 1 := by rw [← eW8]; simp [s7]
  have n7 := blk_new W7 (.cells #[.string ⟨#[116, 97, 114, 103, 101, 116, 115]⟩, .int .i64 4, .int .i64 1, .int .i64 0, .slice none 0 0, .slice none 0 0, .string ⟨#[]⟩, .slice none 0 0, .slice (some ⟨w.heap.size + 1 + 1 + 1 + 1, 0, none⟩) 3 3, .string ⟨#[111, 110, 101]⟩, .int .i64 4, .int .i64 1, .int .i64 0, .slice none 0 0, .slice none 0 0, .string ⟨#[]⟩, .slice none 0 0, .slice none 0 0, .string ⟨#[116, 119, 111]⟩, .int .i64 4, .int .i64 1, .int .i64 0, .slice none 0 0, .slice none 0 0, .string ⟨#[]⟩, .slice none 0 0, .slice none 0 0, .string ⟨#[116, 104, 114, 101, 101]⟩, .int .i64 4, .int .i64 1, .int .i64 0, .slice none 0 0, .slice none 0 0, .string ⟨#[]⟩, .slice none 0 0, .slice none 0 0] 48)
  rw [eW8, s7] at n7
  have n0 := blk_alloc n0 (.cells #[.string ⟨#[116, 97, 114, 103, 101, 116, 115]⟩, .int .i64 4, .int .i64 1, .int .i64 0, .slice none 0 0, .slice none 0 0, .string ⟨#[]⟩, .slice none 0 0, .slice (some ⟨w.heap.size + 1 + 1 + 1 + 1, 0, none⟩) 3 3, .string ⟨#[111, 110, 101]⟩, .int .i64 4, .int .i64 1, .int .i64 0, .slice none 0 0, .slice none 0 0, .string ⟨#[]⟩, .slice none 0 0, .slice none 0 0, .string ⟨#[116, 119, 111]⟩, .int .i64 4, .int .i64 1, .int .i64 0, .slice none 0 0, .slice none 0 0, .string ⟨#[]⟩, .slice none 0 0, .slice none 0 0, .string ⟨#[116, 104, 114, 101, 101]⟩, .int .i64 4, .int .i64 1, .int .i64 0, .slice none 0 0, .slice none 0 0, .string ⟨#[]⟩, .slice none 0 0, .slice none 0 0] 48)
  rw [eW8] at n0
  have n1 := blk_alloc n1 (.cells #[.string ⟨#[116, 97, 114, 103, 101, 116, 115]⟩, .int .i64 4, .int .i64 1, .int .i64 0, .slice none 0 0, .slice none 0 0, .string ⟨#[]⟩, .slice none 0 0, .slice (some ⟨w.heap.size + 1 + 1 + 1 + 1, 0, none⟩) 3 3, .string ⟨#[111, 110, 101]⟩, .int .i64 4, .int .i64 1, .int .i64 0, .slice none 0 0, .slice none 0 0, .string ⟨#[]⟩, .slice none 0 0, .slice none 0 0, .string ⟨#[116, 119, 111]⟩, .int .i64 4, .int .i64 1, .int .i64 0, .slice none 0 0, .slice none 0 0, .string ⟨#[]⟩, .slice none 0 0, .slice none 0 0, .string ⟨#[116, 104, 114, 101, 101]⟩, .int .i64 4, .int .i64 1, .int .i64 0, .slice none 0 0, .slice none 0 0, .string ⟨#[]⟩, .slice none 0 0, .slice none 0 0] 48)
  rw [eW8] at n1
  have n2 := blk_alloc n2 (.cells #[.string ⟨#[116, 97, 114, 103, 101, 116, 115]⟩, .int .i64 4, .int .i64 1, .int .i64 0, .slice none 0 0, .slice none 0 0, .string ⟨#[]⟩, .slice none 0 0, .slice (some ⟨w.heap.size + 1 + 1 + 1 + 1, 0, none⟩) 3 3, .string ⟨#[111, 110, 101]⟩, .int .i64 4, .int .i64 1, .int .i64 0, .slice none 0 0, .slice none 0 0, .string ⟨#[]⟩, .slice none 0 0, .slice none 0 0, .string ⟨#[116, 119, 111]⟩, .int .i64 4, .int .i64 1, .int .i64 0, .slice none 0 0, .slice none 0 0, .string ⟨#[]⟩, .slice none 0 0, .slice none 0 0, .string ⟨#[116, 104, 114, 101, 101]⟩, .int .i64 4, .int .i64 1, .int .i64 0, .slice none 0 0, .slice none 0 0, .string ⟨#[]⟩, .slice none 0 0, .slice none 0 0] 48)
  rw [eW8] at n2
  have n3 := blk_alloc n3 (.cells #[.string ⟨#[116, 97, 114, 103, 101, 116, 115]⟩, .int .i64 4, .int .i64 1, .int .i64 0, .slice none 0 0, .slice none 0 0, .string ⟨#[]⟩, .slice none 0 0, .slice (some ⟨w.heap.size + 1 + 1 + 1 + 1, 0, none⟩) 3 3, .string ⟨#[111, 110, 101]⟩, .int .i64 4, .int .i64 1, .int .i64 0, .slice none 0 0, .slice none 0 0, .string ⟨#[]⟩, .slice none 0 0, .slice none 0 0, .string ⟨#[116, 119, 111]⟩, .int .i64 4, .int .i64 1, .int .i64 0, .slice none 0 0, .slice none 0 0, .string ⟨#[]⟩, .slice none 0 0, .slice none 0 0, .string ⟨#[116, 104, 114, 101, 101]⟩, .int .i64 4, .int .i64 1, .int .i64 0, .slice none 0 0, .slice none 0 0, .string ⟨#[]⟩, .slice none 0 0, .slice none 0 0] 48)
  rw [eW8] at n3
  have n4 := blk_alloc n4 (.cells #[.string ⟨#[116, 97, 114, 103, 101, 116, 115]⟩, .int .i64 4, .int .i64 1, .int .i64 0, .slice none 0 0, .slice none 0 0, .string ⟨#[]⟩, .slice none 0 0, .slice (some ⟨w.heap.size + 1 + 1 + 1 + 1, 0, none⟩) 3 3, .string ⟨#[111, 110, 101]⟩, .int .i64 4, .int .i64 1, .int .i64 0, .slice none 0 0, .slice none 0 0, .string ⟨#[]⟩, .slice none 0 0, .slice none 0 0, .string ⟨#[116, 119, 111]⟩, .int .i64 4, .int .i64 1, .int .i64 0, .slice none 0 0, .slice none 0 0, .string ⟨#[]⟩, .slice none 0 0, .slice none 0 0, .string ⟨#[116, 104, 114, 101, 101]⟩, .int .i64 4, .int .i64 1, .int .i64 0, .slice none 0 0, .slice none 0 0, .string ⟨#[]⟩, .slice none 0 0, .slice none 0 0] 48)
  rw [eW8] at n4
  have n5 := blk_alloc n5 (.cells #[.string ⟨#[116, 97, 114, 103, 101, 116, 115]⟩, .int .i64 4, .int .i64 1, .int .i64 0, .slice none 0 0, .slice none 0 0, .string ⟨#[]⟩, .slice none 0 0, .slice (some ⟨w.heap.size + 1 + 1 + 1 + 1, 0, none⟩) 3 3, .string ⟨#[111, 110, 101]⟩, .int .i64 4, .int .i64 1, .int .i64 0, .slice none 0 0, .slice none 0 0, .string ⟨#[]⟩, .slice none 0 0, .slice none 0 0, .string ⟨#[116, 119, 111]⟩, .int .i64 4, .int .i64 1, .int .i64 0, .slice none 0 0, .slice none 0 0, .string ⟨#[]⟩, .slice none 0 0, .slice none 0 0, .string ⟨#[116, 104, 114, 101, 101]⟩, .int .i64 4, .int .i64 1, .int .i64 0, .slice none 0 0, .slice none 0 0, .string ⟨#[]⟩, .slice none 0 0, .slice none 0 0] 48)
  rw [eW8] at n5
  have n6 := blk_alloc n6 (.cells #[.string ⟨#[116, 97, 114, 103, 101, 116, 115]⟩, .int .i64 4, .int .i64 1, .int .i64 0, .slice none 0 0, .slice none 0 0, .string ⟨#[]⟩, .slice none 0 0, .slice (some ⟨w.heap.size + 1 + 1 + 1 + 1, 0, none⟩) 3 3, .string ⟨#[111, 110, 101]⟩, .int .i64 4, .int .i64 1, .int .i64 0, .slice none 0 0, .slice none 0 0, .string ⟨#[]⟩, .slice none 0 0, .slice none 0 0, .string ⟨#[116, 119, 111]⟩, .int .i64 4, .int .i64 1, .int .i64 0, .slice none 0 0, .slice none 0 0, .string ⟨#[]⟩, .slice none 0 0, .slice none 0 0, .string ⟨#[116, 104, 114, 101, 101]⟩, .int .i64 4, .int .i64 1, .int .i64 0, .slice none 0 0, .slice none 0 0, .string ⟨#[]⟩, .slice none 0 0, .slice none 0 0] 48)
  rw [eW8] at n6
  have b8 := below_alloc b7 (.cells #[.string ⟨#[116, 97, 114, 103, 101, 116, 115]⟩, .int .i64 4, .int .i64 1, .int .i64 0, .slice none 0 0, .slice none 0 0, .string ⟨#[]⟩, .slice none 0 0, .slice (some ⟨w.heap.size + 1 + 1 + 1 + 1, 0, none⟩) 3 3, .string ⟨#[111, 110, 101]⟩, .int .i64 4, .int .i64 1, .int .i64 0, .slice none 0 0, .slice none 0 0, .string ⟨#[]⟩, .slice none 0 0, .slice none 0 0, .string ⟨#[116, 119, 111]⟩, .int .i64 4, .int .i64 1, .int .i64 0, .slice none 0 0, .slice none 0 0, .string ⟨#[]⟩, .slice none 0 0, .slice none 0 0, .string ⟨#[116, 104, 114, 101, 101]⟩, .int .i64 4, .int .i64 1, .int .i64 0, .slice none 0 0, .slice none 0 0, .string ⟨#[]⟩, .slice none 0 0, .slice none 0 0] 48)
  rw [eW8] at b8
  rw [eW1, eW2, eW3, eW4, eW5, eW6, eW7, eW8]
  have hids := Kd.C_below hC b8
  have one : ∀ (s : ByteArray) (g : Nat), W8.heap[g]? = some (.cells #[.string s] 9 (0, 0)) → Kd.C Kd.string W8 (some ⟨g, 0, none⟩) [s].length [s] := fun s g h => C_of_cells (cs := [.string s]) h (reps_cons (x := s) (t := []) (c := [.string s]) (cs := []) rfl rfl (Reps.none _ _)) (by show 1 ≤ _; decide)
  have hd : Kd.C k53 W8 (some ⟨w.heap.size + 1 + 1 + 1 + 1, 0, none⟩) (dgs r f l).length (dgs r f l) := C_of_cells (cs := (#[.string ⟨#[111, 110, 101]⟩, .slice A r.f0.length c, .int .i64 r.f1, .slice (some ⟨w.heap.size + 1, 0, none⟩) 1 1, .bool f, .string ⟨#[116, 119, 111]⟩, .slice A r.f0.length c, .int .i64 r.f1, .slice (some ⟨w.heap.size + 1 + 1, 0, none⟩) 1 1, .bool l, .string ⟨#[116, 104, 114, 101, 101]⟩, .slice A r.f0.length c, .int .i64 r.f1, .slice (some ⟨w.heap.size + 1 + 1 + 1, 0, none⟩) 1 1, .bool false] : Array Value).toList) n4
    (reps_cons (c := [.string ⟨#[111, 110, 101]⟩, .slice A r.f0.length c, .int .i64 r.f1, .slice (some ⟨w.heap.size + 1, 0, none⟩) 1 1, .bool f]) rfl (X.k53_mk W8 ⟨nOne, r, [pA], f⟩ hl hids (Nat.le_refl 1) (one pA _ n1))
      (reps_cons (c := [.string ⟨#[116, 119, 111]⟩, .slice A r.f0.length c, .int .i64 r.f1, .slice (some ⟨w.heap.size + 1 + 1, 0, none⟩) 1 1, .bool l]) rfl (X.k53_mk W8 ⟨nTwo, r, [pStar], l⟩ hl hids (Nat.le_refl 1) (one pStar _ n2))
        (reps_cons (c := [.string ⟨#[116, 104, 114, 101, 101]⟩, .slice A r.f0.length c, .int .i64 r.f1, .slice (some ⟨w.heap.size + 1 + 1 + 1, 0, none⟩) 1 1, .bool false]) (cs := []) rfl (X.k53_mk W8 ⟨nThree, r, [pAny], false⟩ hl hids (Nat.le_refl 1) (one pAny _ n3)) (Reps.none _ _)))) (by show 3 ≤ _; decide)
  have kn : ∀ n : ByteArray, k48.K W8 ⟨n, noneM⟩ [.string n, .int .i64 4, .int .i64 1, .int .i64 0, .slice none 0 0, .slice none 0 0, .string ⟨#[]⟩, .slice none 0 0, .slice none 0 0] := fun n => X.k48_mk W8 ⟨n, noneM⟩ (Nat.le_refl 0) (C_none _ _) (Nat.le_refl 0) (C_none _ _) (Nat.le_refl 0) (C_none _ _) (Nat.le_refl 0) (C_none _ _)
  have hh : Kd.C k48 W8 (some ⟨w.heap.size + 1 + 1 + 1 + 1 + 1 + 1 + 1, 0, none⟩) (heldL r f l).length (heldL r f l) := C_of_cells (cs := (#[.string ⟨#[116, 97, 114, 103, 101, 116, 115]⟩, .int .i64 4, .int .i64 1, .int .i64 0, .slice none 0 0, .slice none 0 0, .string ⟨#[]⟩, .slice none 0 0, .slice (some ⟨w.heap.size + 1 + 1 + 1 + 1, 0, none⟩) 3 3, .string ⟨#[111, 110, 101]⟩, .int .i64 4, .int .i64 1, .int .i64 0, .slice none 0 0, .slice none 0 0, .string ⟨#[]⟩, .slice none 0 0, .slice none 0 0, .string ⟨#[116, 119, 111]⟩, .int .i64 4, .int .i64 1, .int .i64 0, .slice none 0 0, .slice none 0 0, .string ⟨#[]⟩, .slice none 0 0, .slice none 0 0, .string ⟨#[116, 104, 114, 101, 101]⟩, .int .i64 4, .int .i64 1, .int .i64 0, .slice none 0 0, .slice none 0 0, .string ⟨#[]⟩, .slice none 0 0, .slice none 0 0] : Array Value).toList) n7
    (reps_cons (c := [.string ⟨#[116, 97, 114, 103, 101, 116, 115]⟩, .int .i64 4, .int .i64 1, .int .i64 0, .slice none 0 0, .slice none 0 0, .string ⟨#[]⟩, .slice none 0 0, .slice (some ⟨w.heap.size + 1 + 1 + 1 + 1, 0, none⟩) 3 3]) rfl (X.k48_mk W8 ⟨TARGETS, topM r f l⟩ (Nat.le_refl 0) (C_none _ _) (Nat.le_refl 0) (C_none _ _) (Nat.le_refl 0) (C_none _ _) (Nat.le_refl 3) hd)
      (reps_cons (c := [.string ⟨#[111, 110, 101]⟩, .int .i64 4, .int .i64 1, .int .i64 0, .slice none 0 0, .slice none 0 0, .string ⟨#[]⟩, .slice none 0 0, .slice none 0 0]) rfl (kn nOne) (reps_cons (c := [.string ⟨#[116, 119, 111]⟩, .int .i64 4, .int .i64 1, .int .i64 0, .slice none 0 0, .slice none 0 0, .string ⟨#[]⟩, .slice none 0 0, .slice none 0 0]) rfl (kn nTwo) (reps_cons (c := [.string ⟨#[116, 104, 114, 101, 101]⟩, .int .i64 4, .int .i64 1, .int .i64 0, .slice none 0 0, .slice none 0 0, .string ⟨#[]⟩, .slice none 0 0, .slice none 0 0]) (cs := []) rfl (kn nThree) (Reps.none _ _))))) (by show 4 ≤ _; decide)
  exact ⟨b8, n0, n5, hd, hh⟩
theorem okW_a (l : List S48) : okW pA l = heldOk l := by
  unfold okW
  rw [show G.right false pA.data.toList = true from path_a]
  rfl
theorem first_walk (w W : World) (A : Option Addr) (c : Nat) (r : S28) (f l : Bool) (g0 g4 g5 g7 : Nat) (ht : Tabs w) (h : LastMem w A c r f l g0 g4 g5 g7 W) (hro : roleOk r.f0 r.f1 = true) (n : Nat) (hn : (seenL f l).length = n) :
    Calls Tryz.prog 9 #[.string ⟨#[97]⟩, .slice (some ⟨g7, 0, none⟩) 4 4] W fun e w' => ∃ a k, e = .returned (.tuple #[.agg #[.int .i64 2, .string ⟨#[]⟩, .int .i64 0, .int .i64 0, .string ⟨#[]⟩, .string ⟨#[]⟩, .slice a n k, .string ⟨#[]⟩, .slice none 0 0, .int .i64 0, .slice none 0 0], .int .i64 0]) ∧ Below W.heap.size W w' := by
  refine (Walk_any pA (some ⟨g7, 0, none⟩) 4 (heldL r f l) W (ht.below h.hb) h.hh (Nat.le_refl 4)).mono fun e w' ⟨cs, h2, hb⟩ => ?_
  rw [okW_a, held_top, hro, walk_held] at h2
  rcases h2 with ⟨_, rfl, v, rfl, a, k, rfl, _, _⟩ | ⟨h3, _⟩
  · exact ⟨a, k, by rw [← hn]; rfl, hb⟩
  · exact absurd h3 (by decide)
theorem first_not (w W : World) (A : Option Addr) (c : Nat) (r : S28) (f l : Bool) (g0 g4 g5 g7 : Nat) (ht : Tabs w) (h : LastMem w A c r f l g0 g4 g5 g7 W) (hro : roleOk r.f0 r.f1 = false) :
    Calls Tryz.prog 9 #[.string ⟨#[97]⟩, .slice (some ⟨g7, 0, none⟩) 4 4] W fun e w' => e = .returned (.tuple #[.agg #[.int .i64 0, .string ⟨#[]⟩, .int .i64 0, .int .i64 0, .string ⟨#[]⟩, .string ⟨#[]⟩, .slice none 0 0, .string ⟨#[]⟩, .slice none 0 0, .int .i64 0, .slice none 0 0], .int .i64 1]) ∧ Below W.heap.size W w' := by
  refine (Walk_any pA (some ⟨g7, 0, none⟩) 4 (heldL r f l) W (ht.below h.hb) h.hh (Nat.le_refl 4)).mono fun e w' ⟨cs, h2, hb⟩ => ?_
  rw [okW_a, held_top, hro] at h2
  rcases h2 with ⟨h3, _⟩ | ⟨_, rfl, rfl⟩
  · exact absurd h3 (by decide)
  · exact ⟨rfl, hb⟩
theorem second_walk (w W : World) (A : Option Addr) (c : Nat) (r : S28) (f l : Bool) (g0 g4 g5 g7 : Nat) (ht : Tabs w) (h : LastMem w A c r f l g0 g4 g5 g7 W) (hro : roleOk r.f0 r.f1 = true) :
    Calls Tryz.prog 9 #[.string ⟨#[97]⟩, .slice (some ⟨g7, 0, none⟩) 1 4] W fun e w' => ∃ a k ai ki ak kk, e = .returned (.tuple #[.agg #[.int .i64 3, .string ⟨#[]⟩, .int .i64 0, .int .i64 0, .string ⟨#[]⟩, .string ⟨#[]⟩, .slice a 1 k, .string ⟨#[111, 110, 101]⟩, .slice ai r.f0.length ki, .int .i64 r.f1, .slice ak 0 kk], .int .i64 0]) ∧ Below W.heap.size W w' := by
  have hh : Kd.C k48 W (some ⟨g7, 0, none⟩) 1 [⟨TARGETS, topM r f l⟩] := Kd.C_take (m := 1) h.hh (by show 1 ≤ 4; decide)
  refine (Walk_any pA (some ⟨g7, 0, none⟩) 4 [⟨TARGETS, topM r f l⟩] W (ht.below h.hb) hh (by show 1 ≤ 4; decide)).mono fun e w' ⟨cs, h2, hb⟩ => ?_
  rw [okW_a, held_top1, hro, walk_top] at h2
  rcases h2 with ⟨_, rfl, v, vi, vk, rfl, ⟨a, k, rfl, _, _⟩, ⟨a2, k2, rfl, _, _⟩, ⟨a3, k3, rfl, _, _⟩⟩ | ⟨h3, _⟩
  · exact ⟨a, k, a2, k2, a3, k3, rfl, hb⟩
  · exact absurd h3 (by decide)
theorem meta_walk (w W : World) (A : Option Addr) (c : Nat) (r : S28) (f l : Bool) (g0 g4 g5 g7 : Nat) (ht : Tabs w) (h : LastMem w A c r f l g0 g4 g5 g7 W) :
    Calls Tryz.prog 16 #[.agg #[.int .i64 4, .int .i64 1, .int .i64 0, .slice none 0 0, .slice none 0 0, .string ⟨#[]⟩, .slice none 0 0, .slice (some ⟨g4, 0, none⟩) 3 3]] W fun e w' => e = .returned (.bool (roleOk r.f0 r.f1)) ∧ Below W.heap.size W w' := by
  have hm := mt_any 1 0 ⟨#[]⟩ none none none (some ⟨g4, 0, none⟩) 0 0 0 0 3 [] [] (dgs r f l) W (ht.below h.hb) (C_none _ _) (Nat.le_refl 0) (C_none _ _) h.hd (Nat.le_refl 3)
  rw [show metaOk 1 0 0 ⟨#[]⟩ [] [] (dgs r f l) = roleOk r.f0 r.f1 from meta_top r f l] at hm
  exact hm
attribute [local irreducible] roleOk dgs
set_option maxHeartbeats 8000000 in
set_option maxRecDepth 100000 in
theorem Last_any (A : Option Addr) (c : Nat) (r : S28) (f l : Bool) (w : World) (ht : Tabs w) (hl : r.f0.length ≤ c) (hC : Kd.C Kd.string w A r.f0.length r.f0) :
    Calls Tryz.prog 6 #[.agg #[.slice A r.f0.length c, .int .i64 r.f1], .bool f, .bool l] w fun e w' => e = .returned (.bool true) ∧ Below w.heap.size w w' := by
  have HM := Aside0.mk (LastMem.made w A c r f l hl hC)
  have HT := Aside0.mk ht
  have HL := Aside0.mk (fun (W : World) (hT : Tabs W) => alive_any W hT)
  clear ht hC
  go_enter Tryz.func6, Tryz.ntmps6
  go_upto_region 4 with (fail)
  change Code.wp _ _ _ _ (lastWorld w A c r f l)
  generalize lastWorld w A c r f l = W8 at HM ⊢
  generalize w.heap.size + 1 + 1 + 1 + 1 + 1 + 1 + 1 = g7 at HM ⊢
  generalize w.heap.size + 1 + 1 + 1 + 1 + 1 = g5 at HM ⊢
  generalize w.heap.size + 1 + 1 + 1 + 1 = g4 at HM ⊢
  have HG := Lib.hid (show w.heap.size = w.heap.size from rfl)
  generalize hg0 : w.heap.size = g0 at HM ⊢
  rw [← hg0]
  cases hro : roleOk r.f0 r.f1 with
  | false =>
    have HRO := Lib.hid hro
    clear hro
    go_wp2_with (first
      | (go_at_call 9; (with_reducible refine (first_not w _ A c r f l g0 g4 g5 g7 HT.out HM.out HRO.out).mono ?_); rintro e w1 ⟨rfl, hb1⟩; have M1 := Aside0.mk ((HM.out.step hb1).step (below_alloc (Below.refl _ _) (.cells #[.int .i64 0, .string ⟨#[]⟩, .int .i64 0, .int .i64 0, .string ⟨#[]⟩, .string ⟨#[]⟩, .slice none 0 0, .string ⟨#[]⟩, .slice none 0 0, .int .i64 0, .slice none 0 0] 31))); have t0 := cell_of_block M1.out.h5 0 (.int .i64 4) rfl; have t1 := cell_of_block M1.out.h5 1 (.int .i64 1) rfl; have t2 := cell_of_block M1.out.h5 2 (.int .i64 0) rfl; have t3 := cell_of_block M1.out.h5 3 (.slice none 0 0) rfl; have t4 := cell_of_block M1.out.h5 4 (.slice none 0 0) rfl; have t5 := cell_of_block M1.out.h5 5 (.string ⟨#[]⟩) rfl; have t6 := cell_of_block M1.out.h5 6 (.slice none 0 0) rfl; have t7 := cell_of_block M1.out.h5 7 (.slice (some ⟨g4, 0, none⟩) 3 3) rfl; clear hb1)
      | (go_at_call 16; (with_reducible refine (meta_walk w _ A c r f l g0 g4 g5 g7 HT.out M1.out).mono ?_); rw [HRO.out]; rintro e w2 ⟨rfl, hb2⟩; have M2 := Aside0.mk (M1.out.step hb2); clear hb2)
      | (go_at_call 12; (with_reducible refine (HL.out _ (HT.out.below M2.out.hb)).mono ?_); rintro e w3 ⟨rfl, hb3⟩; have M3 := Aside0.mk (M2.out.step hb3); clear hb3))
    go_ret
    exact ⟨rfl, M3.out.hb⟩
  | true =>
    have HRO := Lib.hid hro
    clear hro
    cases f
    · cases l
      · go_wp2_with (first
          | (go_at_call 9; (with_reducible refine (first_walk w _ A c r false false g0 g4 g5 g7 HT.out HM.out HRO.out 4 rfl).mono ?_); rintro e w1 ⟨a, k, rfl, hb1⟩; have M1 := Aside0.mk ((HM.out.step hb1).step (below_alloc (Below.refl _ _) (.cells #[.int .i64 2, .string ⟨#[]⟩, .int .i64 0, .int .i64 0, .string ⟨#[]⟩, .string ⟨#[]⟩, .slice a 4 k, .string ⟨#[]⟩, .slice none 0 0, .int .i64 0, .slice none 0 0] 31))); have HB1 := Aside0.mk (blk_new w1 (.cells #[.int .i64 2, .string ⟨#[]⟩, .int .i64 0, .int .i64 0, .string ⟨#[]⟩, .string ⟨#[]⟩, .slice a 4 k, .string ⟨#[]⟩, .slice none 0 0, .int .i64 0, .slice none 0 0] 31)); have t0 := cell_of_block M1.out.h5 0 (.int .i64 4) rfl; have t1 := cell_of_block M1.out.h5 1 (.int .i64 1) rfl; have t2 := cell_of_block M1.out.h5 2 (.int .i64 0) rfl; have t3 := cell_of_block M1.out.h5 3 (.slice none 0 0) rfl; have t4 := cell_of_block M1.out.h5 4 (.slice none 0 0) rfl; have t5 := cell_of_block M1.out.h5 5 (.string ⟨#[]⟩) rfl; have t6 := cell_of_block M1.out.h5 6 (.slice none 0 0) rfl; have t7 := cell_of_block M1.out.h5 7 (.slice (some ⟨g4, 0, none⟩) 3 3) rfl; clear hb1)
          | (go_at_call 16; (with_reducible refine (meta_walk w _ A c r false false g0 g4 g5 g7 HT.out M1.out).mono ?_); rw [HRO.out]; rintro e w2 ⟨rfl, hb2⟩; have M2 := Aside0.mk (M1.out.step hb2); have HB2 := Aside0.mk ((hb2.block _ (blk_lt HB1.out)).trans HB1.out); clear hb2)
          | (go_at_call 9; (with_reducible refine (second_walk w _ A c r false false g0 g4 g5 g7 HT.out M2.out HRO.out).mono ?_); rintro e w3 ⟨a2, k2, ai, ki, ak, kk, rfl, hb3⟩; have M3 := Aside0.mk ((M2.out.step hb3).step (below_alloc (Below.refl _ _) (.cells #[.int .i64 3, .string ⟨#[]⟩, .int .i64 0, .int .i64 0, .string ⟨#[]⟩, .string ⟨#[]⟩, .slice a2 1 k2, .string ⟨#[111, 110, 101]⟩, .slice ai r.f0.length ki, .int .i64 r.f1, .slice ak 0 kk] 31))); have HB3 := Aside0.mk (blk_alloc ((hb3.block _ (blk_lt HB2.out)).trans HB2.out) (.cells #[.int .i64 3, .string ⟨#[]⟩, .int .i64 0, .int .i64 0, .string ⟨#[]⟩, .string ⟨#[]⟩, .slice a2 1 k2, .string ⟨#[111, 110, 101]⟩, .slice ai r.f0.length ki, .int .i64 r.f1, .slice ak 0 kk] 31)); have HC3 := Aside0.mk (blk_new w3 (.cells #[.int .i64 3, .string ⟨#[]⟩, .int .i64 0, .int .i64 0, .string ⟨#[]⟩, .string ⟨#[]⟩, .slice a2 1 k2, .string ⟨#[111, 110, 101]⟩, .slice ai r.f0.length ki, .int .i64 r.f1, .slice ak 0 kk] 31)); clear hb3)
          | (go_at_call 12; (with_reducible refine (HL.out _ (HT.out.below M3.out.hb)).mono ?_); rintro e w4 ⟨rfl, hb4⟩; have M4 := Aside0.mk (M3.out.step hb4); have hx := (hb4.block _ (blk_lt HB3.out)).trans HB3.out; have hy := (hb4.block _ (blk_lt HC3.out)).trans HC3.out; have u0 := cell_of_block hx 0 (.int .i64 2) rfl; have u6 := cell_of_block hx 6 (.slice a 4 k) rfl; have v0 := cell_of_block hy 0 (.int .i64 3) rfl; have v7 := cell_of_block hy 7 (.string ⟨#[111, 110, 101]⟩) rfl; have v9 := cell_of_block hy 9 (.int .i64 r.f1) rfl; have z1 := cell_of_block M4.out.h0 1 (.int .i64 r.f1) rfl; clear hb4 hx hy))
        go_ret
        exact ⟨rfl, M4.out.hb⟩
      · go_wp2_with (first
          | (go_at_call 9; (with_reducible refine (first_walk w _ A c r false true g0 g4 g5 g7 HT.out HM.out HRO.out 3 rfl).mono ?_); rintro e w1 ⟨a, k, rfl, hb1⟩; have M1 := Aside0.mk ((HM.out.step hb1).step (below_alloc (Below.refl _ _) (.cells #[.int .i64 2, .string ⟨#[]⟩, .int .i64 0, .int .i64 0, .string ⟨#[]⟩, .string ⟨#[]⟩, .slice a 3 k, .string ⟨#[]⟩, .slice none 0 0, .int .i64 0, .slice none 0 0] 31))); have HB1 := Aside0.mk (blk_new w1 (.cells #[.int .i64 2, .string ⟨#[]⟩, .int .i64 0, .int .i64 0, .string ⟨#[]⟩, .string ⟨#[]⟩, .slice a 3 k, .string ⟨#[]⟩, .slice none 0 0, .int .i64 0, .slice none 0 0] 31)); have t0 := cell_of_block M1.out.h5 0 (.int .i64 4) rfl; have t1 := cell_of_block M1.out.h5 1 (.int .i64 1) rfl; have t2 := cell_of_block M1.out.h5 2 (.int .i64 0) rfl; have t3 := cell_of_block M1.out.h5 3 (.slice none 0 0) rfl; have t4 := cell_of_block M1.out.h5 4 (.slice none 0 0) rfl; have t5 := cell_of_block M1.out.h5 5 (.string ⟨#[]⟩) rfl; have t6 := cell_of_block M1.out.h5 6 (.slice none 0 0) rfl; have t7 := cell_of_block M1.out.h5 7 (.slice (some ⟨g4, 0, none⟩) 3 3) rfl; clear hb1)
          | (go_at_call 16; (with_reducible refine (meta_walk w _ A c r false true g0 g4 g5 g7 HT.out M1.out).mono ?_); rw [HRO.out]; rintro e w2 ⟨rfl, hb2⟩; have M2 := Aside0.mk (M1.out.step hb2); have HB2 := Aside0.mk ((hb2.block _ (blk_lt HB1.out)).trans HB1.out); clear hb2)
          | (go_at_call 9; (with_reducible refine (second_walk w _ A c r false true g0 g4 g5 g7 HT.out M2.out HRO.out).mono ?_); rintro e w3 ⟨a2, k2, ai, ki, ak, kk, rfl, hb3⟩; have M3 := Aside0.mk ((M2.out.step hb3).step (below_alloc (Below.refl _ _) (.cells #[.int .i64 3, .string ⟨#[]⟩, .int .i64 0, .int .i64 0, .string ⟨#[]⟩, .string ⟨#[]⟩, .slice a2 1 k2, .string ⟨#[111, 110, 101]⟩, .slice ai r.f0.length ki, .int .i64 r.f1, .slice ak 0 kk] 31))); have HB3 := Aside0.mk (blk_alloc ((hb3.block _ (blk_lt HB2.out)).trans HB2.out) (.cells #[.int .i64 3, .string ⟨#[]⟩, .int .i64 0, .int .i64 0, .string ⟨#[]⟩, .string ⟨#[]⟩, .slice a2 1 k2, .string ⟨#[111, 110, 101]⟩, .slice ai r.f0.length ki, .int .i64 r.f1, .slice ak 0 kk] 31)); have HC3 := Aside0.mk (blk_new w3 (.cells #[.int .i64 3, .string ⟨#[]⟩, .int .i64 0, .int .i64 0, .string ⟨#[]⟩, .string ⟨#[]⟩, .slice a2 1 k2, .string ⟨#[111, 110, 101]⟩, .slice ai r.f0.length ki, .int .i64 r.f1, .slice ak 0 kk] 31)); clear hb3)
          | (go_at_call 12; (with_reducible refine (HL.out _ (HT.out.below M3.out.hb)).mono ?_); rintro e w4 ⟨rfl, hb4⟩; have M4 := Aside0.mk (M3.out.step hb4); have hx := (hb4.block _ (blk_lt HB3.out)).trans HB3.out; have hy := (hb4.block _ (blk_lt HC3.out)).trans HC3.out; have u0 := cell_of_block hx 0 (.int .i64 2) rfl; have u6 := cell_of_block hx 6 (.slice a 3 k) rfl; have v0 := cell_of_block hy 0 (.int .i64 3) rfl; have v7 := cell_of_block hy 7 (.string ⟨#[111, 110, 101]⟩) rfl; have v9 := cell_of_block hy 9 (.int .i64 r.f1) rfl; have z1 := cell_of_block M4.out.h0 1 (.int .i64 r.f1) rfl; clear hb4 hx hy))
        go_ret
        exact ⟨rfl, M4.out.hb⟩
    · go_wp2_with (first
        | (go_at_call 9; (with_reducible refine (first_walk w _ A c r true l g0 g4 g5 g7 HT.out HM.out HRO.out 2 rfl).mono ?_); rintro e w1 ⟨a, k, rfl, hb1⟩; have M1 := Aside0.mk ((HM.out.step hb1).step (below_alloc (Below.refl _ _) (.cells #[.int .i64 2, .string ⟨#[]⟩, .int .i64 0, .int .i64 0, .string ⟨#[]⟩, .string ⟨#[]⟩, .slice a 2 k, .string ⟨#[]⟩, .slice none 0 0, .int .i64 0, .slice none 0 0] 31))); have HB1 := Aside0.mk (blk_new w1 (.cells #[.int .i64 2, .string ⟨#[]⟩, .int .i64 0, .int .i64 0, .string ⟨#[]⟩, .string ⟨#[]⟩, .slice a 2 k, .string ⟨#[]⟩, .slice none 0 0, .int .i64 0, .slice none 0 0] 31)); have t0 := cell_of_block M1.out.h5 0 (.int .i64 4) rfl; have t1 := cell_of_block M1.out.h5 1 (.int .i64 1) rfl; have t2 := cell_of_block M1.out.h5 2 (.int .i64 0) rfl; have t3 := cell_of_block M1.out.h5 3 (.slice none 0 0) rfl; have t4 := cell_of_block M1.out.h5 4 (.slice none 0 0) rfl; have t5 := cell_of_block M1.out.h5 5 (.string ⟨#[]⟩) rfl; have t6 := cell_of_block M1.out.h5 6 (.slice none 0 0) rfl; have t7 := cell_of_block M1.out.h5 7 (.slice (some ⟨g4, 0, none⟩) 3 3) rfl; clear hb1)
        | (go_at_call 16; (with_reducible refine (meta_walk w _ A c r true l g0 g4 g5 g7 HT.out M1.out).mono ?_); rw [HRO.out]; rintro e w2 ⟨rfl, hb2⟩; have M2 := Aside0.mk (M1.out.step hb2); have HB2 := Aside0.mk ((hb2.block _ (blk_lt HB1.out)).trans HB1.out); clear hb2)
        | (go_at_call 9; (with_reducible refine (second_walk w _ A c r true l g0 g4 g5 g7 HT.out M2.out HRO.out).mono ?_); rintro e w3 ⟨a2, k2, ai, ki, ak, kk, rfl, hb3⟩; have M3 := Aside0.mk ((M2.out.step hb3).step (below_alloc (Below.refl _ _) (.cells #[.int .i64 3, .string ⟨#[]⟩, .int .i64 0, .int .i64 0, .string ⟨#[]⟩, .string ⟨#[]⟩, .slice a2 1 k2, .string ⟨#[111, 110, 101]⟩, .slice ai r.f0.length ki, .int .i64 r.f1, .slice ak 0 kk] 31))); have HB3 := Aside0.mk (blk_alloc ((hb3.block _ (blk_lt HB2.out)).trans HB2.out) (.cells #[.int .i64 3, .string ⟨#[]⟩, .int .i64 0, .int .i64 0, .string ⟨#[]⟩, .string ⟨#[]⟩, .slice a2 1 k2, .string ⟨#[111, 110, 101]⟩, .slice ai r.f0.length ki, .int .i64 r.f1, .slice ak 0 kk] 31)); have HC3 := Aside0.mk (blk_new w3 (.cells #[.int .i64 3, .string ⟨#[]⟩, .int .i64 0, .int .i64 0, .string ⟨#[]⟩, .string ⟨#[]⟩, .slice a2 1 k2, .string ⟨#[111, 110, 101]⟩, .slice ai r.f0.length ki, .int .i64 r.f1, .slice ak 0 kk] 31)); clear hb3)
        | (go_at_call 12; (with_reducible refine (HL.out _ (HT.out.below M3.out.hb)).mono ?_); rintro e w4 ⟨rfl, hb4⟩; have M4 := Aside0.mk (M3.out.step hb4); have hx := (hb4.block _ (blk_lt HB3.out)).trans HB3.out; have hy := (hb4.block _ (blk_lt HC3.out)).trans HC3.out; have u0 := cell_of_block hx 0 (.int .i64 2) rfl; have u6 := cell_of_block hx 6 (.slice a 2 k) rfl; have v0 := cell_of_block hy 0 (.int .i64 3) rfl; have v7 := cell_of_block hy 7 (.string ⟨#[111, 110, 101]⟩) rfl; have v9 := cell_of_block hy 9 (.int .i64 r.f1) rfl; have z1 := cell_of_block M4.out.h0 1 (.int .i64 r.f1) rfl; clear hb4 hx hy))
      go_ret
      exact ⟨rfl, M4.out.hb⟩
end Go.Proofs.YtgcflmhlegagbaaGreatDoor.E

end
section
namespace Go.Proofs.YtgcflmhlegagbaaGreatDoor.E
open Go.RowKit Go.Lib Go.Proofs.YtgcflmhlegagbaaGreatDoorW.PrintWords
theorem last_laid {w : World} (hL : laidMetH Tryz.prog Rows.delegLastRow.laid w) (cs : Array Value) (m : X.S28) (hm : X.k28.K w m cs.toList) (f l : Bool) :
    Calls Tryz.prog 6 #[.agg cs, .bool f, .bool l] w fun e w' => e = .returned (.bool true) ∧ Below w.heap.size w w' := by
  obtain ⟨A, c, e, h1, h2⟩ := X.k28_open hm
  have ec : cs = #[.slice A m.f0.length c, .int .i64 m.f1] := Array.toList_inj.1 e
  subst ec
  exact Last_any A c m f l w (tabs_of (l := Rows.delegLastRow.laid) hL (by simp [Rows.delegLastRow]) (by simp [Rows.delegLastRow]) (by simp [Rows.delegLastRow])) h1 h2
end Go.Proofs.YtgcflmhlegagbaaGreatDoor.E

end
