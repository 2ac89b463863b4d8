/- slices.IndexFunc of files, by name. -/
import Derived.Test.YtgcflmhlegagbaaGreatDoorQ7
import Derived.Maps.OwnSet
section
set_option linter.unusedVariables false
set_option linter.unusedSimpArgs false
namespace Go.Proofs.YtgcflmhlegagbaaGreatDoor.E
open Go.RowKit Go.Lib Go.Shelf Go.Proofs.YtgcflmhlegagbaaGreatDoorW.PrintWords Go.Proofs.YtgcflmhlegagbaaGreatDoorW.PrintLast Go.Proofs.YtgcflmhlegagbaaGreatDoorW.PrintMore
open X (S25 k25 z25 rd_T25 at_T25)
/-- The place of the first file of a name; -1: there is none. -/
def fileIdx (s : ByteArray) (l : List S25) : Int := match l.findIdx? (fun x => x.f0.toList == s.toList) with | some k => (k : Int) | none => -1
theorem fileIdx_at (s : ByteArray) (l : List S25) (k : Nat) (hk : k < l.length) (h : ((l.getD k z25).f0.toList == s.toList) = true) (hb : ∀ j, j < k → ((l.getD j z25).f0.toList == s.toList) = false) : fileIdx s l = (k : Int) := by
  have e : ∀ j, (h : j < l.length) → l.getD j z25 = l[j] := fun j h => by rw [List.getD_eq_getElem?_getD, List.getElem?_eq_getElem h]; rfl
  have : l.findIdx? (fun x => x.f0.toList == s.toList) = some k := by
    rw [List.findIdx?_eq_some_iff_getElem]
    exact ⟨hk, by rw [← e k hk]; exact h, fun j hj => by rw [← e j (by omega), hb j hj]; decide⟩
  unfold fileIdx; rw [this]
theorem fileIdx_none (s : ByteArray) (l : List S25) (hb : ∀ j, j < l.length → ((l.getD j z25).f0.toList == s.toList) = false) : fileIdx s l = -1 := by
  have : l.findIdx? (fun x => x.f0.toList == s.toList) = none := by
    rw [List.findIdx?_eq_none_iff]
    intro x hx
    obtain ⟨j, hj, rfl⟩ := List.mem_iff_getElem.1 hx
    have := hb j hj
    rwa [List.getD_eq_getElem?_getD, List.getElem?_eq_getElem hj] at this
  unfold fileIdx; rw [this]
set_option maxHeartbeats 2000000 in
theorem name_any (nm s sm : ByteArray) (vr sz : Int) (B : Nat) (w : World) (hd : w.cell? ⟨B, 0, none⟩ = some (.string s)) :
    Calls Tryz.prog 21 #[.agg #[.string nm, .int .i64 vr, .int .i64 sz, .string sm], .pointer (some ⟨B, 0, none⟩)] w fun e w' => e = .returned (.bool (nm.toList == s.toList)) ∧ Below w.heap.size w w' := by
  have hd2 := ((below_alloc (Below.refl w.heap.size w) (.cells #[.string nm, .int .i64 vr, .int .i64 sz, .string sm] 25)).cell (World.block_lt_of_cell? _ _ hd)).trans hd
  go_enter Tryz.func21, Tryz.ntmps21
  go_wp2
  go_ret
  exact ⟨rfl, below_alloc (Below.refl _ _) _⟩
set_option maxHeartbeats 4000000 in
set_option maxRecDepth 100000 in
theorem fileIndex (s : ByteArray) (B : Nat) (A : Option Addr) (c : Nat) (l : List S25) (w : World) (hd : w.cell? ⟨B, 0, none⟩ = some (.string s)) (hbig : l.length ≤ 1000) (hA : Kd.C k25 w A l.length l) :
    Calls Tryz.prog 20 #[.slice A l.length c, .func (.func 21) #[] #[.pointer (some ⟨B, 0, none⟩)]] w fun e w' => e = .returned (.int .i64 (fileIdx s l)) ∧ Below w.heap.size w w' := by
  have eg : ∀ args w, (callFunc 21 args).run Tryz.prog w = .ok (.enter 21 args) w := fun a w => enters_of Tryz.func21 (by kernel_rfl) rfl a w
  go_enter Tryz.func20, Tryz.ntmps20
  go_wp2
  have HD := Aside0.mk hd
  have HA := Aside0.mk hA
  clear hd hA
  go_loopg [5, 8] l.length (fun gg _ s8 wr => ∃ kk : Nat, kk ≤ l.length ∧ l.length - kk ≤ gg ∧ s8 = .int .i64 kk ∧ Aside (Below w.heap.size w wr) ∧ Aside (∀ j, j < kk → ((l.getD j z25).f0.toList == s.toList) = false))
  case atStart => exact ⟨0, Nat.zero_le _, by omega, rfl, Below.refl _ w, fun j hj => absurd hj (Nat.not_lt_zero _)⟩
  case round =>
    obtain ⟨kk, hkk, hg, rfl, BW, A1⟩ := hrel
    by_cases hlt : kk < l.length
    · have hltz : (kk : Int) < (l.length : Int) := by omega
      obtain ⟨ad, rfl, c0, c1, c2, c3⟩ := at_T25 HA.out (kk : Int) (by omega) (by omega)
      have er : rd_T25 l kk = l.getD kk z25 := by unfold rd_T25; rw [Int.toNat_natCast]
      rw [er, Int.toNat_natCast] at c0 c1 c2 c3
      replace c0 := (BW.out.cell (World.block_lt_of_cell? w _ c0)).trans c0
      replace c1 := (BW.out.cell (World.block_lt_of_cell? w _ c1)).trans c1
      replace c2 := (BW.out.cell (World.block_lt_of_cell? w _ c2)).trans c2
      replace c3 := (BW.out.cell (World.block_lt_of_cell? w _ c3)).trans c3
      obtain ⟨x, hx⟩ : ∃ x, l.getD kk z25 = x := ⟨_, rfl⟩
      rw [hx] at c0 c1 c2 c3
      have HX := Lib.hid hx
      have hc : Calls Tryz.prog 21 #[.agg #[.string x.f0, .int .i64 x.f1, .int .i64 x.f2, .string x.f3], .pointer (some ⟨B, 0, none⟩)] wr fun e w' => e = .returned (.bool (x.f0.toList == s.toList)) ∧ Below w.heap.size w w' :=
        (name_any x.f0 s x.f3 x.f1 x.f2 B wr ((BW.out.cell (World.block_lt_of_cell? _ _ HD.out)).trans HD.out)).mono fun e w' h => ⟨h.1, below_step BW.out h.2⟩
      clear er hx
      cases hq : (x.f0.toList == s.toList) with
      | true =>
        rw [hq] at hc
        have hT : fileIdx s l = (kk : Int) := fileIdx_at s l kk hlt (by rw [HX.out]; exact hq) A1.out
        clear hq
        go_wp2_with (go_at_fn 21; refine hc.mono ?_; rintro e w' ⟨rfl, hb'⟩)
        go_ret
        exact ⟨by first | (rw [hT]; rfl) | rfl, hb'⟩
      | false =>
        rw [hq] at hc
        have HQ := Lib.hid hq
        clear hq
        go_wp2_with (go_at_fn 21; refine hc.mono ?_; rintro e w' ⟨rfl, hb'⟩)
        go_roundg (l.length - (kk + 1))
        case measure => omega
        case rel =>
          refine ⟨kk + 1, by omega, by omega, by go_num, hb', (show Aside _ from fun j hj => ?_)⟩
          by_cases e : j = kk
          · subst e
            rw [HX.out]; exact HQ.out
          · exact A1.out j (by omega)
    · have hltz : ¬ (kk : Int) < (l.length : Int) := by omega
      have hF : fileIdx s l = -1 := fileIdx_none s l (fun j hj => A1.out j (by omega))
      go_wp2
      go_ret
      exact ⟨by first | (rw [hF]; rfl) | rfl, BW.out⟩
end Go.Proofs.YtgcflmhlegagbaaGreatDoor.E
end
section
set_option linter.unusedVariables false
set_option linter.unusedSimpArgs false
namespace Go.Proofs.YtgcflmhlegagbaaGreatDoor.E
open Go.RowKit Go.Lib Go.Shelf Go.Proofs.YtgcflmhlegagbaaGreatDoorW.PrintWords Go.Proofs.YtgcflmhlegagbaaGreatDoorW.PrintLast Go.Proofs.YtgcflmhlegagbaaGreatDoorW.PrintMore
open X (S25 k25 z25 rd_T25 at_T25 S28 k28 S53 k53 z53 rd_T53 at_T53 S70 k70)
abbrev Hdr := Option Addr × Nat × Nat
def hdrK : Kd Hdr := Kd.scalar (fun h => .slice h.1 h.2.1 h.2.2) (fun _ => rfl)
/-- One that is to be asked, as it lies in memory: its slices by their headers. -/
structure Ask where
  nm : ByteArray
  ids : Hdr
  need : Int
  keys : Hdr
def askK : Kd Ask := Kd.iso (Kd.pair Kd.string (Kd.pair hdrK (Kd.pair (Kd.int .i64) hdrK))) (fun x : Ask => (x.nm, x.ids, x.need, x.keys))
def askCells (x : Ask) : List Value := [.string x.nm, .slice x.ids.1 x.ids.2.1 x.ids.2.2, .int .i64 x.need, .slice x.keys.1 x.keys.2.1 x.keys.2.2]
theorem askK_mk (w : World) (base : Nat) (ok : Nat → Prop) (x : Ask) : askK.M w base ok x (askCells x) :=
  ⟨[.string x.nm], [.slice x.ids.1 x.ids.2.1 x.ids.2.2, .int .i64 x.need, .slice x.keys.1 x.keys.2.1 x.keys.2.2], rfl, rfl, ⟨[.slice x.ids.1 x.ids.2.1 x.ids.2.2], [.int .i64 x.need, .slice x.keys.1 x.keys.2.1 x.keys.2.2], rfl, rfl, ⟨[.int .i64 x.need], [.slice x.keys.1 x.keys.2.1 x.keys.2.2], rfl, rfl, rfl⟩⟩⟩
theorem info60 : (Tryz.prog.info? 60).map (fun i => (i.zero, i.size, i.bytes)) = some (some (.agg #[.string ⟨#[]⟩, .slice none 0 0, .int .i64 0, .slice none 0 0]), 4, 72) := by kernel_rfl
/-- What is asked for d's part of the path, by metadata whose keys lie at kh. -/
def AskIs (W : World) (kh : Hdr) (a : Ask) (d : S53) : Prop := a.nm = d.f0 ∧ a.need = d.f1.f1 ∧ a.keys = kh ∧ a.ids.2.1 = d.f1.f0.length ∧ d.f1.f0.length ≤ a.ids.2.2 ∧ Kd.C Kd.string W a.ids.1 d.f1.f0.length d.f1.f0
theorem AskIs.below {W W' : World} {kh : Hdr} {a : Ask} {d : S53} (h : AskIs W kh a d) (hb : Below W.heap.size W W') : AskIs W' kh a d := ⟨h.1, h.2.1, h.2.2.1, h.2.2.2.1, h.2.2.2.2.1, Kd.C_below h.2.2.2.2.2 hb⟩
inductive AsksAre (W : World) (kh : Hdr) : List Ask → List S53 → Prop where
  | nil : AsksAre W kh [] []
  | snoc {qs ds a d} : AsksAre W kh qs ds → AskIs W kh a d → AsksAre W kh (qs ++ [a]) (ds ++ [d])
theorem AsksAre.len {W : World} {kh : Hdr} {qs : List Ask} {ds : List S53} (h : AsksAre W kh qs ds) : qs.length = ds.length := by
  induction h with
  | nil => rfl
  | snoc _ _ ih => simp [ih]
/-- Is a path one of a deleg's patterns? -/
def fitsB (path : ByteArray) (d : S53) : Bool := (G.which (dat d.f2) path.data.toList).2 == 0
/-- Those who are asked, in order; whether no others are. -/
def asksS (path : ByteArray) : List S53 → List S53 × Bool
  | [] => ([], false)
  | d :: t => if fitsB path d = true then (if d.f3 = true then ([d], true) else (d :: (asksS path t).1, (asksS path t).2)) else asksS path t
theorem asksS_split (path : ByteArray) (l : List S53) (k : Nat) (h : ∀ j, j < k → (hj : j < l.length) → fitsB path l[j] = true → l[j].f3 = false) :
    asksS path l = ((l.take k).filter (fitsB path) ++ (asksS path (l.drop k)).1, (asksS path (l.drop k)).2) := by
  induction k generalizing l with
  | zero => simp
  | succ k ih =>
    cases l with
    | nil => simp
    | cons d t =>
      have ht := ih t (fun j hj hjl hf => h (j + 1) (by omega) (by simp; omega) hf)
      have h0 := h 0 (by omega) (by simp)
      simp only [List.getElem_cons_zero] at h0
      rw [asksS, List.take_succ_cons, List.drop_succ_cons, List.filter_cons]
      by_cases hf : fitsB path d = true
      · rw [if_pos hf, if_pos hf, h0 hf, if_neg (by decide), ht]; simp
      · rw [if_neg hf, if_neg hf, ht]
theorem take_filter (path : ByteArray) (l : List S53) (k : Nat) (hk : k < l.length) : (l.take (k + 1)).filter (fitsB path) = (l.take k).filter (fitsB path) ++ (if fitsB path l[k] = true then [l[k]] else []) := by
  rw [List.take_succ_eq_append_getElem hk, List.filter_append, List.filter_cons]; rfl
theorem grown_cell {w w1 : World} {g : Option Nat} {B j : Nat} {v : Value} (hg : w.grownBy w1 g) (hne : some B ≠ g) (h : w.cell? ⟨B, j, none⟩ = some v) : w1.cell? ⟨B, j, none⟩ = some v := by
  rw [World.cell?_of_block (w := w) (hg.block B (World.block_lt_of_cell? w _ h) hne)]; exact h
attribute [local irreducible] asksS fitsB G.which
def AsksOut (w0 w : World) (kh : Hdr) (r : List S53 × Bool) (e : Ending) (w' : World) : Prop :=
  ∃ v b qs, e = .returned (.tuple #[v, .bool r.2]) ∧ w.heap.size ≤ b ∧ askK.R 60 w' b (fun _ => True) v qs ∧ AsksAre w0 kh qs r.1 ∧ Below w.heap.size w w'
set_option maxHeartbeats 8000000 in
set_option maxRecDepth 100000 in
theorem asks_any (path : ByteArray) (kd vr ex : Int) (lg : ByteArray) (Ak Ar Af Ad : Option Addr) (nk ck nr cr nf cf cd : Nat) (l : List S53) (w0 w : World) (hb0 : Below w0.heap.size w0 w) (hp : path.size < 4294967281) (hz : ∀ d ∈ l, ∀ z ∈ d.f2, z.size < 4294967281) (hln : l.length ≤ 1000) (hA : Kd.C k53 w0 Ad l.length l) :
    Calls Tryz.prog 22 #[.string path, .agg #[.int .i64 kd, .int .i64 vr, .int .i64 ex, .slice Ak nk ck, .slice Ar nr cr, .string lg, .slice Af nf cf, .slice Ad l.length cd]] w (AsksOut w0 w (Ak, nk, ck) (asksS path l)) := by
  have HB1 := Aside0.mk (below_alloc (Below.refl w.heap.size w) (.cells #[.int .i64 kd, .int .i64 vr, .int .i64 ex, .slice Ak nk ck, .slice Ar nr cr, .string lg, .slice Af nf cf, .slice Ad l.length cd] 46))
  obtain ⟨W1, hW1⟩ : ∃ W, W = w.alloc (.cells #[.int .i64 kd, .int .i64 vr, .int .i64 ex, .slice Ak nk ck, .slice Ar nr cr, .string lg, .slice Af nf cf, .slice Ad l.length cd] 46) := ⟨_, rfl⟩
  have HA := Aside0.mk hA
  have B01 := Aside0.mk (below_step hb0 HB1.out)
  have Q3 : (w.alloc (.cells #[.int .i64 kd, .int .i64 vr, .int .i64 ex, .slice Ak nk ck, .slice Ar nr cr, .string lg, .slice Af nf cf, .slice Ad l.length cd] 46)).cell? ⟨w.heap.size, 3, none⟩ = some (.slice Ak nk ck) := by simp
  have HQ3 := Aside0.mk Q3
  have hsz1 : w.heap.size ≤ (w.alloc (.cells #[.int .i64 kd, .int .i64 vr, .int .i64 ex, .slice Ak nk ck, .slice Ar nr cr, .string lg, .slice Af nf cf, .slice Ad l.length cd] 46)).heap.size := by simp
  clear hA Q3
  go_enter Tryz.func22, Tryz.ntmps22
  go_wp2
  rw [← hW1] at HB1 B01 HQ3 hsz1 ⊢
  clear hW1
  go_loopg [6, 14] l.length (fun gg s6 s14 wr => ∃ (kk : Nat) (qs : List Ask), kk ≤ l.length ∧ l.length - kk ≤ gg ∧ s14 = .int .i64 kk ∧ Aside (askK.R 60 wr W1.heap.size (fun _ => True) s6 qs) ∧ Aside (AsksAre w0 (Ak, nk, ck) qs ((l.take kk).filter (fitsB path))) ∧ Aside (Below W1.heap.size W1 wr) ∧ Aside (∀ j, j < kk → (hj : j < l.length) → fitsB path l[j] = true → l[j].f3 = false))
  case atStart => exact ⟨0, [], Nat.zero_le _, by omega, rfl, Kd.R_nil _ _ _ _ _, by rw [List.take_zero]; exact .nil, Below.refl _ _, fun j hj => absurd hj (Nat.not_lt_zero _)⟩
  case round =>
    obtain ⟨kk, qs, hkk, hg, rfl, RQ, AQ, BW, A1⟩ := hrel
    by_cases hlt : kk < l.length
    · have hltz : (kk : Int) < (l.length : Int) := by omega
      obtain ⟨ad, a1, k1, a3, k3, eAd, c0, c1, c2, c3, c4, l1, g1, l3, g3⟩ := at_T53 HA.out (kk : Int) (by omega) (by omega)
      subst eAd
      have er : rd_T53 l kk = l[kk] := by unfold rd_T53; rw [Int.toNat_natCast, List.getD_eq_getElem?_getD, List.getElem?_eq_getElem hlt]; rfl
      obtain ⟨x, hx⟩ : ∃ x, l[kk] = x := ⟨_, rfl⟩
      have hxm : x ∈ l := hx ▸ List.getElem_mem hlt
      rw [er, hx, Int.toNat_natCast] at c0 c1 c2 c3 c4
      rw [er, hx] at l1 g1 l3 g3
      replace c0 := ((below_step B01.out BW.out).cell (World.block_lt_of_cell? _ _ c0)).trans c0
      replace c1 := ((below_step B01.out BW.out).cell (World.block_lt_of_cell? _ _ c1)).trans c1
      replace c2 := ((below_step B01.out BW.out).cell (World.block_lt_of_cell? _ _ c2)).trans c2
      replace c3 := ((below_step B01.out BW.out).cell (World.block_lt_of_cell? _ _ c3)).trans c3
      replace c4 := ((below_step B01.out BW.out).cell (World.block_lt_of_cell? _ _ c4)).trans c4
      have HX := Lib.hid hx
      have BX := Aside0.mk (below_alloc (Below.refl wr.heap.size wr) (.cells #[.string x.f0, .slice a1 x.f1.f0.length k1, .int .i64 x.f1.f1, .slice a3 x.f2.length k3, .bool x.f3] 53))
      have hany := Any_any path a3 x.f2.length k3 x.f2 (wr.alloc (.cells #[.string x.f0, .slice a1 x.f1.f0.length k1, .int .i64 x.f1.f1, .slice a3 x.f2.length k3, .bool x.f3] 53)) hp (hz x hxm) rfl (C_len g3) (Kd.C_below g3 (below_step (below_step B01.out BW.out) BX.out))
      have HM0 := Aside0.mk (show (wr.alloc (.cells #[.string x.f0, .slice a1 x.f1.f0.length k1, .int .i64 x.f1.f1, .slice a3 x.f2.length k3, .bool x.f3] 53)).cell? ⟨wr.heap.size, 0, none⟩ = some (.string x.f0) by simp)
      have HM1 := Aside0.mk (show (wr.alloc (.cells #[.string x.f0, .slice a1 x.f1.f0.length k1, .int .i64 x.f1.f1, .slice a3 x.f2.length k3, .bool x.f3] 53)).cell? ⟨wr.heap.size, 1, none⟩ = some (.slice a1 x.f1.f0.length k1) by simp)
      have HM2 := Aside0.mk (show (wr.alloc (.cells #[.string x.f0, .slice a1 x.f1.f0.length k1, .int .i64 x.f1.f1, .slice a3 x.f2.length k3, .bool x.f3] 53)).cell? ⟨wr.heap.size, 2, none⟩ = some (.int .i64 x.f1.f1) by simp)
      have HM3 := Aside0.mk (show (wr.alloc (.cells #[.string x.f0, .slice a1 x.f1.f0.length k1, .int .i64 x.f1.f1, .slice a3 x.f2.length k3, .bool x.f3] 53)).cell? ⟨wr.heap.size, 3, none⟩ = some (.slice a3 x.f2.length k3) by simp)
      have HM4 := Aside0.mk (show (wr.alloc (.cells #[.string x.f0, .slice a1 x.f1.f0.length k1, .int .i64 x.f1.f1, .slice a3 x.f2.length k3, .bool x.f3] 53)).cell? ⟨wr.heap.size, 4, none⟩ = some (.bool x.f3) by simp)
      have LQ := Aside0.mk (show qs.length ≤ 1000 by
        have h1 := AQ.out.len
        have h2 := List.length_filter_le (fitsB path) (l.take kk)
        rw [List.length_take] at h2; omega)
      have HNE := Aside0.mk (show some wr.heap.size ≠ u6.ownBlock from fun e => absurd ((Kd.R_bound RQ.out).1 _ e.symm).2.2.1 (Nat.lt_irrefl _))
      have hai : AskIs w0 (Ak, nk, ck) ⟨x.f0, (a1, x.f1.f0.length, k1), x.f1.f1, (Ak, nk, ck)⟩ x := ⟨rfl, rfl, rfl, rfl, l1, g1⟩
      have hTF := take_filter path l kk hlt
      rw [hx] at hTF
      have hfd : fitsB path x = ((G.which (dat x.f2) path.data.toList).2 == 0) := by unfold fitsB; rfl
      unfold AnyOut at hany
      generalize (G.which (dat x.f2) path.data.toList).2 = q at hany hfd
      generalize (G.which (dat x.f2) path.data.toList).1 = q1 at hany
      have HANY := Aside0.mk hany
      have HAI := Aside0.mk hai
      have HTF := Lib.hid hTF
      have HFD := Lib.hid hfd
      clear hany hai hTF hfd er hx hxm g1 l1 g3 l3
      by_cases hq : q = 0
      · subst hq
        have hf : fitsB path x = true := HFD.out.trans (by decide)
        have HF := Lib.hid hf
        clear hf
        generalize hlast : x.f3 = last at *
        have HLAST := Lib.hid hlast
        clear hlast
        cases last
        · go_wp2_with (first
            | (go_at_call 17; (with_reducible refine HANY.out.mono ?_); rintro e w2 ⟨rfl, hb2⟩; have B2 := Aside0.mk (below_step (below_step BW.out BX.out) hb2); have R2 := Aside0.mk (Kd.R_below RQ.out (below_step BX.out hb2)); have m0 := (hb2.cell (World.block_lt_of_cell? _ _ HM0.out)).trans HM0.out; have m1 := (hb2.cell (World.block_lt_of_cell? _ _ HM1.out)).trans HM1.out; have m2 := (hb2.cell (World.block_lt_of_cell? _ _ HM2.out)).trans HM2.out; have m3 := (hb2.cell (World.block_lt_of_cell? _ _ HM3.out)).trans HM3.out; have m4 := (hb2.cell (World.block_lt_of_cell? _ _ HM4.out)).trans HM4.out; have q3 := (B2.out.cell (World.block_lt_of_cell? _ _ HQ3.out)).trans HQ3.out)
            | ((with_reducible refine gate_builtin (b := .append) (xs := #[.tmp 27, .tmp 35]) rfl ?_); at_builtin; refine Kd.R_append askK (w0 := W1) W1.heap.size rfl (.tmp 27) (.tmp 35) 61 60 (.agg #[.string ⟨#[]⟩, .slice none 0 0, .int .i64 0, .slice none 0 0]) 72 rfl Tryz.underlying61 info60 rfl (by decide) (by omega) u6 qs ⟨x.f0, (a1, x.f1.f0.length, k1), x.f1.f1, (Ak, nk, ck)⟩ (askCells ⟨x.f0, (a1, x.f1.f0.length, k1), x.f1.f1, (Ak, nk, ck)⟩) (fun _ => True) (fun _ => False) rfl rfl (askK_mk _ _ _ _) (fun _ hk => hk.elim) (fun _ _ => trivial) R2.out B2.out B2.out.size (by have := LQ.out; omega) ?_; intro v1 w3 r3 b3 hg3 _; have R3 := Aside0.mk r3; have B3 := Aside0.mk b3; have mm := grown_cell hg3 HNE.out m4; clear r3 b3 hg3 m0 m1 m2 m3 m4 q3))
          go_roundg (l.length - (kk + 1))
          case measure => omega
          case rel =>
            refine ⟨kk + 1, qs ++ [Ask.mk x.f0 (a1, x.f1.f0.length, k1) x.f1.f1 (Ak, nk, ck)], by omega, by omega, by go_num, (show Aside _ from R3.out), (show Aside _ from by rw [HTF.out, if_pos HF.out]; exact .snoc AQ.out HAI.out), B3.out, (show Aside _ from fun j hj hjl hf => ?_)⟩
            by_cases e : j = kk
            · subst e; rw [HX.out]; exact HLAST.out
            · exact A1.out j (by omega) hjl hf
        · go_wp2_with (first
            | (go_at_call 17; (with_reducible refine HANY.out.mono ?_); rintro e w2 ⟨rfl, hb2⟩; have B2 := Aside0.mk (below_step (below_step BW.out BX.out) hb2); have R2 := Aside0.mk (Kd.R_below RQ.out (below_step BX.out hb2)); have m0 := (hb2.cell (World.block_lt_of_cell? _ _ HM0.out)).trans HM0.out; have m1 := (hb2.cell (World.block_lt_of_cell? _ _ HM1.out)).trans HM1.out; have m2 := (hb2.cell (World.block_lt_of_cell? _ _ HM2.out)).trans HM2.out; have m3 := (hb2.cell (World.block_lt_of_cell? _ _ HM3.out)).trans HM3.out; have m4 := (hb2.cell (World.block_lt_of_cell? _ _ HM4.out)).trans HM4.out; have q3 := (B2.out.cell (World.block_lt_of_cell? _ _ HQ3.out)).trans HQ3.out)
            | ((with_reducible refine gate_builtin (b := .append) (xs := #[.tmp 27, .tmp 35]) rfl ?_); at_builtin; refine Kd.R_append askK (w0 := W1) W1.heap.size rfl (.tmp 27) (.tmp 35) 61 60 (.agg #[.string ⟨#[]⟩, .slice none 0 0, .int .i64 0, .slice none 0 0]) 72 rfl Tryz.underlying61 info60 rfl (by decide) (by omega) u6 qs ⟨x.f0, (a1, x.f1.f0.length, k1), x.f1.f1, (Ak, nk, ck)⟩ (askCells ⟨x.f0, (a1, x.f1.f0.length, k1), x.f1.f1, (Ak, nk, ck)⟩) (fun _ => True) (fun _ => False) rfl rfl (askK_mk _ _ _ _) (fun _ hk => hk.elim) (fun _ _ => trivial) R2.out B2.out B2.out.size (by have := LQ.out; omega) ?_; intro v1 w3 r3 b3 hg3 _; have R3 := Aside0.mk r3; have B3 := Aside0.mk b3; have mm := grown_cell hg3 HNE.out m4; clear r3 b3 hg3 m0 m1 m2 m3 m4 q3))
          go_ret2
          have hS := asksS_split path l kk A1.out
          have e0 : asksS path (l.drop kk) = ([x], true) := by
            rw [List.drop_eq_getElem_cons hlt, HX.out]; unfold asksS; rw [if_pos HF.out, if_pos HLAST.out]
          rw [e0] at hS
          have hA2 : AsksAre w0 (Ak, nk, ck) (qs ++ [Ask.mk x.f0 (a1, x.f1.f0.length, k1) x.f1.f1 (Ak, nk, ck)]) ((l.take kk).filter (fitsB path) ++ [x]) := .snoc AQ.out HAI.out
          exact ⟨_, W1.heap.size, _, by rw [hS]; rfl, hsz1, R3.out, by rw [hS]; exact hA2, below_step HB1.out B3.out⟩
      · have f1 : (q != 0) = true := bne_iff_ne.mpr hq
        have hf : ¬ fitsB path x = true := fun h => by rw [HFD.out] at h; exact hq (by simpa using h)
        have HF := Lib.hid hf
        clear hf hq
        go_wp2_with (first
          | (go_at_call 17; (with_reducible refine HANY.out.mono ?_); rintro e w2 ⟨rfl, hb2⟩; have B2 := Aside0.mk (below_step (below_step BW.out BX.out) hb2); have R2 := Aside0.mk (Kd.R_below RQ.out (below_step BX.out hb2)); have m0 := (hb2.cell (World.block_lt_of_cell? _ _ HM0.out)).trans HM0.out; have m1 := (hb2.cell (World.block_lt_of_cell? _ _ HM1.out)).trans HM1.out; have m2 := (hb2.cell (World.block_lt_of_cell? _ _ HM2.out)).trans HM2.out; have m3 := (hb2.cell (World.block_lt_of_cell? _ _ HM3.out)).trans HM3.out; have m4 := (hb2.cell (World.block_lt_of_cell? _ _ HM4.out)).trans HM4.out; have q3 := (B2.out.cell (World.block_lt_of_cell? _ _ HQ3.out)).trans HQ3.out))
        go_roundg (l.length - (kk + 1))
        case measure => omega
        case rel =>
          refine ⟨kk + 1, qs, by omega, by omega, by go_num, R2.out, (show Aside _ from by rw [HTF.out, if_neg HF.out, List.append_nil]; exact AQ.out), B2.out, (show Aside _ from fun j hj hjl hf => ?_)⟩
          by_cases e : j = kk
          · subst e; rw [HX.out] at hf; exact absurd hf HF.out
          · exact A1.out j (by omega) hjl hf
    · have hltz : ¬ (kk : Int) < (l.length : Int) := by omega
      go_wp2
      go_ret2
      have hS := asksS_split path l kk A1.out
      rw [List.drop_eq_nil_of_le (by omega)] at hS
      have e0 : asksS path [] = ([], false) := by unfold asksS; rfl
      rw [e0, List.append_nil] at hS
      exact ⟨_, W1.heap.size, qs, by rw [hS]; rfl, hsz1, RQ.out, by rw [hS]; exact AQ.out, below_step HB1.out BW.out⟩
end Go.Proofs.YtgcflmhlegagbaaGreatDoor.E
end
section
set_option linter.unusedVariables false
set_option linter.unusedSimpArgs false
namespace Go.Proofs.YtgcflmhlegagbaaGreatDoor.E
open Go.RowKit Go.Lib Go.Shelf Go.Maps
theorem key_str (s : ByteArray) (hs : s.size ≤ 9223372036854775807) : keyOf Tryz.prog 9 (.string s) = some (.string s.data.toList) := by
  simp [keyOf, mapKey, Tryz.underlying9, maxLen, hs]
/-- An element is read as itself: a look-up gives the very value back. -/
def selfR : Value → Option (DataW Value × List MemPlace) := fun v => some (.held v, [])
/-- What was put under a key last. -/
def lastPut (ps : List (ByteArray × Value)) (k : ByteArray) : Option Value := ps.foldl (fun o p => if p.1 = k then some p.2 else o) none
def putAll (ps : List (ByteArray × Value)) : DataW Value := ps.foldl (fun D p => D.put (.string p.1.data.toList) (.held p.2)) (.map [])
theorem putAll_snoc (ps : List (ByteArray × Value)) (p : ByteArray × Value) : putAll (ps ++ [p]) = (putAll ps).put (.string p.1.data.toList) (.held p.2) := by simp [putAll, List.foldl_append]
theorem lastPut_snoc (ps : List (ByteArray × Value)) (p : ByteArray × Value) (k : ByteArray) : lastPut (ps ++ [p]) k = if p.1 = k then some p.2 else lastPut ps k := by simp [lastPut, List.foldl_append]
theorem snoc_cases {α : Type} (l : List α) : l = [] ∨ ∃ t a, l = t ++ [a] := by
  rcases List.eq_nil_or_concat l with h | ⟨t, a, h⟩
  · exact .inl h
  · exact .inr ⟨t, a, by simpa using h⟩
theorem putAll_isMap : ∀ (n : Nat) (ps : List (ByteArray × Value)), ps.length = n → IsMap (putAll ps) := by
  intro n
  induction n with
  | zero => intro ps h; rw [List.length_eq_zero_iff.1 h]; exact isMap_empty
  | succ n ih =>
    intro ps h
    rcases snoc_cases ps with rfl | ⟨t, p, rfl⟩
    · simp at h
    · rw [putAll_snoc]; exact IsMap.put (ih t (by simpa using h)) _ _
theorem lit_ne {a b : ByteArray} (h : a ≠ b) : (Lit.string a.data.toList) ≠ (Lit.string b.data.toList) := by
  intro e
  have e1 : a.data.toList = b.data.toList := by injection e
  apply h
  cases a; cases b
  simp only [ByteArray.mk.injEq]
  exact Array.toList_inj.1 e1
theorem is_key (k : ByteArray) : WideAt.IsKeyLit (.string k.data.toList) := by simp [WideAt.IsKeyLit]
theorem putAll_look : ∀ (n : Nat) (ps : List (ByteArray × Value)), ps.length = n → ∀ (k : ByteArray) (z : Value),
    has (putAll ps) (.string k.data.toList) = (lastPut ps k).isSome ∧ (putAll ps).atKey (.string k.data.toList) (.held z) = .held ((lastPut ps k).getD z) := by
  intro n
  induction n with
  | zero => intro ps h k z; rw [List.length_eq_zero_iff.1 h]; exact ⟨rfl, rfl⟩
  | succ n ih =>
    intro ps h k z
    rcases snoc_cases ps with rfl | ⟨t, p, rfl⟩
    · simp at h
    · have ht : t.length = n := by simpa using h
      rw [putAll_snoc, lastPut_snoc]
      by_cases e : p.1 = k
      · rw [if_pos e, e]
        exact ⟨has_put_same (putAll_isMap n t ht) (is_key k) _, atKey_put_same (putAll_isMap n t ht) (is_key k) _ _⟩
      · rw [if_neg e, has_put_other (lit_ne (Ne.symm e)), atKey_put_other (lit_ne (Ne.symm e))]
        exact ih t ht k z
/-- The map in block b holds what was put. -/
def Haves (w : World) (b : Nat) (ps : List (ByteArray × Value)) : Prop := w.ownsMap Tryz.prog 9 selfR b ps.length (putAll ps)
theorem Haves.kept {w w' : World} {b : Nat} {row : Option Nat} {ps : List (ByteArray × Value)} (h : Haves w b ps) (hg : w.grownBy w' row) (hne : some b ≠ row) : Haves w' b ps := World.ownsMap.kept h hg hne
theorem Haves.made (w : World) : Haves (w.alloc (.map #[] 0)) w.heap.size [] := World.ownsMap_made w Tryz.prog 9 selfR
theorem Haves.below {w w' : World} {b : Nat} {ps : List (ByteArray × Value)} (h : Haves w b ps) (hb : Below w.heap.size w w') : Haves w' b ps := by
  obtain ⟨es, clock, h1, h2⟩ := h
  have hlt : b < w.heap.size := by
    rw [Array.getElem?_eq_some_iff] at h1; exact h1.1
  exact ⟨es, clock, (hb.block _ hlt).trans h1, h2⟩
end Go.Proofs.YtgcflmhlegagbaaGreatDoor.E
end
section
set_option linter.unusedVariables false
set_option linter.unusedSimpArgs false
namespace Go.Proofs.YtgcflmhlegagbaaGreatDoor.E
open Go.RowKit Go.Lib Go.Shelf
open X (S25 z25 S28 S53 S70 S46 S48 z48)
/-- One that is to be asked. -/
structure PAsk where
  nm : ByteArray
  role : S28
  keys : List S70
def askOf (keys : List S70) (d : S53) : PAsk := ⟨d.f0, d.f1, keys⟩
def TARGETS : ByteArray := ⟨#[116, 97, 114, 103, 101, 116, 115]⟩
def first : PAsk := ⟨TARGETS, ⟨[], 0⟩, []⟩
inductive WOut where
  | found (seen : List ByteArray) (f : S25) (by_ : ByteArray)
  | want (seen : List ByteArray) (a : PAsk)
  | none (seen : List ByteArray)
/-- What is held by a name. -/
def heldBy (held : List S48) (nm : ByteArray) : Option S48 := held.find? (fun h => h.f0.toList == nm.toList)
/-- Was one seen? -/
def wasSeen (seen : List ByteArray) (nm : ByteArray) : Bool := seen.any (fun y => nm.toList == y.toList)
def goOn (path : ByteArray) (x : S48) (t : List PAsk) : List PAsk := (asksS path x.f1.f7).1.map (askOf x.f1.f3) ++ (if (asksS path x.f1.f7).2 = true then [] else t)
def walkS (path : ByteArray) (held : List S48) (row : List PAsk) (seen : List ByteArray) : WOut :=
  match row with
  | [] => .none seen
  | a :: t =>
    if h : seen.length < 32 then
      if wasSeen seen a.nm = true then walkS path held t seen
      else match heldBy held a.nm with
        | none => .want seen a
        | some x =>
          if 0 ≤ fileIdx path x.f1.f6 then .found (seen ++ [a.nm]) (x.f1.f6.getD (fileIdx path x.f1.f6).toNat z25) a.nm
          else walkS path held (goOn path x t) (seen ++ [a.nm])
    else .none seen
termination_by (32 - seen.length, row.length)
decreasing_by
  · apply Prod.Lex.right; simp
  · apply Prod.Lex.left; simp; omega
theorem walkS_nil (path : ByteArray) (held : List S48) (seen : List ByteArray) : walkS path held [] seen = .none seen := by rw [walkS]
theorem walkS_full (path : ByteArray) (held : List S48) (row : List PAsk) (seen : List ByteArray) (h : ¬ seen.length < 32) : walkS path held row seen = .none seen := by
  cases row with
  | nil => rw [walkS]
  | cons a t => rw [walkS, dif_neg h]
theorem walkS_seen (path : ByteArray) (held : List S48) (a : PAsk) (t : List PAsk) (seen : List ByteArray) (h : seen.length < 32) (hs : wasSeen seen a.nm = true) : walkS path held (a :: t) seen = walkS path held t seen := by
  rw [walkS, dif_pos h, if_pos hs]
theorem walkS_want (path : ByteArray) (held : List S48) (a : PAsk) (t : List PAsk) (seen : List ByteArray) (h : seen.length < 32) (hs : ¬ wasSeen seen a.nm = true) (hh : heldBy held a.nm = none) : walkS path held (a :: t) seen = .want seen a := by
  rw [walkS, dif_pos h, if_neg hs, hh]
theorem walkS_found (path : ByteArray) (held : List S48) (a : PAsk) (t : List PAsk) (seen : List ByteArray) (x : S48) (h : seen.length < 32) (hs : ¬ wasSeen seen a.nm = true) (hh : heldBy held a.nm = some x) (hi : 0 ≤ fileIdx path x.f1.f6) :
    walkS path held (a :: t) seen = .found (seen ++ [a.nm]) (x.f1.f6.getD (fileIdx path x.f1.f6).toNat z25) a.nm := by
  rw [walkS, dif_pos h, if_neg hs, hh]; exact if_pos hi
theorem walkS_on (path : ByteArray) (held : List S48) (a : PAsk) (t : List PAsk) (seen : List ByteArray) (x : S48) (h : seen.length < 32) (hs : ¬ wasSeen seen a.nm = true) (hh : heldBy held a.nm = some x) (hi : ¬ 0 ≤ fileIdx path x.f1.f6) :
    walkS path held (a :: t) seen = walkS path held (goOn path x t) (seen ++ [a.nm]) := by
  rw [walkS, dif_pos h, if_neg hs, hh]; exact if_neg hi
theorem asksS_len (path : ByteArray) (l : List S53) : (asksS path l).1.length ≤ l.length := by
  induction l with
  | nil => simp [asksS]
  | cons d t ih =>
    rw [asksS]
    by_cases h1 : fitsB path d = true
    · rw [if_pos h1]
      by_cases h2 : d.f3 = true
      · rw [if_pos h2]; simp
      · rw [if_neg h2]; simpa using ih
    · rw [if_neg h1]; simp; omega
theorem goOn_len (path : ByteArray) (x : S48) (t : List PAsk) (h : x.f1.f7.length ≤ 16) : (goOn path x t).length ≤ 16 + t.length := by
  have := asksS_len path x.f1.f7
  unfold goOn
  rw [List.length_append, List.length_map]
  by_cases h2 : (asksS path x.f1.f7).2 = true
  · rw [if_pos h2]; simp; omega
  · rw [if_neg h2]; omega
end Go.Proofs.YtgcflmhlegagbaaGreatDoor.E
end
section
set_option linter.unusedVariables false
set_option linter.unusedSimpArgs false
namespace Go.Proofs.YtgcflmhlegagbaaGreatDoor.E
open Go.RowKit Go.Lib Go.Shelf Go.Proofs.YtgcflmhlegagbaaGreatDoorW.PrintWords Go.Proofs.YtgcflmhlegagbaaGreatDoorW.PrintLast Go.Proofs.YtgcflmhlegagbaaGreatDoorW.PrintMore
open X (S25 k25 z25 S28 S53 S70 S46 S48 k48 z48)
def noCells : Array Value := #[.int .i64 0, .string ⟨#[]⟩, .int .i64 0, .int .i64 0, .string ⟨#[]⟩, .string ⟨#[]⟩, .slice none 0 0, .string ⟨#[]⟩, .slice none 0 0, .int .i64 0, .slice none 0 0]
abbrev noWalk : Value := .agg noCells
/-- The result's block, as long as it is nobody else's. -/
structure Rs4 (w : World) (g4 : Nat) (c4 : Array Value) (W : World) : Prop where
  hb : Below w.heap.size w W
  h4 : W.heap[g4]? = some (.cells c4 31 (0, 0))
  l4 : w.heap.size ≤ g4
theorem lt_of_at {h : Array Obj} {g : Nat} {o : Obj} (e : h[g]? = some o) : g < h.size := (Array.getElem?_eq_some_iff.1 e).1
theorem setRow_heap (W : World) (g : Nat) (c cs : Array Value) (t : TypeId) (p : Nat × Nat) (h : W.heap[g]? = some (.cells c t p)) : (W.setRow g cs).heap[g]? = some (.cells cs t p) := by
  have hg := lt_of_at h
  have e : W.heap[g] = .cells c t p := by rw [Array.getElem?_eq_getElem hg] at h; exact Option.some.inj h
  simp [World.setRow, h, hg, Array.getElem_modify, e]
theorem Rs4.step {w : World} {g4 : Nat} {c4 : Array Value} {W W' : World} (h : Rs4 w g4 c4 W) (hb : Below W.heap.size W W') : Rs4 w g4 c4 W' :=
  ⟨below_step h.hb hb, (hb.block g4 (lt_of_at h.h4)).trans h.h4, h.l4⟩
theorem Rs4.set {w : World} {g4 : Nat} {c4 : Array Value} {W : World} (h : Rs4 w g4 c4 W) (cs : Array Value) : Rs4 w g4 cs (W.setRow g4 cs) :=
  ⟨K.below_setRow h.hb h.l4 cs, setRow_heap W g4 c4 cs 31 (0, 0) h.h4, h.l4⟩
theorem store31 {ops : Array Oper} {rest : List Oper} {o : Oper} {act : Act} {W : World} {Q : Exit → Act → World → Prop} (hgd : o.guard = none) (x y : Operand) (ho : o.op = .store 31 x y) (g : Nat) (cs : Array Value)
    (hx : act.eval x = .pointer (some ⟨g, 0, none⟩)) (hy : act.eval y = .agg cs) (hs : cs.size = 11) (h1 : cs.all (·.oneCell') = true) {c4 : Array Value} (h4 : c4.size = 11) (hg : W.heap[g]? = some (.cells c4 31 (0, 0)))
    (h : ∀ W', W' = W.setRow g cs → wpList Tryz.prog ops Q rest (act.put o.dst undef) W') : wpList Tryz.prog ops Q (o :: rest) act W :=
  wpList_store_row hgd 31 x y ho g _ hx hy 31 _ hg (by rw [hs]; kernel_rfl) (by rw [h4, hs]) h1 (h _ rfl)
attribute [local irreducible] heldOk
set_option maxHeartbeats 4000000 in
set_option maxRecDepth 100000 in
theorem Walk_not (path : ByteArray) (A : Option Addr) (c : Nat) (l : List S48) (w : World) (ht : Tabs w) (hA : Kd.C k48 w A l.length l) (hlc : l.length ≤ c) (hno : ¬ (G.right false path.data.toList = true ∧ heldOk l = true)) :
    Calls Tryz.prog 9 #[.string path, .slice A l.length c] w fun e w' => e = .returned (.tuple #[noWalk, .int .i64 1]) ∧ Below w.heap.size w w' := by
  have HP_ := fun W => Path_all path W
  have hu31 := Tryz.underlying31
  have HR := fun W (hb : Below w.heap.size w W) => Held_any A c l W (ht.below hb) (Kd.C_below hA hb) hlc
  have HNO := Lib.hid hno
  clear hno
  generalize hp : G.right false path.data.toList = p at *
  generalize hr : heldOk l = r at *
  have HPP := Lib.hid hp
  have HRR := Lib.hid hr
  clear hp hr
  have HB0 := Aside0.mk (Below.refl w.heap.size w)
  cases p
  · go_enter Tryz.func9, Tryz.ntmps9
    go_wp2_with (first
      | ((with_reducible refine gate_dst (N := 4) rfl ?_); refine box_event ?hg (N := 4) ?hd (cs := noCells) (t := 31) ?hr ?_; (case hd => rfl); (case hg => rfl); (case hr => first | (go_simp; done) | (go_simp; rfl)); intro g4 eg4 Wg4 hxg4 hbg4; have mp : Wg4.cell? ⟨w.heap.size, 0, none⟩ = some (.string path) := (hbg4.cell (by simp)).trans (by simp); have HP := Aside0.mk (show Rs4 w g4 noCells Wg4 from ⟨below_step (below_alloc (Below.refl _ _) _) hbg4, hxg4, by simp at eg4; omega⟩); clear hxg4 hbg4 eg4)
      | (go_at_call 18; (with_reducible refine (HP_ _).mono ?_); rintro e w2 ⟨rfl, hb2⟩; have n0_ := Aside0.mk (HP.out.step hb2); clear HP; have HP := n0_; clear n0_ hb2)
      | ((with_reducible refine gate_store (t := 31) (p := 4) (v := .tmp 25) rfl ?_); refine store31 rfl _ _ rfl g4 noCells rfl rfl rfl (by simp [noCells, Value.oneCell']) rfl HP.out.h4 ?_; intro WZ hWZ; have n0_ := Aside0.mk (hWZ ▸ HP.out.set noCells); clear HP hWZ; have HP := n0_; clear n0_))
    refine bodyPost_ret (results_ct rfl _ _ g4 31 noCells (0, 0) _ rfl HP.out.h4 hu31 rfl (by kernel_rfl)) rfl ?_
    exact ⟨rfl, HP.out.hb⟩
  · cases r
    · go_enter Tryz.func9, Tryz.ntmps9
      go_wp2_with (first
        | ((with_reducible refine gate_dst (N := 4) rfl ?_); refine box_event ?hg (N := 4) ?hd (cs := noCells) (t := 31) ?hr ?_; (case hd => rfl); (case hg => rfl); (case hr => first | (go_simp; done) | (go_simp; rfl)); intro g4 eg4 Wg4 hxg4 hbg4; have mp : Wg4.cell? ⟨w.heap.size, 0, none⟩ = some (.string path) := (hbg4.cell (by simp)).trans (by simp); have HP := Aside0.mk (show Rs4 w g4 noCells Wg4 from ⟨below_step (below_alloc (Below.refl _ _) _) hbg4, hxg4, by simp at eg4; omega⟩); clear hxg4 hbg4 eg4)
        | (go_at_call 18; (with_reducible refine (HP_ _).mono ?_); rintro e w2 ⟨rfl, hb2⟩; have n0_ := Aside0.mk (HP.out.step hb2); clear HP; have HP := n0_; clear n0_ hb2)
        | (go_at_call 11; (with_reducible refine (HR _ HP.out.hb).mono ?_); rintro e w2 ⟨rfl, hb2⟩; have n0_ := Aside0.mk (HP.out.step hb2); clear HP; have HP := n0_; clear n0_ hb2)
        | ((with_reducible refine gate_store (t := 31) (p := 4) (v := .tmp 25) rfl ?_); refine store31 rfl _ _ rfl g4 noCells rfl rfl rfl (by simp [noCells, Value.oneCell']) rfl HP.out.h4 ?_; intro WZ hWZ; have n0_ := Aside0.mk (hWZ ▸ HP.out.set noCells); clear HP hWZ; have HP := n0_; clear n0_))
      refine bodyPost_ret (results_ct rfl _ _ g4 31 noCells (0, 0) _ rfl HP.out.h4 hu31 rfl (by kernel_rfl)) rfl ?_
      exact ⟨rfl, HP.out.hb⟩
    · exact absurd ⟨rfl, rfl⟩ HNO.out
end Go.Proofs.YtgcflmhlegagbaaGreatDoor.E
end
section
set_option linter.unusedVariables false
set_option linter.unusedSimpArgs false
namespace Go.Proofs.YtgcflmhlegagbaaGreatDoor.E
open Go.RowKit Go.Lib Go.Shelf Go.Proofs.YtgcflmhlegagbaaGreatDoorW.PrintWords Go.Proofs.YtgcflmhlegagbaaGreatDoorW.PrintLast Go.Proofs.YtgcflmhlegagbaaGreatDoorW.PrintMore
open X (S25 k25 z25 S28 k28 S53 k53 S70 k70 S46 S48 k48 z48)
/-- A value is a metadata's. -/
def MetaIs (w : World) (v : Value) (m : S46) : Prop := ∃ a3 k3 a4 k4 a6 k6 a7 k7,
  v = .agg #[.int .i64 m.f0, .int .i64 m.f1, .int .i64 m.f2, .slice a3 m.f3.length k3, .slice a4 m.f4.length k4, .string m.f5, .slice a6 m.f6.length k6, .slice a7 m.f7.length k7] ∧
  m.f3.length ≤ k3 ∧ Kd.C k70 w a3 m.f3.length m.f3 ∧ m.f4.length ≤ k4 ∧ Kd.C k28 w a4 m.f4.length m.f4 ∧ m.f6.length ≤ k6 ∧ Kd.C k25 w a6 m.f6.length m.f6 ∧ m.f7.length ≤ k7 ∧ Kd.C k53 w a7 m.f7.length m.f7
inductive PairsAre (w : World) : List (ByteArray × Value) → List S48 → Prop where
  | nil : PairsAre w [] []
  | snoc {ps xs nm v x} : PairsAre w ps xs → nm = x.f0 → MetaIs w v x.f1 → PairsAre w (ps ++ [(nm, v)]) (xs ++ [x])
/-- The one that was put last under a name. -/
def lastBy (xs : List S48) (nm : ByteArray) : Option S48 := xs.foldl (fun o x => if x.f0 = nm then some x else o) none
theorem lastBy_snoc (xs : List S48) (x : S48) (nm : ByteArray) : lastBy (xs ++ [x]) nm = if x.f0 = nm then some x else lastBy xs nm := by simp [lastBy, List.foldl_append]
theorem PairsAre.look {w : World} {ps : List (ByteArray × Value)} {xs : List S48} (h : PairsAre w ps xs) (nm : ByteArray) :
    (lastPut ps nm = none ∧ lastBy xs nm = none) ∨ ∃ v x, lastPut ps nm = some v ∧ lastBy xs nm = some x ∧ MetaIs w v x.f1 ∧ x ∈ xs := by
  induction h with
  | nil => exact .inl ⟨rfl, rfl⟩
  | @snoc ps xs n v x _ e hm ih =>
    subst e
    rw [lastPut_snoc, lastBy_snoc]
    by_cases e : x.f0 = nm
    · rw [if_pos e, if_pos e]; exact .inr ⟨v, x, rfl, rfl, hm, by simp⟩
    · rw [if_neg e, if_neg e]
      rcases ih with ⟨h1, h2⟩ | ⟨v', x', h1, h2, h3, h4⟩
      · exact .inl ⟨h1, h2⟩
      · exact .inr ⟨v', x', h1, h2, h3, by simp [h4]⟩
end Go.Proofs.YtgcflmhlegagbaaGreatDoor.E
end
section
set_option linter.unusedVariables false
set_option linter.unusedSimpArgs false
namespace Go.Proofs.YtgcflmhlegagbaaGreatDoor.E
open Go.RowKit Go.Lib Go.Shelf
open X (S48 z48)
/-- No two names are the same. -/
def Unlike (l : List S48) : Prop := ∀ i j, (hi : i < j) → (hj : j < l.length) → (l[i]'(Nat.lt_trans hi hj)).f0 ≠ l[j].f0
theorem bytes_ext {a b : ByteArray} (h : a.toList = b.toList) : a = b := by
  rw [S.toList_list, S.toList_list] at h
  cases a; cases b
  simp only [ByteArray.mk.injEq]
  exact Array.toList_inj.1 h
theorem heldBy_cons (x : S48) (t : List S48) (nm : ByteArray) : heldBy (x :: t) nm = if x.f0 = nm then some x else heldBy t nm := by
  unfold heldBy
  rw [List.find?_cons]
  by_cases e : x.f0 = nm
  · subst e; simp
  · have : (x.f0.toList == nm.toList) = false := beq_eq_false_iff_ne.mpr (fun h => e (bytes_ext h))
    rw [this, if_neg e]
theorem heldBy_none {l : List S48} {nm : ByteArray} (h : ∀ x ∈ l, x.f0 ≠ nm) : heldBy l nm = none := by
  induction l with
  | nil => rfl
  | cons x t ih => rw [heldBy_cons, if_neg (h x (by simp))]; exact ih (fun y hy => h y (by simp [hy]))
theorem lastBy_from (l : List S48) (nm : ByteArray) : ∀ o : Option S48, (∀ x ∈ l, x.f0 ≠ nm) → l.foldl (fun o x => if x.f0 = nm then some x else o) o = o := by
  induction l with
  | nil => intro o _; rfl
  | cons x t ih => intro o h; rw [List.foldl_cons, if_neg (h x (by simp))]; exact ih o (fun y hy => h y (by simp [hy]))
theorem lastBy_heldBy (l : List S48) (nm : ByteArray) (hu : Unlike l) : lastBy l nm = heldBy l nm := by
  induction l with
  | nil => rfl
  | cons x t ih =>
    have hut : Unlike t := fun i j hij hj => by
      have := hu (i + 1) (j + 1) (by omega) (by simp; omega)
      simpa using this
    rw [heldBy_cons]
    unfold lastBy
    rw [List.foldl_cons]
    by_cases e : x.f0 = nm
    · rw [if_pos e, if_pos e]
      refine lastBy_from t nm _ (fun y hy h => ?_)
      obtain ⟨j, hj, rfl⟩ := List.mem_iff_getElem.1 hy
      have := hu 0 (j + 1) (by omega) (by simp; omega)
      simp at this
      exact this (e.trans h.symm)
    · rw [if_neg e, if_neg e]; exact ih hut
theorem heldOk_at {l : List S48} (h : heldOk l = true) (k : Nat) (hk : k < l.length) : heldAt l k l[k] = true := by
  unfold heldOk at h
  rw [Bool.and_eq_true] at h
  unfold allK at h
  have := List.all_eq_true.1 h.2 k (List.mem_range.2 hk)
  rwa [List.getD_eq_getElem?_getD, List.getElem?_eq_getElem hk] at this
theorem heldOk_len {l : List S48} (h : heldOk l = true) : l.length ≤ 32 := by
  unfold heldOk at h
  rw [Bool.and_eq_true] at h
  exact of_decide_eq_true h.1
theorem heldOk_unlike {l : List S48} (h : heldOk l = true) : Unlike l := by
  intro i j hi hj e
  have h1 := heldOk_at h j hj
  unfold heldAt at h1
  rw [Bool.and_eq_true] at h1
  have h2 := h1.2
  rw [Bool.not_eq_true', List.any_eq_false] at h2
  refine h2 (l[i]'(Nat.lt_trans hi hj)) ?_ (by rw [e]; simp)
  rw [List.mem_take_iff_getElem]
  exact ⟨i, by omega, rfl⟩
end Go.Proofs.YtgcflmhlegagbaaGreatDoor.E
end
section
set_option linter.unusedVariables false
set_option linter.unusedSimpArgs false
namespace Go.Proofs.YtgcflmhlegagbaaGreatDoor.E
open Go.RowKit Go.Lib Go.Shelf Go.Proofs.YtgcflmhlegagbaaGreatDoorW.PrintWords Go.Proofs.YtgcflmhlegagbaaGreatDoorW.PrintLast Go.Proofs.YtgcflmhlegagbaaGreatDoorW.PrintMore
open X (S25 k25 z25 S28 k28 S53 k53 S70 k70 S46 S48 k48 z48)
/-- A slice's header, of a row that lies in memory. -/
def SliceIs {α : Type} (d : Kd α) (W : World) (v : Value) (l : List α) : Prop := ∃ a k, v = .slice a l.length k ∧ l.length ≤ k ∧ d.C W a l.length l
theorem SliceIs.nil {α : Type} (d : Kd α) (W : World) : SliceIs d W (.slice none 0 0) [] := ⟨none, 0, rfl, Nat.le_refl _, rfl, by simp, fun h => absurd h (by simp)⟩
theorem SliceIs.below {α : Type} {d : Kd α} {W W' : World} {v : Value} {l : List α} (h : SliceIs d W v l) (hb : Below W.heap.size W W') : SliceIs d W' v l := by
  obtain ⟨a, k, e, h1, h2⟩ := h
  exact ⟨a, k, e, h1, Kd.C_below h2 hb⟩
def outCells (state : Int) (f : S25) (by_ : ByteArray) (seen : Value) (want : ByteArray) (ids : Value) (need : Int) (keys : Value) : Array Value :=
  #[.int .i64 state, .string f.f0, .int .i64 f.f1, .int .i64 f.f2, .string f.f3, .string by_, seen, .string want, ids, .int .i64 need, keys]
def WalkIs (W : World) (cs : Array Value) : WOut → Prop
  | .found seen f by_ => ∃ v, cs = outCells 1 f by_ v ⟨#[]⟩ (.slice none 0 0) 0 (.slice none 0 0) ∧ SliceIs Kd.string W v seen
  | .want seen a => ∃ v vi vk, cs = outCells 3 z25 ⟨#[]⟩ v a.nm vi a.role.f1 vk ∧ SliceIs Kd.string W v seen ∧ SliceIs Kd.string W vi a.role.f0 ∧ SliceIs k70 W vk a.keys
  | .none seen => ∃ v, cs = outCells 2 z25 ⟨#[]⟩ v ⟨#[]⟩ (.slice none 0 0) 0 (.slice none 0 0) ∧ SliceIs Kd.string W v seen
end Go.Proofs.YtgcflmhlegagbaaGreatDoor.E
end
section
set_option linter.unusedVariables false
set_option linter.unusedSimpArgs false
namespace Go.Proofs.YtgcflmhlegagbaaGreatDoor.E
open Go.RowKit Go.Lib Go.Shelf Go.Proofs.YtgcflmhlegagbaaGreatDoorW.PrintWords Go.Proofs.YtgcflmhlegagbaaGreatDoorW.PrintLast Go.Proofs.YtgcflmhlegagbaaGreatDoorW.PrintMore
open X (S25 k25 z25 S28 k28 S53 k53 S70 k70 S46 S48 k48 z48)
structure L1 (w : World) (g4 g6 : Nat) (path : ByteArray) (xs : List S48) (W : World) : Prop where
  rs : Rs4 w g4 noCells W
  mp : W.cell? ⟨w.heap.size, 0, none⟩ = some (.string path)
  hv : ∃ ps, Haves W g6 ps ∧ PairsAre w ps xs ∧ ps.length = xs.length
  l6 : w.heap.size ≤ g6
  n46 : g4 ≠ g6
  nm6 : w.heap.size ≠ g6
theorem L1.step {w : World} {g4 g6 : Nat} {path : ByteArray} {xs : List S48} {W W' : World} (h : L1 w g4 g6 path xs W) (hb : Below W.heap.size W W') : L1 w g4 g6 path xs W' := by
  obtain ⟨ps, h1, h2, h3⟩ := h.hv
  exact ⟨h.rs.step hb, (hb.cell (World.block_lt_of_cell? _ _ h.mp)).trans h.mp, ⟨ps, h1.below hb, h2, h3⟩, h.l6, h.n46, h.nm6⟩
theorem L1.made {w : World} {g4 : Nat} {path : ByteArray} {W : World} (h : Rs4 w g4 noCells W) (mp : W.cell? ⟨w.heap.size, 0, none⟩ = some (.string path)) : L1 w g4 W.heap.size path [] (W.alloc (.map #[] 0)) := by
  have hb := below_alloc (Below.refl W.heap.size W) (.map #[] 0)
  exact ⟨h.step hb, (hb.cell (World.block_lt_of_cell? _ _ mp)).trans mp, ⟨[], Haves.made W, .nil, rfl⟩, h.hb.size, Nat.ne_of_lt (lt_of_at h.h4), Nat.ne_of_lt (World.block_lt_of_cell? _ _ mp)⟩
theorem L1.put {w : World} {g4 g6 : Nat} {path : ByteArray} {xs : List S48} {W W' : World} (h : L1 w g4 g6 path xs W) {ps : List (ByteArray × Value)} {x : S48} {v : Value} (h2 : PairsAre w ps xs) (h3 : ps.length = xs.length)
    (ho : W'.ownsMap Tryz.prog 9 selfR g6 (ps.length + 1) ((putAll ps).put (.string x.f0.data.toList) (.held v))) (hg : W.grownBy W' (some g6)) (hm : MetaIs w v x.f1) : L1 w g4 g6 path (xs ++ [x]) W' := by
  have h4 := h.rs.h4
  refine ⟨⟨h.rs.hb.grown hg h.rs.hb.size (fun k e => by cases e; exact h.l6), (hg.block g4 (lt_of_at h4) (by simp [h.n46])).trans h4, h.rs.l4⟩, ?_, ⟨ps ++ [(x.f0, v)], ?_, .snoc h2 rfl hm, by simp [h3]⟩, h.l6, h.n46, h.nm6⟩
  · exact (World.cell?_of_block (w := W) (hg.block _ (World.block_lt_of_cell? _ _ h.mp) (by simp [h.nm6]))).trans h.mp
  · unfold Haves
    rw [putAll_snoc, List.length_append]
    exact ho
end Go.Proofs.YtgcflmhlegagbaaGreatDoor.E
end
section
set_option linter.unusedVariables false
set_option linter.unusedSimpArgs false
namespace Go.Proofs.YtgcflmhlegagbaaGreatDoor.E
open Go.RowKit Go.Lib Go.Shelf Go.Proofs.YtgcflmhlegagbaaGreatDoorW.PrintWords Go.Proofs.YtgcflmhlegagbaaGreatDoorW.PrintLast Go.Proofs.YtgcflmhlegagbaaGreatDoorW.PrintMore
open X (S25 k25 z25 S28 k28 S53 k53 S70 k70 S46 S48 k48 z48)
theorem grown_of_below {W W' : World} (hb : Below W.heap.size W W') : W.grownBy W' none := ⟨hb.os, hb.tape, hb.output, hb.size, fun k hk _ => hb.block k hk⟩
theorem grown_set (W : World) (g j : Nat) (v : Value) : W.grownBy (W.setCell ⟨g, j, none⟩ v) (some g) :=
  ⟨by simp [World.setCell], by simp [World.setCell], by simp [World.setCell], by simp [World.setCell], fun k hk hne => Below.heap_setCell W ⟨g, j, none⟩ v k (fun e => hne (by rw [e]))⟩
/-- A row that is read is as it was, where its block is. -/
theorem C_block {α : Type} {d : Kd α} {W W' : World} {A : Option Addr} {n : Nat} {xs : List α} (h : d.C W A n xs) (hK : ∀ x cs, d.K W x cs → d.K W' x cs) (hb : ∀ ad, A = some ad → 0 < n → W'.heap[ad.block]? = W.heap[ad.block]?) : d.C W' A n xs := by
  refine ⟨h.1, h.2.1, fun hn => ?_⟩
  obtain ⟨ad, e, hc⟩ := h.2.2 hn
  refine ⟨ad, e, fun j p hj => ?_⟩
  obtain ⟨c, hs, hr, hcell⟩ := hc j p hj
  refine ⟨c, hs, hK _ _ hr, fun i u hu => ?_⟩
  rw [← hcell i u hu]
  exact World.cell?_of_block (by rw [add_block]; exact hb ad e hn)
def workCells (sv : Value) : Array Value := outCells 0 z25 ⟨#[]⟩ sv ⟨#[]⟩ (.slice none 0 0) 0 (.slice none 0 0)
structure L2 (w : World) (B g4 g6 g9 : Nat) (path : ByteArray) (ps : List (ByteArray × Value)) (c9 : Array Value) (sv : Value) (seen : List ByteArray) (A : Option Addr) (row : List Ask) (W : World) : Prop where
  rs : Rs4 w g4 noCells W
  mp : W.cell? ⟨w.heap.size, 0, none⟩ = some (.string path)
  hv : Haves W g6 ps
  h9 : W.heap[g9]? = some (.cells c9 31 (0, 0))
  n0 : w.heap.size < g9
  n4 : g4 < g9
  n6 : g6 < g9
  n9 : g9 < B
  nB : B ≤ W.heap.size
  sr : Kd.string.R 9 W B (fun _ => True) sv seen
  rc : askK.C W A row.length row
  rt : ∀ ad, A = some ad → 0 < row.length → ∃ cells, W.heap[ad.block]? = some (.cells cells 60 (0, 0))
section
variable {w : World} {B g4 g6 g9 : Nat} {path : ByteArray} {ps : List (ByteArray × Value)} {c9 : Array Value} {sv : Value} {seen : List ByteArray} {A : Option Addr} {row : List Ask} {W W' : World}
theorem L2.own (h : L2 w B g4 g6 g9 path ps c9 sv seen A row W) (k : Nat) (hk : sv.ownBlock = some k) : B ≤ k ∧ k < W.heap.size ∧ ∃ cells, W.heap[k]? = some (.cells cells 9 (0, 0)) := by
  have h1 := (Kd.R_bound h.sr).1 k hk
  exact ⟨h1.2.1, h1.2.2.1, Kd.R_typed h.sr k hk⟩
theorem L2.move (h : L2 w B g4 g6 g9 path ps c9 sv seen A row W) {ex : Option Nat} (hg : W.grownBy W' ex) (hB : ∀ k, ex = some k → B ≤ k)
    {sv' : Value} {seen' : List ByteArray} (sr : Kd.string.R 9 W' B (fun _ => True) sv' seen') (hr : ∀ ad, A = some ad → 0 < row.length → some ad.block ≠ ex) : L2 w B g4 g6 g9 path ps c9 sv' seen' A row W' := by
  have n0 := h.n0; have n4 := h.n4; have n6 := h.n6; have n9 := h.n9; have nB := h.nB
  have hne : ∀ g, g < B → some g ≠ ex := fun g hlt e => by have := hB g e.symm; omega
  have hl : ∀ g, A = some g → 0 < row.length → W'.heap[g.block]? = W.heap[g.block]? := fun g e hn => by
    obtain ⟨cells, hc⟩ := h.rt g e hn
    exact hg.block _ (blk_lt hc) (hr g e hn)
  refine ⟨⟨h.rs.hb.grown hg h.rs.hb.size (fun k e => by have := hB k e; omega), (hg.block g4 (by omega) (hne g4 (by omega))).trans h.rs.h4, h.rs.l4⟩, ?_, h.hv.kept hg (hne g6 (by omega)), (hg.block g9 (by omega) (hne g9 (by omega))).trans h.h9, n0, n4, n6, n9, Nat.le_trans nB hg.size, sr, C_block h.rc (fun _ _ hk => hk) hl, fun ad e hn => ?_⟩
  · exact (World.cell?_of_block (w := W) (hg.block _ (by show w.heap.size < _; omega) (hne _ (by show w.heap.size < _; omega)))).trans h.mp
  · obtain ⟨cells, hc⟩ := h.rt ad e hn
    exact ⟨cells, (hl ad e hn).trans hc⟩
theorem L2.step (h : L2 w B g4 g6 g9 path ps c9 sv seen A row W) (hb : Below W.heap.size W W') : L2 w B g4 g6 g9 path ps c9 sv seen A row W' :=
  h.move (grown_of_below hb) (fun k e => by cases e) (Kd.R_below h.sr hb) (fun ad _ _ e => by cases e)
theorem L2.app (h : L2 w B g4 g6 g9 path ps c9 sv seen A row W) (hg : W.grownBy W' sv.ownBlock) {sv' : Value} {seen' : List ByteArray} (sr : Kd.string.R 9 W' B (fun _ => True) sv' seen') : L2 w B g4 g6 g9 path ps c9 sv' seen' A row W' :=
  h.move hg (fun k e => (h.own k e).1) sr (fun ad e hn e2 => by
    obtain ⟨cells, hc⟩ := h.rt ad e hn
    obtain ⟨_, _, cells', hc'⟩ := h.own _ e2.symm
    rw [hc] at hc'
    injection hc' with hc'
    injection hc' with _ hc'
    exact absurd hc' (by decide))
theorem L2.put9 (h : L2 w B g4 g6 g9 path ps c9 sv seen A row W) (j : Nat) (v : Value) {c9' : Array Value} (e9 : c9.setIfInBounds j v = c9') : L2 w B g4 g6 g9 path ps c9' sv seen A row (W.setCell ⟨g9, j, none⟩ v) := by
  have n0 := h.n0; have n4 := h.n4; have n6 := h.n6; have n9 := h.n9; have nB := h.nB
  have hg := grown_set W g9 j v
  have hsz : (W.setCell ⟨g9, j, none⟩ v).heap.size = W.heap.size := by simp [World.setCell]
  have hl : ∀ g, A = some g → 0 < row.length → (W.setCell ⟨g9, j, none⟩ v).heap[g.block]? = W.heap[g.block]? := fun g e hn => by
    obtain ⟨cells, hc⟩ := h.rt g e hn
    refine hg.block _ (blk_lt hc) (fun e2 => ?_)
    injection e2 with e2
    have h9 := h.h9
    rw [← e2, hc] at h9
    injection h9 with h9
    injection h9 with _ h9
    exact absurd h9 (by decide)
  refine ⟨⟨h.rs.hb.grown hg h.rs.hb.size (fun k e => by cases e; omega), (hg.block g4 (by omega) (by simp; omega)).trans h.rs.h4, h.rs.l4⟩, ?_, h.hv.kept hg (by simp; omega), blk_put h.h9 j v e9, n0, n4, n6, n9, by omega, ?_, C_block h.rc (fun _ _ hk => hk) hl, fun ad e hn => ?_⟩
  · exact (World.cell?_of_block (w := W) (hg.block _ (by show w.heap.size < _; omega) (by simp; omega))).trans h.mp
  · exact Kd.R_mono (Kd.R_far (p := ⟨g9, j, none⟩) (Kd.R_bound h.sr) (fun k hk => by have := hk.2.1; show k ≠ g9; omega) v) (fun _ hk => hk.1)
  · obtain ⟨cells, hc⟩ := h.rt ad e hn
    exact ⟨cells, (hl ad e hn).trans hc⟩
theorem L2.rowTo (h : L2 w B g4 g6 g9 path ps c9 sv seen A row W) {A' : Option Addr} {row' : List Ask} (rc : askK.C W A' row'.length row') (rt : ∀ ad, A' = some ad → 0 < row'.length → ∃ cells, W.heap[ad.block]? = some (.cells cells 60 (0, 0))) : L2 w B g4 g6 g9 path ps c9 sv seen A' row' W :=
  ⟨h.rs, h.mp, h.hv, h.h9, h.n0, h.n4, h.n6, h.n9, h.nB, h.sr, rc, rt⟩
/-- A cell of a block that is known. -/
theorem cell_of_block {W : World} {g : Nat} {cs : Array Value} {t : TypeId} (h : W.heap[g]? = some (.cells cs t (0, 0))) (j : Nat) (v : Value) (e : cs[j]? = some v) : W.cell? ⟨g, j, none⟩ = some v := by
  simp [World.cell?, h, e]
end
/-- One that is to be asked, in memory, and as it is told. -/
def AskP (w : World) (a : Ask) (p : PAsk) : Prop := a.nm = p.nm ∧ a.need = p.role.f1 ∧ (a.ids.2.1 = p.role.f0.length ∧ p.role.f0.length ≤ a.ids.2.2 ∧ Kd.C Kd.string w a.ids.1 p.role.f0.length p.role.f0) ∧ (a.keys.2.1 = p.keys.length ∧ p.keys.length ≤ a.keys.2.2 ∧ Kd.C k70 w a.keys.1 p.keys.length p.keys)
inductive RowIs (w : World) : List Ask → List PAsk → Prop where
  | nil : RowIs w [] []
  | cons {a p t u} : AskP w a p → RowIs w t u → RowIs w (a :: t) (p :: u)
theorem RowIs.append {w : World} {a b : List Ask} {p q : List PAsk} (h : RowIs w a p) (k : RowIs w b q) : RowIs w (a ++ b) (p ++ q) := by
  induction h with
  | nil => exact k
  | cons h _ ih => exact .cons h ih
theorem RowIs.len {w : World} {a : List Ask} {p : List PAsk} (h : RowIs w a p) : a.length = p.length := by
  induction h with
  | nil => rfl
  | cons _ _ ih => simp [ih]
theorem RowIs.of_asks {w : World} {kh : Hdr} {keys : List S70} {qs : List Ask} {ds : List S53} (h : AsksAre w kh qs ds) (h1 : kh.2.1 = keys.length) (h2 : keys.length ≤ kh.2.2) (h3 : Kd.C k70 w kh.1 keys.length keys) : RowIs w qs (ds.map (askOf keys)) := by
  induction h with
  | nil => exact .nil
  | @snoc qs ds a d _ ha ih =>
    rw [List.map_append]
    refine ih.append (.cons ⟨ha.1, ha.2.1, ⟨ha.2.2.2.1, ha.2.2.2.2.1, ha.2.2.2.2.2⟩, ?_⟩ .nil)
    rw [ha.2.2.1]
    exact ⟨h1, h2, h3⟩
theorem RowIs.nil_iff {w : World} {a : List Ask} {p : List PAsk} (h : RowIs w a p) : a = [] ↔ p = [] := by
  cases h <;> simp
theorem askK_open {w : World} {x : Ask} {cs : List Value} (h : askK.K w x cs) : cs = askCells x := by
  obtain ⟨c1, c2, rfl, h1, c3, c4, rfl, h3, c5, c6, rfl, h5, h6⟩ := h
  have e1 : c1 = [.string x.nm] := h1
  have e3 : c3 = [.slice x.ids.1 x.ids.2.1 x.ids.2.2] := h3
  have e5 : c5 = [.int .i64 x.need] := h5
  have e6 : c6 = [.slice x.keys.1 x.keys.2.1 x.keys.2.2] := h6
  subst e1; subst e3; subst e5; subst e6
  rfl
theorem row_head {w : World} {A : Option Addr} {n : Nat} {a : Ask} {t : List Ask} (h : askK.C w A n (a :: t)) : ∃ ad, A = some ad ∧ w.cell? ad = some (.string a.nm) ∧ w.cell? ⟨ad.block, ad.off + 1, none⟩ = some (.slice a.ids.1 a.ids.2.1 a.ids.2.2) ∧
    w.cell? ⟨ad.block, ad.off + 2, none⟩ = some (.int .i64 a.need) ∧ w.cell? ⟨ad.block, ad.off + 3, none⟩ = some (.slice a.keys.1 a.keys.2.1 a.keys.2.2) := by
  obtain ⟨ad, e, hc⟩ := h.2.2 (by rw [← h.1]; simp)
  obtain ⟨c, hs, hr, hcell⟩ := hc 0 a rfl
  rw [askK_open hr] at hcell
  refine ⟨ad, e, by simpa [Addr.add] using hcell 0 _ rfl, by simpa [Addr.add] using hcell 1 _ rfl, by simpa [Addr.add] using hcell 2 _ rfl, by simpa [Addr.add] using hcell 3 _ rfl⟩
/-- A row of one, in a block of its own. -/
theorem row_one (W : World) (a : Ask) (b : Nat) (h : W.heap[b]? = some (.cells (askCells a).toArray 60 (0, 0))) : askK.C W (some ⟨b, 0, none⟩) 1 [a] := by
  refine ⟨rfl, by decide, fun _ => ⟨⟨b, 0, none⟩, rfl, fun j p hj => ?_⟩⟩
  cases j with
  | succ j => simp at hj
  | zero =>
    have e : p = a := by simpa using hj.symm
    subst e
    refine ⟨askCells p, rfl, Kd.K_of_M _ (askK_mk W 0 (fun _ => True) p), fun i u hu => ?_⟩
    have h2 : (Addr.mk b 0 none).add (0 * askK.sz + i) = ⟨b, i, none⟩ := by
      unfold Addr.add
      by_cases e : i = 0
      · subst e; simp
      · simp [e]
    rw [h2]
    exact cell_of_block h i u (by simpa using hu)
def firstAsk : Ask := ⟨⟨#[116, 97, 114, 103, 101, 116, 115]⟩, (none, 0, 0), 0, (none, 0, 0)⟩
def secondWorld (wr : World) : World := (wr.alloc (.cells (workCells (.slice none 0 0)) 31)).alloc (.cells (askCells firstAsk).toArray 60)
theorem L2.made {w wr : World} {g4 g6 : Nat} {path : ByteArray} {xs : List S48} (h : L1 w g4 g6 path xs wr) {ps : List (ByteArray × Value)} (hv : Haves wr g6 ps) :
    L2 w (wr.heap.size + 2) g4 g6 wr.heap.size path ps (workCells (.slice none 0 0)) (.slice none 0 0) [] (some ⟨wr.heap.size + 1, 0, none⟩) [firstAsk] (secondWorld wr) := by
  have b1 := below_alloc (Below.refl wr.heap.size wr) (.cells (workCells (.slice none 0 0)) 31)
  have b2 := below_alloc b1 (.cells (askCells firstAsk).toArray 60)
  have hs1 : (wr.alloc (.cells (workCells (.slice none 0 0)) 31)).heap.size = wr.heap.size + 1 := by simp
  have e1 : (secondWorld wr).heap[wr.heap.size]? = some (.cells (workCells (.slice none 0 0)) 31 (0, 0)) := blk_alloc (blk_new _ _) _
  have e2 : (secondWorld wr).heap[wr.heap.size + 1]? = some (.cells (askCells firstAsk).toArray 60 (0, 0)) := by
    have h2 := blk_new (wr.alloc (.cells (workCells (.slice none 0 0)) 31)) (.cells (askCells firstAsk).toArray 60)
    rw [hs1] at h2
    exact h2
  have l6 : g6 < wr.heap.size := by
    obtain ⟨es, clock, h1, _⟩ := hv
    exact blk_lt h1
  refine ⟨h.rs.step b2, (b2.cell (World.block_lt_of_cell? _ _ h.mp)).trans h.mp, hv.below b2, e1, World.block_lt_of_cell? _ _ h.mp, blk_lt h.rs.h4, l6, by omega, ?_, Kd.R_nil _ _ _ _ _, row_one _ _ _ e2, fun ad e _ => ?_⟩
  · have : (secondWorld wr).heap.size = (wr.alloc (.cells (workCells (.slice none 0 0)) 31)).heap.size + 1 := by unfold secondWorld; simp
    omega
  · cases e
    exact ⟨_, e2⟩
end Go.Proofs.YtgcflmhlegagbaaGreatDoor.E
end
section
set_option linter.unusedVariables false
set_option linter.unusedSimpArgs false
namespace Go.Proofs.YtgcflmhlegagbaaGreatDoor.E
open Go.RowKit Go.Lib Go.Shelf Go.Maps Go.Proofs.YtgcflmhlegagbaaGreatDoorW.PrintWords Go.Proofs.YtgcflmhlegagbaaGreatDoorW.PrintLast Go.Proofs.YtgcflmhlegagbaaGreatDoorW.PrintMore
open X (S25 z25 S28 S53 z53 S70 S46 S48 z48)
theorem allK_get {α : Type} {p : Nat → α → Bool} {d : α} {l : List α} (h : allK p d l = true) {x : α} (hx : x ∈ l) : ∃ k, p k x = true := by
  obtain ⟨k, hk, rfl⟩ := List.mem_iff_getElem.1 hx
  refine ⟨k, ?_⟩
  unfold allK at h
  have := List.all_eq_true.1 h k (List.mem_range.2 hk)
  rwa [List.getD_eq_getElem?_getD, List.getElem?_eq_getElem hk] at this
/-- One metadata that is held: its names and patterns are short. -/
structure Fits (x : S48) : Prop where
  nm : x.f0.size ≤ 32
  files : x.f1.f6.length ≤ 32
  delegs : x.f1.f7.length ≤ 16
  names : ∀ d ∈ x.f1.f7, d.f0.size ≤ 32
  paths : ∀ d ∈ x.f1.f7, ∀ z ∈ d.f2, z.size < 4294967281
theorem Fits.of {l : List S48} (h : heldOk l = true) {x : S48} (hx : x ∈ l) : Fits x := by
  obtain ⟨k, hk, rfl⟩ := List.mem_iff_getElem.1 hx
  have h1 := heldOk_at h k hk
  unfold heldAt metaR metaOk filesOk delegsOk Nm.nameOk at h1
  simp only [Bool.and_eq_true, decide_eq_true_eq] at h1
  obtain ⟨⟨⟨⟨⟨_, hn⟩, _⟩, _⟩, ⟨⟨⟨_, ⟨hf, _⟩⟩, _⟩, ⟨hd, hda⟩⟩⟩, _⟩ := h1
  refine ⟨by simpa using hn, hf, hd, fun d hdm => ?_, fun d hdm z hz => ?_⟩
  · obtain ⟨j, hj⟩ := allK_get hda hdm
    unfold dgP dgB Nm.nameOk at hj
    simp only [Bool.and_eq_true, decide_eq_true_eq] at hj
    have := hj.1.1.1.1.1.1.1.2
    simpa using this
  · obtain ⟨j, hj⟩ := allK_get hda hdm
    unfold dgP dgB at hj
    simp only [Bool.and_eq_true] at hj
    have h2 := hj.2
    rw [Bool.not_eq_true', List.any_eq_false] at h2
    have h3 := h2 z hz
    have h4 : G.right true z.data.toList = true := by
      cases e : G.right true z.data.toList with
      | true => rfl
      | false => rw [e] at h3; exact absurd rfl h3
    unfold G.right at h4
    simp only [Bool.and_eq_true, decide_eq_true_eq] at h4
    have h5 := h4.1.1
    have : z.size ≤ 200 := by simpa using h5
    omega
theorem path_short {p : ByteArray} (h : G.right false p.data.toList = true) : p.size < 4294967281 := by
  unfold G.right at h
  simp only [Bool.and_eq_true, decide_eq_true_eq] at h
  have h5 := h.1.1
  have : p.size ≤ 200 := by simpa using h5
  omega
abbrev zero46 : Value := .agg #[.int .i64 0, .int .i64 0, .int .i64 0, .slice none 0 0, .slice none 0 0, .string ⟨#[]⟩, .slice none 0 0, .slice none 0 0]
theorem zero46_is (W : World) : (zeroValue 46).run Tryz.prog W = .ok zero46 W := by kernel_rfl
theorem haves_look {o : Oper} {ops : Array Oper} {rest : List Oper} {a : Act} {Q : Exit → Act → World → Prop} {w : World} (hg : o.guard = none) (m x : Operand) (hop : o.op = Op.lookup 41 m x true)
    (b : Nat) (ps : List (ByteArray × Value)) (hm : a.eval m = .map (some b)) (hown : Haves w b ps) (nm : ByteArray) (hx : a.eval x = .string nm) (hs : nm.size ≤ 9223372036854775807)
    (h : wpList Tryz.prog ops Q rest (a.put o.dst (.tuple #[(lastPut ps nm).getD zero46, .bool (lastPut ps nm).isSome])) w) : wpList Tryz.prog ops Q (o :: rest) a w := by
  refine wpList_lookup_own_ok w hg m x 41 hop 9 46 (Maps.string_keyed Tryz.underlying9) Tryz.underlying41 selfR (zero46_is w) (.held zero46) [] rfl b ps.length (putAll ps) hm hown (.string nm) (.string nm.data.toList) hx (key_str nm hs) ?_
  intro v qs hv
  obtain ⟨h1, h2⟩ := putAll_look ps.length ps rfl nm zero46
  rw [h2] at hv
  have e : v = (lastPut ps nm).getD zero46 := by
    unfold selfR at hv
    injection hv with hv
    injection hv with hv _
    injection hv
  rw [e, h1]
  exact h
/-- Look-ups: by what was put, and by what is held. -/
theorem held_look {w : World} {ps : List (ByteArray × Value)} {l : List S48} (h : PairsAre w ps l) (hu : ∀ nm, lastBy l nm = heldBy l nm) (nm : ByteArray) :
    (lastPut ps nm = none ∧ heldBy l nm = none) ∨ ∃ v x, lastPut ps nm = some v ∧ heldBy l nm = some x ∧ MetaIs w v x.f1 ∧ x ∈ l := by
  have := h.look nm
  rwa [hu] at this
theorem first_row (w : World) : RowIs w [firstAsk] [first] :=
  .cons ⟨rfl, rfl, ⟨rfl, Nat.le_refl _, rfl, Nat.zero_le _, fun h => absurd h (Nat.lt_irrefl 0)⟩, ⟨rfl, Nat.le_refl _, rfl, Nat.zero_le _, fun h => absurd h (Nat.lt_irrefl 0)⟩⟩ .nil
theorem load31 {ops : Array Oper} {rest : List Oper} {o : Oper} {act : Act} {W : World} {Q : Exit → Act → World → Prop} (hgd : o.guard = none) (x : Operand) (ho : o.op = .load 31 x) (g : Nat)
    (hx : act.eval x = .pointer (some ⟨g, 0, none⟩)) (cs : Array Value) (hg : W.heap[g]? = some (.cells cs 31 (0, 0))) (hs : cs.size = 11)
    (h : wpList Tryz.prog ops Q rest (act.put o.dst (.agg cs)) W) : wpList Tryz.prog ops Q (o :: rest) act W :=
  wpList_load_row hgd 31 x ho g hx 31 _ (0, 0) _ hg Tryz.underlying31 rfl (by rw [hs]; kernel_rfl) h
def doneCells (sv : Value) : Array Value := outCells 2 z25 ⟨#[]⟩ sv ⟨#[]⟩ (.slice none 0 0) 0 (.slice none 0 0)
theorem doneCells_one (A : Option Addr) (n c : Nat) : (doneCells (.slice A n c)).all (·.oneCell') = true := by simp [doneCells, outCells, Value.oneCell']
theorem L2.done {w : World} {B g4 g6 g9 : Nat} {path : ByteArray} {ps : List (ByteArray × Value)} {sc sv : Value} {seen : List ByteArray} {A : Option Addr} {row : List Ask} {W : World} (h : L2 w B g4 g6 g9 path ps (workCells sc) sv seen A row W) :
    L2 w B g4 g6 g9 path ps (doneCells sc) sv seen A row (W.setCell ⟨g9, 0, none⟩ (.int .i64 2)) := h.put9 0 _ rfl
/-- The result, handed over: what is told of memory stands behind the store. -/
theorem slice_set {α : Type} {d : Kd α} {W : World} {g : Nat} {v : Value} {l : List α} (h : SliceIs d W v l) (hK : ∀ W' x cs, d.K W x cs → d.K W' x cs) (hb : ∀ k, v.ownBlock = some k → 0 < l.length → k ≠ g) (cs : Array Value) : SliceIs d (W.setRow g cs) v l := by
  obtain ⟨a, k, rfl, h1, h2⟩ := h
  refine ⟨a, k, rfl, h1, C_block h2 (hK _) (fun ad e hn => ?_)⟩
  subst e
  have := hb ad.block rfl hn
  simp [World.setRow, Array.getElem?_modify, Ne.symm this]
theorem L2.seen_set {w : World} {B g4 g6 g9 : Nat} {path : ByteArray} {ps : List (ByteArray × Value)} {c9 : Array Value} {sv : Value} {seen : List ByteArray} {A : Option Addr} {row : List Ask} {W : World} (h : L2 w B g4 g6 g9 path ps c9 sv seen A row W) (cs : Array Value) : SliceIs Kd.string (W.setRow g4 cs) sv seen := by
  refine slice_set ?_ (fun _ _ _ hk => hk) (fun k hk _ => ?_) cs
  · obtain ⟨a, k, e, h1, h2⟩ := Kd.R_reads h.sr
    exact ⟨a, k, e, h1, h2⟩
  · have h1 := (h.own k hk).1
    have h2 := h.n4
    have h3 := h.n9
    omega
theorem free_of_block {W : World} {g : Nat} {cs : Array Value} {t : TypeId} (h : W.heap[g]? = some (.cells cs t (0, 0))) (j : Nat) : W.frozen? ⟨g, j, none⟩ = false := by simp [World.frozen?, h]
theorem drop_row {o : Oper} {ops : Array Oper} {rest : List Oper} {act : Act} {Q : Exit → Act → World → Prop} {W : World} (hgd : o.guard = none) (x : Operand)
    (ho : o.op = .slice 61 x (some (.const (.int .i64 1))) none none) (ad : Addr) (cr n : Nat) (hx : act.eval x = .slice (some ad) (n + 1) cr) (hn : n + 1 ≤ cr)
    (h : ∀ A', A' = (if cr = 1 then some ad else some (ad.add 4)) → wpList Tryz.prog ops Q rest (act.put o.dst (.slice A' n (cr - 1))) W) : wpList Tryz.prog ops Q (o :: rest) act W := by
  refine wpList_plain hgd fun K hK => ?_
  unfold Oper.wp
  have hu := Tryz.underlying61
  have hi := info60
  by_cases h1 : cr = 1
  · subst h1
    obtain rfl : n = 0 := by omega
    have := h (some ad) (by simp)
    simp [execOp, ho, hx, Result.andThen]
    go_simp
    exact hK _ _ this
  · have := h (some (ad.add 4)) (by simp [h1])
    have h2 : (n : Int) + 1 ≤ cr := by omega
    have h3 : (1 : Int) ≤ (n : Int) + 1 := by omega
    have e4 : ad.add 4 = ⟨ad.block, ad.off + 4, none⟩ := by simp [Addr.add]
    rw [e4] at this
    simp [execOp, ho, hx, Result.andThen]
    go_simp
    exact hK _ _ this
theorem L2.tail {w : World} {B g4 g6 g9 : Nat} {path : ByteArray} {ps : List (ByteArray × Value)} {c9 : Array Value} {sv : Value} {seen : List ByteArray} {ad : Addr} {a : Ask} {t : List Ask} {W : World} (h : L2 w B g4 g6 g9 path ps c9 sv seen (some ad) (a :: t) W) {cr : Nat} (hc : t.length + 1 ≤ cr)
    {A' : Option Addr} (e : A' = if cr = 1 then some ad else some (ad.add 4)) : L2 w B g4 g6 g9 path ps c9 sv seen A' t W := by
  have h1 := Kd.C_drop (m := 1) (c := cr) h.rc (by simp) (by simpa using hc)
  refine h.rowTo ?_ (fun ad' e' hn => ?_)
  · rw [e]; exact h1
  · obtain ⟨cells, hc2⟩ := h.rt ad rfl (by simp)
    refine ⟨cells, ?_⟩
    rw [e] at e'
    by_cases h1 : cr = 1
    · rw [if_pos h1] at e'; cases e'; exact hc2
    · rw [if_neg h1] at e'; cases e'; rw [add_block]; exact hc2
def wantCells (sv : Value) (a : Ask) : Array Value := outCells 3 z25 ⟨#[]⟩ sv a.nm (.slice a.ids.1 a.ids.2.1 a.ids.2.2) a.need (.slice a.keys.1 a.keys.2.1 a.keys.2.2)
theorem wantCells_one (A : Option Addr) (n c : Nat) (a : Ask) : (wantCells (.slice A n c) a).all (·.oneCell') = true := by simp [wantCells, outCells, Value.oneCell']
theorem L2.drew {w : World} {B g4 g6 g9 : Nat} {path : ByteArray} {ps : List (ByteArray × Value)} {c9 : Array Value} {sv : Value} {seen : List ByteArray} {A : Option Addr} {row : List Ask} {W : World} (h : L2 w B g4 g6 g9 path ps c9 sv seen A row W) :
    L2 w B g4 g6 g9 path ps c9 sv seen A row W.drew := h.step (below_drew (Below.refl _ _))
theorem L2.want {w : World} {B g4 g6 g9 : Nat} {path : ByteArray} {ps : List (ByteArray × Value)} {sc sv : Value} {seen : List ByteArray} {A : Option Addr} {row : List Ask} {W : World} (h : L2 w B g4 g6 g9 path ps (workCells sc) sv seen A row W) (a : Ask) :
    L2 w B g4 g6 g9 path ps (wantCells sc a) sv seen A row (((((W.setCell ⟨g9, 0, none⟩ (.int .i64 3)).setCell ⟨g9, 7, none⟩ (.string a.nm)).setCell ⟨g9, 8, none⟩ (.slice a.ids.1 a.ids.2.1 a.ids.2.2)).setCell ⟨g9, 9, none⟩ (.int .i64 a.need)).setCell ⟨g9, 10, none⟩ (.slice a.keys.1 a.keys.2.1 a.keys.2.2)) :=
  ((((h.put9 0 _ rfl).put9 7 _ rfl).put9 8 _ rfl).put9 9 _ rfl).put9 10 _ rfl
theorem want_is {w W : World} {a : Ask} {p : PAsk} {sv : Value} {seen : List ByteArray} (h : AskP w a p) (hb : Below w.heap.size w W) (hs : SliceIs Kd.string W sv seen) : WalkIs W (wantCells sv a) (.want seen p) := by
  obtain ⟨h1, h2, ⟨h3, h4, h5⟩, ⟨h6, h7, h8⟩⟩ := h
  refine ⟨sv, .slice a.ids.1 a.ids.2.1 a.ids.2.2, .slice a.keys.1 a.keys.2.1 a.keys.2.2, ?_, hs, ⟨a.ids.1, a.ids.2.2, by rw [h3], h4, Kd.C_below h5 hb⟩, ⟨a.keys.1, a.keys.2.2, by rw [h6], h7, Kd.C_below h8 hb⟩⟩
  rw [← h1, ← h2]
  rfl
def foundCells (sv : Value) (f : S25) (nm : ByteArray) : Array Value := outCells 1 f nm sv ⟨#[]⟩ (.slice none 0 0) 0 (.slice none 0 0)
theorem foundCells_one (A : Option Addr) (n c : Nat) (f : S25) (nm : ByteArray) : (foundCells (.slice A n c) f nm).all (·.oneCell') = true := by simp [foundCells, outCells, Value.oneCell']
theorem L2.found {w : World} {B g4 g6 g9 : Nat} {path : ByteArray} {ps : List (ByteArray × Value)} {sc sv : Value} {seen : List ByteArray} {A : Option Addr} {row : List Ask} {W : World} (h : L2 w B g4 g6 g9 path ps (workCells sc) sv seen A row W) (f : S25) (nm : ByteArray) :
    L2 w B g4 g6 g9 path ps (foundCells sc f nm) sv seen A row ((((((W.setCell ⟨g9, 0, none⟩ (.int .i64 1)).setCell ⟨g9, 1, none⟩ (.string f.f0)).setCell ⟨g9, 2, none⟩ (.int .i64 f.f1)).setCell ⟨g9, 3, none⟩ (.int .i64 f.f2)).setCell ⟨g9, 4, none⟩ (.string f.f3)).setCell ⟨g9, 5, none⟩ (.string nm)) :=
  (((((h.put9 0 _ rfl).put9 1 _ rfl).put9 2 _ rfl).put9 3 _ rfl).put9 4 _ rfl).put9 5 _ rfl
theorem info9 : (Tryz.prog.info? 9).map (fun i => (i.zero, i.size, i.bytes)) = some (some (.string ⟨#[]⟩), 1, 16) := by kernel_rfl
theorem L2.kept {w : World} {B g4 g6 g9 : Nat} {path : ByteArray} {ps : List (ByteArray × Value)} {c9 : Array Value} {sv : Value} {seen : List ByteArray} {A : Option Addr} {row : List Ask} {W W' : World} (h : L2 w B g4 g6 g9 path ps c9 sv seen A row W) (hg : W.grownBy W' sv.ownBlock) {k : Nat} {cs : Array Value} {T : TypeId} (hb : W.heap[k]? = some (.cells cs T (0, 0))) (hT : T ≠ 9) : W'.heap[k]? = some (.cells cs T (0, 0)) := by
  refine (hg.block k (blk_lt hb) (fun e => ?_)).trans hb
  obtain ⟨_, _, cells, hc⟩ := h.own k e.symm
  rw [hc] at hb
  injection hb with hb
  injection hb with _ hb
  exact hT hb.symm
theorem blk_set_ne {W : World} {g k j : Nat} {v : Value} {o : Obj} (h : W.heap[k]? = some o) (hne : k ≠ g) : (W.setCell ⟨g, j, none⟩ v).heap[k]? = some o := (Below.heap_setCell W ⟨g, j, none⟩ v k hne).trans h
theorem asksS_mem (path : ByteArray) (l : List S53) : ∀ d ∈ (asksS path l).1, d ∈ l := by
  induction l with
  | nil => intro d hd; simp [asksS] at hd
  | cons e t ih =>
    intro d hd
    rw [asksS] at hd
    by_cases h1 : fitsB path e = true
    · rw [if_pos h1] at hd
      by_cases h2 : e.f3 = true
      · rw [if_pos h2] at hd
        have : d = e := by simpa using hd
        exact this ▸ List.mem_cons_self
      · rw [if_neg h2] at hd
        rcases List.mem_cons.1 hd with h | h
        · exact h ▸ List.mem_cons_self
        · exact List.mem_cons_of_mem _ (ih d h)
    · rw [if_neg h1] at hd
      exact List.mem_cons_of_mem _ (ih d hd)
theorem fileIdx_lt (s : ByteArray) (l : List S25) (h : 0 ≤ fileIdx s l) : fileIdx s l < (l.length : Int) := by
  unfold fileIdx at *
  cases e : l.findIdx? (fun x => x.f0.toList == s.toList) with
  | none => rw [e] at h; exact absurd h (by decide)
  | some k =>
    have := (List.findIdx?_eq_some_iff_getElem.1 e).1
    show (k : Int) < _
    omega
theorem L2.push {w : World} {B g4 g6 g9 : Nat} {path : ByteArray} {ps : List (ByteArray × Value)} {c9 : Array Value} {sv : Value} {seen : List ByteArray} {A : Option Addr} {row : List Ask} {W W' : World} (h : L2 w B g4 g6 g9 path ps c9 sv seen A row W) {base : Nat} (hB : B ≤ base) {v v1 : Value} {qs row' : List Ask}
    (r : askK.R 60 W base (fun _ => True) v qs) (hg : W.grownBy W' v.ownBlock) (r1 : askK.R 60 W' base (fun _ => True) v1 row') : ∃ A1 c1, v1 = .slice A1 row'.length c1 ∧ row'.length ≤ c1 ∧ L2 w B g4 g6 g9 path ps c9 sv seen A1 row' W' := by
  obtain ⟨A1, c1, e, hl, hc⟩ := Kd.R_reads r1
  have h0 : L2 w B g4 g6 g9 path ps c9 sv seen none [] W := h.rowTo ⟨rfl, Nat.zero_le _, fun h => absurd h (Nat.lt_irrefl 0)⟩ (fun ad e => by cases e)
  have h1 := h0.move hg (fun k hk => Nat.le_trans hB ((Kd.R_bound r).1 k hk).2.1) (Kd.R_over h.sr r (by decide) hg) (fun ad e => by cases e)
  refine ⟨A1, c1, e, hl, h1.rowTo hc (fun ad ea _ => ?_)⟩
  subst ea; subst e
  exact Kd.R_typed r1 ad.block rfl
theorem goOn_eq {path : ByteArray} {x : S48} {u : List PAsk} {ds : List S53} {last : Bool} (h : asksS path x.f1.f7 = (ds, last)) : goOn path x u = ds.map (askOf x.f1.f3) ++ (if last = true then [] else u) := by
  unfold goOn
  rw [h]
end Go.Proofs.YtgcflmhlegagbaaGreatDoor.E
end
