/- The law GlobMatches walked: it returns true for any pattern, path and row. -/
import Derived.Test.YteignlfpjmfleaaDoorM1
set_option linter.unusedVariables false
set_option linter.unusedSimpArgs false
namespace Go.Proofs.YteignlfpjmfleaaDoor.E
open Go.RowKit Go.Lib Go.Shelf Go.Proofs.YteignlfpjmfleaaDoorW.PrintWords Go.Proofs.YteignlfpjmfleaaDoorW.PrintLast Go.Proofs.YteignlfpjmfleaaDoorW.PrintMore
attribute [local go_sem] max2_int min2_int max_two min_two
attribute [local irreducible] G.split G.right may G.mt cutS atI eB procS dat
theorem dat_length (l : List ByteArray) : (dat l).length = l.length := by simp [dat]
theorem dat_get (l : List ByteArray) (k : Nat) (h : k < (dat (l.map cutS)).length) (h2 : k < l.length) : (dat (l.map cutS))[k] = (cutS l[k]).data.toList := by simp [dat]
/-- Any over the row that the call has made. -/
theorem any_row (s : ByteArray) (A : Option Addr) (n c : Nat) (zs : List ByteArray) (base : Nat) (v : Value) (w : World) (hs : s.size ≤ 1000) (hzs : ∀ z ∈ zs, z.size ≤ 1000) (hn : n = zs.length) (h : Kd.string.R 9 w base (fun _ => True) (.slice A n c) zs) :
    Calls Tryd.prog 10 #[.string s, .slice A n c] w (AnyOut w (G.which (dat zs) s.data.toList)) := by
  obtain ⟨_, hc, hC⟩ := Kd.R_reads' h
  have hmax := Kd.C_max hC
  refine Any_any s A n c zs w (by omega) (fun z hz => by have := hzs z hz; omega) hn (by omega) ?_
  by_cases h0 : n = 0
  · exact .inl h0
  · refine .inr ?_
    obtain ⟨g, cap, hv, hg1, hg2, _⟩ := Kd.R_form h (by omega)
    injection hv with hA _ _
    subst hA
    refine ⟨g, 0, rfl, hg2, fun j hj => ?_⟩
    obtain ⟨ad, had, hcell⟩ := Kd.at_string hC (j : Int) (by omega) (by omega)
    injection had with had
    subst had
    rw [Int.toNat_natCast] at hcell
    rw [Nat.zero_add]
    have : rdOf ByteArray.empty zs (j : Int) = zs[j] := by rw [rdOf, Int.toNat_natCast, List.getD_eq_getElem?_getD, List.getElem?_eq_getElem hj]; rfl
    rw [this] at hcell
    have e : (⟨g, 0, none⟩ : Addr).add j = ⟨g, j, none⟩ := by unfold Addr.add; by_cases hj0 : j = 0 <;> simp [hj0]
    rw [← e]; exact hcell
theorem slice_form {W : World} {base : Nat} {v : Value} {zs : List ByteArray} {m : Nat} (h : Kd.string.R 9 W base (fun _ => True) v ([] ++ zs)) (hz : zs.length = m) : ∃ A1 c1, v = .slice A1 m c1 ∧ m ≤ c1 ∧ Hid (Kd.string.R 9 W base (fun _ => True) (.slice A1 m c1) zs) := by
  obtain ⟨A1, c1, e, hle, _⟩ := h.2.reads
  rw [List.nil_append] at e hle h
  rw [hz] at e hle
  subst e
  exact ⟨A1, c1, rfl, hle, h⟩
/-- A world behind the round's store: the row stands, the cell holds what was cut. -/
structure Rd (w W : World) (A : Option Addr) (m c g k : Nat) (zs : List ByteArray) (q : ByteArray) : Prop where
  R : Kd.string.R 9 W w.heap.size (fun _ => True) (.slice A m c) (procS (k + 1) zs)
  B : Below w.heap.size w W
  cell : W.cell? ⟨g, k, none⟩ = some (.string q)
theorem Rd.step {w W W' : World} {A : Option Addr} {m c g k : Nat} {zs : List ByteArray} {q : ByteArray} (h : Rd w W A m c g k zs q) (hb : Below W.heap.size W W') : Rd w W' A m c g k zs q :=
  ⟨Kd.R_below h.R hb, below_then h.B h.B.size hb, (hb.cell (p := ⟨g, k, none⟩) (World.block_lt_of_cell? W _ h.cell)).trans h.cell⟩
theorem next_at {P : List (List UInt8)} {s : List UInt8} {k : Nat} {z : Int} {rs rq mq : Bool} (hk : k < P.length) (hz : z = atI P s k) (h1 : G.right false s = rs) (h2 : G.right true P[k] = rq) (h3 : G.mt P[k] s = mq) : atI P s (k + 1) = if 0 ≤ z then z else if (rq && rs && mq) = true then (k : Int) else -1 := by
  rw [atI_step P s k hk, ← hz]
  have : may P[k] s = (rq && rs && mq) := by unfold may; rw [h1, h2, h3]
  rw [this]
theorem next_e {P : List (List UInt8)} {s : List UInt8} {k : Nat} {b rq : Bool} (hk : k < P.length) (hb : b = eB P s k) (h2 : G.right true P[k] = rq) : eB P s (k + 1) = (b && rq) := by
  rw [eB_step P s k hk, ← hb, h2]
set_option maxHeartbeats 8000000 in
set_option maxRecDepth 100000 in
theorem matches_walk (a0 a1 : ByteArray) (A2 : Option Addr) (l2 : List ByteArray) (c2 : Nat) (w : World) (hr2 : Kd.C Kd.string w A2 l2.length l2) (hc2 : l2.length ≤ c2) (hlen : l2.length ≤ 4611686018427387904) :
    Calls Tryd.prog 3 #[.string a0, .string a1, .slice A2 l2.length c2] w fun e w' => e = .returned (.bool true) ∧ Below w.heap.size w w' := by
  obtain ⟨m, hm⟩ : ∃ m : Nat, (if (10 : Int) < (l2.length : Int) then (10 : Int) else (l2.length : Int)) = (m : Int) := by
    split
    · exact ⟨10, rfl⟩
    · exact ⟨_, rfl⟩
  have hm1 : m ≤ l2.length := by split at hm <;> omega
  have hm10 : m ≤ 10 := by split at hm <;> omega
  have hm16 : m * 16 ≤ 140737488355328 := by omega
  have HO : Kd.string.R 9 (w.alloc (.cells #[] 9)) w.heap.size (fun _ => True) (.slice (some ⟨w.heap.size, 0, none⟩) 0 0) ([] : List ByteArray) :=
    Kd.R_of_own (World.ownsRow_lit (size := 1) w #[] 0 (Nat.le_refl _) (Nat.zero_le _) rfl) (fun _ _ => trivial)
  have HR : Kd.string.C (w.alloc (.cells #[] 9)) A2 m (l2.take m) := by
    have := Kd.C_take hr2 hm1
    rw [List.length_take, Nat.min_eq_left hm1] at this
    exact Kd.C_alloc this _
  have HB : Below w.heap.size w (w.alloc (.cells #[] 9)) := (Below.refl _ _).alloc (Nat.le_refl _) _
  have hzl : (l2.take m).length = m := by rw [List.length_take]; omega
  have HO' := Lib.hid HO
  have HR' := Lib.hid HR
  clear HO HR hr2
  obtain ⟨p, hp⟩ : ∃ p, p = cutS a0 := ⟨_, rfl⟩
  obtain ⟨s, hs⟩ : ∃ s, s = cutS a1 := ⟨_, rfl⟩
  have hS0 := fun W => short_any a0 W
  have hS1 := fun W => short_any a1 W
  rw [← hp] at hS0
  rw [← hs] at hS1
  have hpz : p.size ≤ 205 := by rw [hp]; exact cutS_size a0
  have hsz : s.size ≤ 205 := by rw [hs]; exact cutS_size a1
  clear hp hs
  have hRs := fun W => rright_any s false W (by omega)
  obtain ⟨rs, hrs⟩ : ∃ rs, rs = G.right false s.data.toList := ⟨_, rfl⟩
  rw [← hrs] at hRs
  have HRS := Lib.hid hrs
  clear hrs
  generalize hzs : l2.take m = zs at HR' hzl
  have HZS := Lib.hid hzs
  clear hzs
  go_enter Tryd.func3, Tryd.ntmps3
  go_wp2_with (first
    | (go_at_call 7; (with_reducible refine (hS0 _).mono ?_); clear hS0; rintro e w' ⟨rfl, rfl⟩)
    | (go_at_call 7; (with_reducible refine (hS1 _).mono ?_); clear hS1; rintro e w' ⟨rfl, rfl⟩)
    | (at_builtin; refine Kd.R_append_row (w0 := w) Value.string ByteArray.empty (h1 := fun _ => rfl) w.heap.size rfl _ _ 22 9 (.string ⟨#[]⟩) 16 rfl Tryd.underlying22 X.info9 rfl (by decide) (.slice (some ⟨w.heap.size, 0, none⟩) 0 0) [] zs A2 m c2 (fun _ => True) rfl rfl (fun _ _ => trivial) HO'.out HR'.out HB (by simp) (by simpa using hm16) ?_; intro v1 w1 ho1 hb1 _ _; obtain ⟨A1, c1, rfl, hc1, H1⟩ := slice_form ho1 hzl; clear ho1))
  refine (hRs _).mono ?_
  rintro e w2 ⟨rfl, hb2⟩
  have hB2 : Below w.heap.size w w2 := below_then hb1 hb1.size hb2
  have H2 := Lib.hid (Kd.R_below H1.out hb2)
  clear hb1 hb2 H1 HB HO' HR' hRs
  obtain ⟨P, hP⟩ : ∃ P, P = dat (zs.map cutS) := ⟨_, rfl⟩
  obtain ⟨ss, hss⟩ : ∃ ss, ss = s.data.toList := ⟨_, rfl⟩
  have hPl : P.length = m := by rw [hP, dat_length, List.length_map, hzl]
  have HP := Lib.hid hP
  have HSS := Lib.hid hss
  rw [← hss] at HRS
  clear hP hss
  go_wp2
  go_loopw [8, 9, 30] (fun t8 t9 t30 wr => ∃ (k : Nat) (z : Int) (b : Bool), k ≤ m ∧ t30 = .int .i64 k ∧ t8 = .int .i64 z ∧ t9 = .bool b ∧ Hid (z = atI P ss k) ∧ Hid (b = eB P ss k) ∧ Hid (Kd.string.R 9 wr w.heap.size (fun _ => True) (.slice A1 m c1) (procS k zs)) ∧ Below w.heap.size w wr) (fun _ _ t30 _ => m - (RowKit.intOf t30).toNat)
  case atStart => exact ⟨0, -1, rs, Nat.zero_le _, rfl, rfl, rfl, Lib.hid (atI_zero _ _).symm, Lib.hid (by rw [eB_zero]; exact HRS.out), Lib.hid (by rw [procS_zero]; exact H2.out), hB2⟩
  case round =>
    obtain ⟨k, z, b, hk, rfl, rfl, rfl, hzd, hbd, hO, hb⟩ := hrel
    have hL : (procS k zs).length = m := by rw [procS_length, hzl]
    by_cases hlt : k < m
    · obtain ⟨g, cap, hv, hg1, hg2, cells, hgc⟩ := Kd.R_form hO.out (by omega)
      rw [hL] at hv
      injection hv with hA _ hcap
      subst hA
      subst hcap
      obtain ⟨hc, hf⟩ := Kd.R_celln ByteArray.empty hO.out (k : Int) (by omega) (by omega)
      rw [Int.toNat_natCast] at hc hf
      rw [procS_get k zs (by omega)] at hc
      have hput := Kd.R_putn hO.out (k : Int) (cutS (rdOf ByteArray.empty (procS k zs) k))
      rw [Int.toNat_natCast, procS_step k zs (by omega), procS_get k zs (by omega)] at hput
      have hPk : P[k]'(by omega) = (cutS (zs[k]'(by omega))).data.toList := by
        have := HP.out; subst this; exact dat_get zs k _ (by omega)
      have hPlt : k < P.length := by omega
      generalize zs[k]'(by omega) = z0 at hc hput hPk
      have hSh := fun W => short_any z0 W
      have hq5 := cutS_size z0
      generalize cutS z0 = q at hput hPk hSh hq5
      have HD : Aside0 (Rd w (wr.setCell ⟨g, k, none⟩ (.string q)) (some ⟨g, 0, none⟩) m c1 g k zs q) :=
        Aside0.mk ⟨hput, hb.setCell (p := ⟨g, k, none⟩) hg1 _, World.cell?_setCell_same' _ _ _ (by rw [hc]; rfl)⟩
      have hRq := fun W => rright_any q true W (by omega)
      have hMq := fun W => rmatch_any q s W (by omega) (by omega)
      rw [← hPk] at hRq hMq
      rw [← HSS.out] at hMq
      obtain ⟨rq, hrq⟩ : ∃ rq, G.right true (P[k]'hPlt) = rq := ⟨_, rfl⟩
      obtain ⟨mq, hmq⟩ : ∃ mq, G.mt (P[k]'hPlt) ss = mq := ⟨_, rfl⟩
      have HNZ := Lib.hid (next_at hPlt hzd.out HRS.out.symm hrq hmq)
      have HNE := Lib.hid (next_e hPlt hbd.out hrq)
      have hlo := (atI_lo P ss k).1
      rw [← hzd.out] at hlo
      rw [hrq] at hRq
      rw [hmq] at hMq
      have hbr : b = true → rs = true := fun h => by rw [HRS.out]; exact eB_right P ss k (by rw [← hbd.out]; exact h)
      clear hput hgc hPk hrq hmq hO hzd hbd hL hb hPl
      clear hPlt
      have fin : ∀ (W : World) (z' : Int) (b' : Bool), Rd w W (some ⟨g, 0, none⟩) m c1 g k zs q → z' = (if 0 ≤ z then z else if (rq && rs && mq) = true then (k : Int) else -1) → b' = (b && rq) →
          ∃ (k' : Nat) (z2 : Int) (b2 : Bool), k' ≤ m ∧ Value.int .i64 ((k : Int) + 1) = .int .i64 k' ∧ Value.int .i64 z' = .int .i64 z2 ∧ Value.bool b' = .bool b2 ∧ Hid (z2 = atI P ss k') ∧ Hid (b2 = eB P ss k') ∧ Hid (Kd.string.R 9 W w.heap.size (fun _ => True) (.slice (some ⟨g, 0, none⟩) m c1) (procS k' zs)) ∧ Below w.heap.size w W :=
        fun W z' b' hW hz' hb' => ⟨k + 1, z', b', by omega, by go_num, rfl, rfl, Lib.hid (hz'.trans HNZ.out.symm), Lib.hid (hb'.trans HNE.out.symm), Lib.hid hW.R, hW.B⟩
      have FIN := Lib.hid fin
      clear fin HNZ HNE
      by_cases hz0 : 0 ≤ z
      · have hz1 : decide (z < 0) = false := by simpa using hz0
        have hz2 : ¬ z < 0 := by omega
        cases b with
        | false =>
          go_wp2_with (first
            | (go_at_call 7; (with_reducible refine (hSh _).mono ?_); rintro e w' ⟨rfl, rfl⟩)
            | (go_at_call 8; (with_reducible refine (hRq _).mono ?_); rintro e w' ⟨rfl, hb⟩; have n0_ := Aside0.mk (HD.out.step hb); clear HD hb; have HD := n0_; clear n0_; have hcq := HD.out.cell)
            | (go_at_call 9; (with_reducible refine (hMq _).mono ?_); rintro e w' ⟨rfl, hb⟩; have n0_ := Aside0.mk (HD.out.step hb); clear HD hb; have HD := n0_; clear n0_; have hcq := HD.out.cell))
          go_roundw
          case rel => exact FIN.out _ _ _ HD.out (by rw [if_pos hz0]) rfl
          case measure => simp [RowKit.intOf]; omega
        | true =>
          obtain rfl : rs = true := hbr rfl
          clear hbr
          cases rq with
          | false =>
            go_wp2_with (first
              | (go_at_call 7; (with_reducible refine (hSh _).mono ?_); rintro e w' ⟨rfl, rfl⟩)
              | (go_at_call 8; (with_reducible refine (hRq _).mono ?_); rintro e w' ⟨rfl, hb⟩; have n0_ := Aside0.mk (HD.out.step hb); clear HD hb; have HD := n0_; clear n0_; have hcq := HD.out.cell)
              | (go_at_call 9; (with_reducible refine (hMq _).mono ?_); rintro e w' ⟨rfl, hb⟩; have n0_ := Aside0.mk (HD.out.step hb); clear HD hb; have HD := n0_; clear n0_; have hcq := HD.out.cell))
            go_roundw
            case rel => exact FIN.out _ _ _ HD.out (by rw [if_pos hz0]) rfl
            case measure => simp [RowKit.intOf]; omega
          | true =>
            go_wp2_with (first
              | (go_at_call 7; (with_reducible refine (hSh _).mono ?_); rintro e w' ⟨rfl, rfl⟩)
              | (go_at_call 8; (with_reducible refine (hRq _).mono ?_); rintro e w' ⟨rfl, hb⟩; have n0_ := Aside0.mk (HD.out.step hb); clear HD hb; have HD := n0_; clear n0_; have hcq := HD.out.cell)
              | (go_at_call 9; (with_reducible refine (hMq _).mono ?_); rintro e w' ⟨rfl, hb⟩; have n0_ := Aside0.mk (HD.out.step hb); clear HD hb; have HD := n0_; clear n0_; have hcq := HD.out.cell))
            go_roundw
            case rel => exact FIN.out _ _ _ HD.out (by rw [if_pos hz0]) rfl
            case measure => simp [RowKit.intOf]; omega
      · obtain rfl : z = -1 := by omega
        clear hz0 hlo
        cases b with
        | false =>
          cases rs with
          | false =>
            go_wp2_with (first
              | (go_at_call 7; (with_reducible refine (hSh _).mono ?_); rintro e w' ⟨rfl, rfl⟩)
              | (go_at_call 8; (with_reducible refine (hRq _).mono ?_); rintro e w' ⟨rfl, hb⟩; have n0_ := Aside0.mk (HD.out.step hb); clear HD hb; have HD := n0_; clear n0_; have hcq := HD.out.cell)
              | (go_at_call 9; (with_reducible refine (hMq _).mono ?_); rintro e w' ⟨rfl, hb⟩; have n0_ := Aside0.mk (HD.out.step hb); clear HD hb; have HD := n0_; clear n0_; have hcq := HD.out.cell))
            go_roundw
            case rel => exact FIN.out _ _ _ HD.out (by simp) rfl
            case measure => simp [RowKit.intOf]; omega
          | true =>
            cases rq with
            | false =>
              go_wp2_with (first
                | (go_at_call 7; (with_reducible refine (hSh _).mono ?_); rintro e w' ⟨rfl, rfl⟩)
                | (go_at_call 8; (with_reducible refine (hRq _).mono ?_); rintro e w' ⟨rfl, hb⟩; have n0_ := Aside0.mk (HD.out.step hb); clear HD hb; have HD := n0_; clear n0_; have hcq := HD.out.cell)
                | (go_at_call 9; (with_reducible refine (hMq _).mono ?_); rintro e w' ⟨rfl, hb⟩; have n0_ := Aside0.mk (HD.out.step hb); clear HD hb; have HD := n0_; clear n0_; have hcq := HD.out.cell))
              go_roundw
              case rel => exact FIN.out _ _ _ HD.out (by simp) rfl
              case measure => simp [RowKit.intOf]; omega
            | true =>
              cases mq with
              | false =>
                go_wp2_with (first
                  | (go_at_call 7; (with_reducible refine (hSh _).mono ?_); rintro e w' ⟨rfl, rfl⟩)
                  | (go_at_call 8; (with_reducible refine (hRq _).mono ?_); rintro e w' ⟨rfl, hb⟩; have n0_ := Aside0.mk (HD.out.step hb); clear HD hb; have HD := n0_; clear n0_; have hcq := HD.out.cell)
                  | (go_at_call 9; (with_reducible refine (hMq _).mono ?_); rintro e w' ⟨rfl, hb⟩; have n0_ := Aside0.mk (HD.out.step hb); clear HD hb; have HD := n0_; clear n0_; have hcq := HD.out.cell))
                go_roundw
                case rel => exact FIN.out _ _ _ HD.out (by simp) rfl
                case measure => simp [RowKit.intOf]; omega
              | true =>
                go_wp2_with (first
                  | (go_at_call 7; (with_reducible refine (hSh _).mono ?_); rintro e w' ⟨rfl, rfl⟩)
                  | (go_at_call 8; (with_reducible refine (hRq _).mono ?_); rintro e w' ⟨rfl, hb⟩; have n0_ := Aside0.mk (HD.out.step hb); clear HD hb; have HD := n0_; clear n0_; have hcq := HD.out.cell)
                  | (go_at_call 9; (with_reducible refine (hMq _).mono ?_); rintro e w' ⟨rfl, hb⟩; have n0_ := Aside0.mk (HD.out.step hb); clear HD hb; have HD := n0_; clear n0_; have hcq := HD.out.cell))
                go_roundw
                case rel => exact FIN.out _ _ _ HD.out (by simp) rfl
                case measure => simp [RowKit.intOf]; omega
        | true =>
          obtain rfl : rs = true := hbr rfl
          clear hbr
          cases rq with
          | false =>
            go_wp2_with (first
              | (go_at_call 7; (with_reducible refine (hSh _).mono ?_); rintro e w' ⟨rfl, rfl⟩)
              | (go_at_call 8; (with_reducible refine (hRq _).mono ?_); rintro e w' ⟨rfl, hb⟩; have n0_ := Aside0.mk (HD.out.step hb); clear HD hb; have HD := n0_; clear n0_; have hcq := HD.out.cell)
              | (go_at_call 9; (with_reducible refine (hMq _).mono ?_); rintro e w' ⟨rfl, hb⟩; have n0_ := Aside0.mk (HD.out.step hb); clear HD hb; have HD := n0_; clear n0_; have hcq := HD.out.cell))
            go_roundw
            case rel => exact FIN.out _ _ _ HD.out (by simp) rfl
            case measure => simp [RowKit.intOf]; omega
          | true =>
            cases mq with
            | false =>
              go_wp2_with (first
                | (go_at_call 7; (with_reducible refine (hSh _).mono ?_); rintro e w' ⟨rfl, rfl⟩)
                | (go_at_call 8; (with_reducible refine (hRq _).mono ?_); rintro e w' ⟨rfl, hb⟩; have n0_ := Aside0.mk (HD.out.step hb); clear HD hb; have HD := n0_; clear n0_; have hcq := HD.out.cell)
                | (go_at_call 9; (with_reducible refine (hMq _).mono ?_); rintro e w' ⟨rfl, hb⟩; have n0_ := Aside0.mk (HD.out.step hb); clear HD hb; have HD := n0_; clear n0_; have hcq := HD.out.cell))
              go_roundw
              case rel => exact FIN.out _ _ _ HD.out (by simp) rfl
              case measure => simp [RowKit.intOf]; omega
            | true =>
              go_wp2_with (first
                | (go_at_call 7; (with_reducible refine (hSh _).mono ?_); rintro e w' ⟨rfl, rfl⟩)
                | (go_at_call 8; (with_reducible refine (hRq _).mono ?_); rintro e w' ⟨rfl, hb⟩; have n0_ := Aside0.mk (HD.out.step hb); clear HD hb; have HD := n0_; clear n0_; have hcq := HD.out.cell)
                | (go_at_call 9; (with_reducible refine (hMq _).mono ?_); rintro e w' ⟨rfl, hb⟩; have n0_ := Aside0.mk (HD.out.step hb); clear HD hb; have HD := n0_; clear n0_; have hcq := HD.out.cell))
              go_roundw
              case rel => exact FIN.out _ _ _ HD.out (by simp) rfl
              case measure => simp [RowKit.intOf]; omega
    · obtain rfl : k = m := by omega
      have hA := fun W (hW : Below wr.heap.size wr W) => any_row s A1 k c1 (zs.map cutS) w.heap.size (.slice A1 k c1) W (by omega) (fun z hz => by
        obtain ⟨z0, _, rfl⟩ := List.mem_map.1 hz
        have := cutS_size z0; omega) (by rw [List.length_map, hzl]) (Kd.R_below (by have := hO.out; rw [procS_all zs k (by omega)] at this; exact this) hW)
      rw [← HP.out, ← HSS.out, which_rounds P ss k (by omega), ← hzd.out, ← hbd.out] at hA
      have hA0 := hA wr (Below.refl _ _)
      have hlo := (atI_lo P ss k).1
      rw [← hzd.out] at hlo
      have hbr : b = true → rs = true := fun h => by rw [HRS.out]; exact eB_right P ss k (by rw [← hbd.out]; exact h)
      obtain ⟨pp, hpp⟩ : ∃ pp, pp = p.data.toList := ⟨_, rfl⟩
      have hR1 := fun W => Right_any p W (by omega)
      have hR2 := fun W => rright_any p true W (by omega)
      have hP1 := fun W => Path_any s W (by omega)
      have hM1 := fun W => Match_any p s W (by omega) (by omega)
      have hM2 := fun W => rmatch_any p s W (by omega) (by omega)
      have hAl := fun W => alive_any W
      rw [← hpp] at hR1 hR2 hM1 hM2
      rw [← HSS.out] at hP1 hM1 hM2
      rw [← HRS.out] at hP1
      have hmay : may pp ss = (G.right true pp && rs && G.mt pp ss) := by unfold may; rw [HRS.out]
      rw [hmay] at hM1
      generalize G.right true pp = rp at hR1 hR2 hM1
      generalize G.mt pp ss = mp at hM1 hM2
      have HB := Aside0.mk hb
      clear hmay hpp hzd hbd hb hA hO HRS HSS HP H2 hm hm1 hm10 hm16 hzl HZS hc1 hPl hk hL hlt hpz hsz hlen hc2 hB2
      cases b with
      | false =>
        clear hbr hlo
        rw [if_neg (by simp)] at hA0
        cases rs with
        | false =>
          cases rp with
          | false =>
            go_wp2_with (first
              | (go_at_call 10; (with_reducible refine hA0.mono ?_); rintro e w' ⟨rfl, hb⟩; have n0_ := Aside0.mk (below_then HB.out HB.out.size hb); clear HB hb; have HB := n0_; clear n0_)
              | (go_at_call 11; (with_reducible refine (hR1 _).mono ?_); rintro e w' ⟨rfl, hb⟩; have n0_ := Aside0.mk (below_then HB.out HB.out.size hb); clear HB hb; have HB := n0_; clear n0_)
              | (go_at_call 8; (with_reducible refine (hR2 _).mono ?_); rintro e w' ⟨rfl, hb⟩; have n0_ := Aside0.mk (below_then HB.out HB.out.size hb); clear HB hb; have HB := n0_; clear n0_)
              | (go_at_call 12; (with_reducible refine (hP1 _).mono ?_); rintro e w' ⟨rfl, hb⟩; have n0_ := Aside0.mk (below_then HB.out HB.out.size hb); clear HB hb; have HB := n0_; clear n0_)
              | (go_at_call 13; (with_reducible refine (hM1 _).mono ?_); rintro e w' ⟨rfl, hb⟩; have n0_ := Aside0.mk (below_then HB.out HB.out.size hb); clear HB hb; have HB := n0_; clear n0_)
              | (go_at_call 9; (with_reducible refine (hM2 _).mono ?_); rintro e w' ⟨rfl, hb⟩; have n0_ := Aside0.mk (below_then HB.out HB.out.size hb); clear HB hb; have HB := n0_; clear n0_)
              | (go_at_call 14; (with_reducible refine (hAl _).mono ?_); rintro e w' ⟨rfl, hb⟩; have n0_ := Aside0.mk (below_then HB.out HB.out.size hb); clear HB hb; have HB := n0_; clear n0_))
            go_ret
            exact ⟨by simp, HB.out⟩
          | true =>
            go_wp2_with (first
              | (go_at_call 10; (with_reducible refine hA0.mono ?_); rintro e w' ⟨rfl, hb⟩; have n0_ := Aside0.mk (below_then HB.out HB.out.size hb); clear HB hb; have HB := n0_; clear n0_)
              | (go_at_call 11; (with_reducible refine (hR1 _).mono ?_); rintro e w' ⟨rfl, hb⟩; have n0_ := Aside0.mk (below_then HB.out HB.out.size hb); clear HB hb; have HB := n0_; clear n0_)
              | (go_at_call 8; (with_reducible refine (hR2 _).mono ?_); rintro e w' ⟨rfl, hb⟩; have n0_ := Aside0.mk (below_then HB.out HB.out.size hb); clear HB hb; have HB := n0_; clear n0_)
              | (go_at_call 12; (with_reducible refine (hP1 _).mono ?_); rintro e w' ⟨rfl, hb⟩; have n0_ := Aside0.mk (below_then HB.out HB.out.size hb); clear HB hb; have HB := n0_; clear n0_)
              | (go_at_call 13; (with_reducible refine (hM1 _).mono ?_); rintro e w' ⟨rfl, hb⟩; have n0_ := Aside0.mk (below_then HB.out HB.out.size hb); clear HB hb; have HB := n0_; clear n0_)
              | (go_at_call 9; (with_reducible refine (hM2 _).mono ?_); rintro e w' ⟨rfl, hb⟩; have n0_ := Aside0.mk (below_then HB.out HB.out.size hb); clear HB hb; have HB := n0_; clear n0_)
              | (go_at_call 14; (with_reducible refine (hAl _).mono ?_); rintro e w' ⟨rfl, hb⟩; have n0_ := Aside0.mk (below_then HB.out HB.out.size hb); clear HB hb; have HB := n0_; clear n0_))
            go_ret
            exact ⟨by simp, HB.out⟩
        | true =>
          cases rp with
          | false =>
            go_wp2_with (first
              | (go_at_call 10; (with_reducible refine hA0.mono ?_); rintro e w' ⟨rfl, hb⟩; have n0_ := Aside0.mk (below_then HB.out HB.out.size hb); clear HB hb; have HB := n0_; clear n0_)
              | (go_at_call 11; (with_reducible refine (hR1 _).mono ?_); rintro e w' ⟨rfl, hb⟩; have n0_ := Aside0.mk (below_then HB.out HB.out.size hb); clear HB hb; have HB := n0_; clear n0_)
              | (go_at_call 8; (with_reducible refine (hR2 _).mono ?_); rintro e w' ⟨rfl, hb⟩; have n0_ := Aside0.mk (below_then HB.out HB.out.size hb); clear HB hb; have HB := n0_; clear n0_)
              | (go_at_call 12; (with_reducible refine (hP1 _).mono ?_); rintro e w' ⟨rfl, hb⟩; have n0_ := Aside0.mk (below_then HB.out HB.out.size hb); clear HB hb; have HB := n0_; clear n0_)
              | (go_at_call 13; (with_reducible refine (hM1 _).mono ?_); rintro e w' ⟨rfl, hb⟩; have n0_ := Aside0.mk (below_then HB.out HB.out.size hb); clear HB hb; have HB := n0_; clear n0_)
              | (go_at_call 9; (with_reducible refine (hM2 _).mono ?_); rintro e w' ⟨rfl, hb⟩; have n0_ := Aside0.mk (below_then HB.out HB.out.size hb); clear HB hb; have HB := n0_; clear n0_)
              | (go_at_call 14; (with_reducible refine (hAl _).mono ?_); rintro e w' ⟨rfl, hb⟩; have n0_ := Aside0.mk (below_then HB.out HB.out.size hb); clear HB hb; have HB := n0_; clear n0_))
            go_ret
            exact ⟨by simp, HB.out⟩
          | true =>
            cases mp with
            | false =>
              go_wp2_with (first
                | (go_at_call 10; (with_reducible refine hA0.mono ?_); rintro e w' ⟨rfl, hb⟩; have n0_ := Aside0.mk (below_then HB.out HB.out.size hb); clear HB hb; have HB := n0_; clear n0_)
                | (go_at_call 11; (with_reducible refine (hR1 _).mono ?_); rintro e w' ⟨rfl, hb⟩; have n0_ := Aside0.mk (below_then HB.out HB.out.size hb); clear HB hb; have HB := n0_; clear n0_)
                | (go_at_call 8; (with_reducible refine (hR2 _).mono ?_); rintro e w' ⟨rfl, hb⟩; have n0_ := Aside0.mk (below_then HB.out HB.out.size hb); clear HB hb; have HB := n0_; clear n0_)
                | (go_at_call 12; (with_reducible refine (hP1 _).mono ?_); rintro e w' ⟨rfl, hb⟩; have n0_ := Aside0.mk (below_then HB.out HB.out.size hb); clear HB hb; have HB := n0_; clear n0_)
                | (go_at_call 13; (with_reducible refine (hM1 _).mono ?_); rintro e w' ⟨rfl, hb⟩; have n0_ := Aside0.mk (below_then HB.out HB.out.size hb); clear HB hb; have HB := n0_; clear n0_)
                | (go_at_call 9; (with_reducible refine (hM2 _).mono ?_); rintro e w' ⟨rfl, hb⟩; have n0_ := Aside0.mk (below_then HB.out HB.out.size hb); clear HB hb; have HB := n0_; clear n0_)
                | (go_at_call 14; (with_reducible refine (hAl _).mono ?_); rintro e w' ⟨rfl, hb⟩; have n0_ := Aside0.mk (below_then HB.out HB.out.size hb); clear HB hb; have HB := n0_; clear n0_))
              go_ret
              exact ⟨by simp, HB.out⟩
            | true =>
              go_wp2_with (first
                | (go_at_call 10; (with_reducible refine hA0.mono ?_); rintro e w' ⟨rfl, hb⟩; have n0_ := Aside0.mk (below_then HB.out HB.out.size hb); clear HB hb; have HB := n0_; clear n0_)
                | (go_at_call 11; (with_reducible refine (hR1 _).mono ?_); rintro e w' ⟨rfl, hb⟩; have n0_ := Aside0.mk (below_then HB.out HB.out.size hb); clear HB hb; have HB := n0_; clear n0_)
                | (go_at_call 8; (with_reducible refine (hR2 _).mono ?_); rintro e w' ⟨rfl, hb⟩; have n0_ := Aside0.mk (below_then HB.out HB.out.size hb); clear HB hb; have HB := n0_; clear n0_)
                | (go_at_call 12; (with_reducible refine (hP1 _).mono ?_); rintro e w' ⟨rfl, hb⟩; have n0_ := Aside0.mk (below_then HB.out HB.out.size hb); clear HB hb; have HB := n0_; clear n0_)
                | (go_at_call 13; (with_reducible refine (hM1 _).mono ?_); rintro e w' ⟨rfl, hb⟩; have n0_ := Aside0.mk (below_then HB.out HB.out.size hb); clear HB hb; have HB := n0_; clear n0_)
                | (go_at_call 9; (with_reducible refine (hM2 _).mono ?_); rintro e w' ⟨rfl, hb⟩; have n0_ := Aside0.mk (below_then HB.out HB.out.size hb); clear HB hb; have HB := n0_; clear n0_)
                | (go_at_call 14; (with_reducible refine (hAl _).mono ?_); rintro e w' ⟨rfl, hb⟩; have n0_ := Aside0.mk (below_then HB.out HB.out.size hb); clear HB hb; have HB := n0_; clear n0_))
              go_ret
              exact ⟨by simp, HB.out⟩
      | true =>
        obtain rfl : rs = true := hbr rfl
        clear hbr
        rw [if_pos rfl] at hA0
        by_cases hz0 : 0 ≤ z
        · have hz1 : decide (z < 0) = false := by simpa using hz0
          have hz2 : ¬ z < 0 := by omega
          rw [if_pos hz0] at hA0
          cases rp with
          | false =>
            go_wp2_with (first
              | (go_at_call 10; (with_reducible refine hA0.mono ?_); rintro e w' ⟨rfl, hb⟩; have n0_ := Aside0.mk (below_then HB.out HB.out.size hb); clear HB hb; have HB := n0_; clear n0_)
              | (go_at_call 11; (with_reducible refine (hR1 _).mono ?_); rintro e w' ⟨rfl, hb⟩; have n0_ := Aside0.mk (below_then HB.out HB.out.size hb); clear HB hb; have HB := n0_; clear n0_)
              | (go_at_call 8; (with_reducible refine (hR2 _).mono ?_); rintro e w' ⟨rfl, hb⟩; have n0_ := Aside0.mk (below_then HB.out HB.out.size hb); clear HB hb; have HB := n0_; clear n0_)
              | (go_at_call 12; (with_reducible refine (hP1 _).mono ?_); rintro e w' ⟨rfl, hb⟩; have n0_ := Aside0.mk (below_then HB.out HB.out.size hb); clear HB hb; have HB := n0_; clear n0_)
              | (go_at_call 13; (with_reducible refine (hM1 _).mono ?_); rintro e w' ⟨rfl, hb⟩; have n0_ := Aside0.mk (below_then HB.out HB.out.size hb); clear HB hb; have HB := n0_; clear n0_)
              | (go_at_call 9; (with_reducible refine (hM2 _).mono ?_); rintro e w' ⟨rfl, hb⟩; have n0_ := Aside0.mk (below_then HB.out HB.out.size hb); clear HB hb; have HB := n0_; clear n0_)
              | (go_at_call 14; (with_reducible refine (hAl _).mono ?_); rintro e w' ⟨rfl, hb⟩; have n0_ := Aside0.mk (below_then HB.out HB.out.size hb); clear HB hb; have HB := n0_; clear n0_))
            go_ret
            exact ⟨by simp, HB.out⟩
          | true =>
            cases mp with
            | false =>
              go_wp2_with (first
                | (go_at_call 10; (with_reducible refine hA0.mono ?_); rintro e w' ⟨rfl, hb⟩; have n0_ := Aside0.mk (below_then HB.out HB.out.size hb); clear HB hb; have HB := n0_; clear n0_)
                | (go_at_call 11; (with_reducible refine (hR1 _).mono ?_); rintro e w' ⟨rfl, hb⟩; have n0_ := Aside0.mk (below_then HB.out HB.out.size hb); clear HB hb; have HB := n0_; clear n0_)
                | (go_at_call 8; (with_reducible refine (hR2 _).mono ?_); rintro e w' ⟨rfl, hb⟩; have n0_ := Aside0.mk (below_then HB.out HB.out.size hb); clear HB hb; have HB := n0_; clear n0_)
                | (go_at_call 12; (with_reducible refine (hP1 _).mono ?_); rintro e w' ⟨rfl, hb⟩; have n0_ := Aside0.mk (below_then HB.out HB.out.size hb); clear HB hb; have HB := n0_; clear n0_)
                | (go_at_call 13; (with_reducible refine (hM1 _).mono ?_); rintro e w' ⟨rfl, hb⟩; have n0_ := Aside0.mk (below_then HB.out HB.out.size hb); clear HB hb; have HB := n0_; clear n0_)
                | (go_at_call 9; (with_reducible refine (hM2 _).mono ?_); rintro e w' ⟨rfl, hb⟩; have n0_ := Aside0.mk (below_then HB.out HB.out.size hb); clear HB hb; have HB := n0_; clear n0_)
                | (go_at_call 14; (with_reducible refine (hAl _).mono ?_); rintro e w' ⟨rfl, hb⟩; have n0_ := Aside0.mk (below_then HB.out HB.out.size hb); clear HB hb; have HB := n0_; clear n0_))
              go_ret
              exact ⟨by simp, HB.out⟩
            | true =>
              go_wp2_with (first
                | (go_at_call 10; (with_reducible refine hA0.mono ?_); rintro e w' ⟨rfl, hb⟩; have n0_ := Aside0.mk (below_then HB.out HB.out.size hb); clear HB hb; have HB := n0_; clear n0_)
                | (go_at_call 11; (with_reducible refine (hR1 _).mono ?_); rintro e w' ⟨rfl, hb⟩; have n0_ := Aside0.mk (below_then HB.out HB.out.size hb); clear HB hb; have HB := n0_; clear n0_)
                | (go_at_call 8; (with_reducible refine (hR2 _).mono ?_); rintro e w' ⟨rfl, hb⟩; have n0_ := Aside0.mk (below_then HB.out HB.out.size hb); clear HB hb; have HB := n0_; clear n0_)
                | (go_at_call 12; (with_reducible refine (hP1 _).mono ?_); rintro e w' ⟨rfl, hb⟩; have n0_ := Aside0.mk (below_then HB.out HB.out.size hb); clear HB hb; have HB := n0_; clear n0_)
                | (go_at_call 13; (with_reducible refine (hM1 _).mono ?_); rintro e w' ⟨rfl, hb⟩; have n0_ := Aside0.mk (below_then HB.out HB.out.size hb); clear HB hb; have HB := n0_; clear n0_)
                | (go_at_call 9; (with_reducible refine (hM2 _).mono ?_); rintro e w' ⟨rfl, hb⟩; have n0_ := Aside0.mk (below_then HB.out HB.out.size hb); clear HB hb; have HB := n0_; clear n0_)
                | (go_at_call 14; (with_reducible refine (hAl _).mono ?_); rintro e w' ⟨rfl, hb⟩; have n0_ := Aside0.mk (below_then HB.out HB.out.size hb); clear HB hb; have HB := n0_; clear n0_))
              go_ret
              exact ⟨by simp, HB.out⟩
        · obtain rfl : z = -1 := by omega
          clear hz0 hlo
          rw [if_neg (by omega)] at hA0
          cases rp with
          | false =>
            go_wp2_with (first
              | (go_at_call 10; (with_reducible refine hA0.mono ?_); rintro e w' ⟨rfl, hb⟩; have n0_ := Aside0.mk (below_then HB.out HB.out.size hb); clear HB hb; have HB := n0_; clear n0_)
              | (go_at_call 11; (with_reducible refine (hR1 _).mono ?_); rintro e w' ⟨rfl, hb⟩; have n0_ := Aside0.mk (below_then HB.out HB.out.size hb); clear HB hb; have HB := n0_; clear n0_)
              | (go_at_call 8; (with_reducible refine (hR2 _).mono ?_); rintro e w' ⟨rfl, hb⟩; have n0_ := Aside0.mk (below_then HB.out HB.out.size hb); clear HB hb; have HB := n0_; clear n0_)
              | (go_at_call 12; (with_reducible refine (hP1 _).mono ?_); rintro e w' ⟨rfl, hb⟩; have n0_ := Aside0.mk (below_then HB.out HB.out.size hb); clear HB hb; have HB := n0_; clear n0_)
              | (go_at_call 13; (with_reducible refine (hM1 _).mono ?_); rintro e w' ⟨rfl, hb⟩; have n0_ := Aside0.mk (below_then HB.out HB.out.size hb); clear HB hb; have HB := n0_; clear n0_)
              | (go_at_call 9; (with_reducible refine (hM2 _).mono ?_); rintro e w' ⟨rfl, hb⟩; have n0_ := Aside0.mk (below_then HB.out HB.out.size hb); clear HB hb; have HB := n0_; clear n0_)
              | (go_at_call 14; (with_reducible refine (hAl _).mono ?_); rintro e w' ⟨rfl, hb⟩; have n0_ := Aside0.mk (below_then HB.out HB.out.size hb); clear HB hb; have HB := n0_; clear n0_))
            go_ret
            exact ⟨by simp, HB.out⟩
          | true =>
            cases mp with
            | false =>
              go_wp2_with (first
                | (go_at_call 10; (with_reducible refine hA0.mono ?_); rintro e w' ⟨rfl, hb⟩; have n0_ := Aside0.mk (below_then HB.out HB.out.size hb); clear HB hb; have HB := n0_; clear n0_)
                | (go_at_call 11; (with_reducible refine (hR1 _).mono ?_); rintro e w' ⟨rfl, hb⟩; have n0_ := Aside0.mk (below_then HB.out HB.out.size hb); clear HB hb; have HB := n0_; clear n0_)
                | (go_at_call 8; (with_reducible refine (hR2 _).mono ?_); rintro e w' ⟨rfl, hb⟩; have n0_ := Aside0.mk (below_then HB.out HB.out.size hb); clear HB hb; have HB := n0_; clear n0_)
                | (go_at_call 12; (with_reducible refine (hP1 _).mono ?_); rintro e w' ⟨rfl, hb⟩; have n0_ := Aside0.mk (below_then HB.out HB.out.size hb); clear HB hb; have HB := n0_; clear n0_)
                | (go_at_call 13; (with_reducible refine (hM1 _).mono ?_); rintro e w' ⟨rfl, hb⟩; have n0_ := Aside0.mk (below_then HB.out HB.out.size hb); clear HB hb; have HB := n0_; clear n0_)
                | (go_at_call 9; (with_reducible refine (hM2 _).mono ?_); rintro e w' ⟨rfl, hb⟩; have n0_ := Aside0.mk (below_then HB.out HB.out.size hb); clear HB hb; have HB := n0_; clear n0_)
                | (go_at_call 14; (with_reducible refine (hAl _).mono ?_); rintro e w' ⟨rfl, hb⟩; have n0_ := Aside0.mk (below_then HB.out HB.out.size hb); clear HB hb; have HB := n0_; clear n0_))
              go_ret
              exact ⟨by simp, HB.out⟩
            | true =>
              go_wp2_with (first
                | (go_at_call 10; (with_reducible refine hA0.mono ?_); rintro e w' ⟨rfl, hb⟩; have n0_ := Aside0.mk (below_then HB.out HB.out.size hb); clear HB hb; have HB := n0_; clear n0_)
                | (go_at_call 11; (with_reducible refine (hR1 _).mono ?_); rintro e w' ⟨rfl, hb⟩; have n0_ := Aside0.mk (below_then HB.out HB.out.size hb); clear HB hb; have HB := n0_; clear n0_)
                | (go_at_call 8; (with_reducible refine (hR2 _).mono ?_); rintro e w' ⟨rfl, hb⟩; have n0_ := Aside0.mk (below_then HB.out HB.out.size hb); clear HB hb; have HB := n0_; clear n0_)
                | (go_at_call 12; (with_reducible refine (hP1 _).mono ?_); rintro e w' ⟨rfl, hb⟩; have n0_ := Aside0.mk (below_then HB.out HB.out.size hb); clear HB hb; have HB := n0_; clear n0_)
                | (go_at_call 13; (with_reducible refine (hM1 _).mono ?_); rintro e w' ⟨rfl, hb⟩; have n0_ := Aside0.mk (below_then HB.out HB.out.size hb); clear HB hb; have HB := n0_; clear n0_)
                | (go_at_call 9; (with_reducible refine (hM2 _).mono ?_); rintro e w' ⟨rfl, hb⟩; have n0_ := Aside0.mk (below_then HB.out HB.out.size hb); clear HB hb; have HB := n0_; clear n0_)
                | (go_at_call 14; (with_reducible refine (hAl _).mono ?_); rintro e w' ⟨rfl, hb⟩; have n0_ := Aside0.mk (below_then HB.out HB.out.size hb); clear HB hb; have HB := n0_; clear n0_))
              go_ret
              exact ⟨by simp, HB.out⟩
theorem matches_row {w : World} (a0 : ByteArray) (w0 : a0.size ≤ 140737488351232) (a1 : ByteArray) (w1 : a1.size ≤ 140737488351232) (A2 : Option Addr) (c2 : Nat) (l2 : List ByteArray) (hr2 : Kd.C Kd.string w A2 l2.length l2) (hc2 : l2.length ≤ c2) (hb2 : l2.length * 16 ≤ 140737488351232) :
    Calls Tryd.prog 3 #[.string a0, .string a1, .slice A2 l2.length c2] w fun e w' => e = .returned (.bool true) ∧ Below w.heap.size w w' :=
  matches_walk a0 a1 A2 l2 c2 w hr2 hc2 (by omega)
end Go.Proofs.YteignlfpjmfleaaDoor.E
