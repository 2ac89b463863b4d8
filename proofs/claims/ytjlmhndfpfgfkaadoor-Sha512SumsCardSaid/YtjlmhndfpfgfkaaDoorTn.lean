import Derived.Test.YtjlmhndfpfgfkaaDoorTm
set_option linter.unusedVariables false
set_option linter.unusedSimpArgs false
namespace Go.Proofs.YtjlmhndfpfgfkaaDoor.E
open Go.RowKit Go.Proofs.YtjlmhndfpfgfkaaDoorW.PrintWords Go.Proofs.YtjlmhndfpfgfkaaDoorW.PrintLast Go.Proofs.YtjlmhndfpfgfkaaDoorW.PrintMore
attribute [local go_sem] max2_int min2_int max_two min_two
open S (mkB be num)
def Row64 (w : World) (l : List Nat) (e : Ending) (w' : World) : Prop :=
  ∃ v, e = .returned v ∧ Kd.R (Kd.int .u64) 25 w' w.heap.size (fun _ => True) v (ints l) ∧ Below w.heap.size w w'
theorem ploop_step {many f n : Nat} {l P : List Nat} (h : Rt.ploop many f n l = some P) : ∃ f', f = f' + 1 ∧ ((l.length < many ∧ Rt.ploop many f' (n + 1) (if Rt.isPrime n l then l ++ [n] else l) = some P) ∨ (¬ l.length < many ∧ l = P)) := by
  cases f with
  | zero => rw [Rt.ploop] at h; cases h
  | succ f =>
    rw [Rt.ploop] at h
    by_cases h1 : l.length < many
    · rw [if_pos h1] at h; exact ⟨f, rfl, .inl ⟨h1, h⟩⟩
    · rw [if_neg h1] at h; exact ⟨f, rfl, .inr ⟨h1, Option.some.inj h⟩⟩
theorem isPrime_take (n : Nat) (l : List Nat) (k : Nat) (h : k < l.length) : Rt.isPrime n (l.take (k + 1)) = (Rt.isPrime n (l.take k) && (n % l.getD k 0 != 0)) := by
  unfold Rt.isPrime
  rw [List.take_succ_eq_append_getElem h, List.all_append]
  simp [List.getD_eq_getElem?_getD, h]
theorem good_at {many deg : Nat} {want : List Nat} (h : Rt.good many deg want = true) : ∃ P, Rt.ploop many 500 2 [] = some P ∧ P.length = want.length ∧ ∀ i, i < want.length → P.getD i 0 < 1000 ∧ Rt.root (P.getD i 0) deg = some (want.getD i 0) := by
  unfold Rt.good at h
  cases hp : Rt.ploop many 500 2 [] with
  | none => rw [hp] at h; cases h
  | some P =>
    rw [hp] at h
    simp only [Bool.and_eq_true, beq_iff_eq, List.all_eq_true] at h
    obtain ⟨⟨h1, h2⟩, h3⟩ := h
    refine ⟨P, rfl, h1, fun i hi => ?_⟩
    have hiP : i < P.length := by omega
    have a1 := h2 P[i] (List.getElem_mem hiP)
    have a2 := h3 (P[i], want[i]) (by
      rw [List.mem_iff_getElem]
      exact ⟨i, by simp; omega, by simp⟩)
    rw [List.getD_eq_getElem?_getD, List.getD_eq_getElem?_getD, List.getElem?_eq_getElem hiP, List.getElem?_eq_getElem hi]
    exact ⟨by simpa using a1, a2⟩
theorem empty_R (w W : World) (hb : Below w.heap.size w W) : Kd.R (Kd.int .u64) 25 (W.alloc (.cells #[] 25)) w.heap.size (fun _ => True) (.slice (some ⟨W.heap.size, 0, none⟩) 0 0) (ints []) := by
  have h : (W.alloc (.cells #[] 25)).ownsRow w.heap.size 25 1 (.slice (some ⟨W.heap.size, 0, none⟩) 0 0) 0 (encs (Value.int .u64) (ints [])) :=
    World.ownsRow_lit (size := 1) W #[] 0 hb.size (by unfold maxLen; omega) rfl
  exact Kd.R_of_own h (fun _ _ => trivial)
theorem C_row {W : World} {g : Nat} {l : List Nat} {t : TypeId} (h : W.heap[g]? = some (.cells (wv l).toArray t)) (hl : l.length ≤ 1000) : (Kd.int .u64).C W (some ⟨g, 0, none⟩) l.length (ints l) := by
  refine Kd.C_of_reads (d := (0 : Int)) (h1 := fun _ => rfl) ⟨ints_length l, by omega, fun _ => ⟨_, rfl, fun j hj => ?_⟩⟩
  rw [add_plain, cell_of_row _ _ _ _ _ _ h]
  have := wv_get l j (l.getD j 0) (by rw [List.getD_eq_getElem?_getD, List.getElem?_eq_getElem hj]; rfl)
  rw [this]
  have h2 := rd_ints l j hj
  rw [rd, Int.toNat_natCast] at h2
  rw [h2]
theorem app_word {ops : Array Oper} {rest : List Oper} {o : Oper} {a : Act} {Q : Exit → Act → World → Prop} {w0 W : World} {ok : Nat → Prop} (hgd : o.guard = none) (s x : Operand)
    (ho : o.op = .call { callee := .builtin .append, args := #[s, x], argTypes := #[31, 31] }) (v : Value) (l : List Nat) (y : Nat) (hs : a.eval s = v) (hx : a.eval x = .slice (some ⟨W.heap.size, 0, none⟩) 1 1)
    (HO : Kd.R (Kd.int .u64) 25 W w0.heap.size ok v (ints l)) (hfr : ∀ k, W.heap.size ≤ k → ok k) (HB : Below w0.heap.size w0 W) (hl : l.length ≤ 1000000)
    (h : ∀ v1 w1, Kd.R (Kd.int .u64) 25 w1 w0.heap.size ok v1 (ints (l ++ [y])) → Below w0.heap.size w0 w1 → W.grownBy w1 v.ownBlock → wpList Tryd.prog ops Q rest (a.put o.dst v1) w1) :
    wpList Tryd.prog ops Q (o :: rest) a (W.alloc (.cells #[.int .u64 (y : Nat)] 25)) := by
  refine Kd.R_append (Kd.int .u64) (w0 := w0) w0.heap.size hgd s x 31 25 (.int .u64 0) 8 ho Tryd.underlying31 info25 rfl (by decide) (by decide) v (ints l) (y : Int) [.int .u64 (y : Int)] ok (fun _ => False) hs hx rfl (fun _ h => h.elim) hfr HO HB HB.size (by rw [ints_length]; omega) ?_
  intro v1 w1 hR hb hg hat
  rw [ints_snoc] at hR
  exact h v1 w1 hR hb hg
attribute [local irreducible] Rt.val Rt.D RowAt Rt.rloop p2 Rt.ploop Rt.isPrime Sh.kw Sh.h0 Rt.root Rt.good
set_option maxHeartbeats 4000000 in
set_option maxRecDepth 100000 in
theorem primes_any (many : Nat) (P : List Nat) (w : World) (hm : many ≤ 1000) (hP : Rt.ploop many 500 2 [] = some P) : Calls Tryd.prog 26 #[.int .i64 many] w (Row64 w P) := by
  have HP := Lib.hid hP
  clear hP
  go_enter Tryd.func26, Tryd.ntmps26
  go_wp2_with fail
  have hR0 := Lib.hid (empty_R w w (Below.refl _ _))
  have hB0 := Lib.hid ((Below.refl w.heap.size w).alloc (Nat.le_refl _) (.cells #[] 25))
  go_loopw [3, 4] (fun o i wr => ∃ (f n : Nat) (l : List Nat) (v : Value), v = o ∧ i = .int .u64 n ∧ 2 ≤ n ∧ n + f = 502 ∧ l.length ≤ many ∧ Hid (∀ x ∈ l, 0 < x ∧ x < 1000) ∧ Hid (Rt.ploop many f n l = some P) ∧ Hid (Kd.R (Kd.int .u64) 25 wr w.heap.size (fun _ => True) v (ints l)) ∧ Hid (Below w.heap.size w wr)) (fun _ i _ => 600 - (intOf i).toNat)
  case atStart => exact ⟨500, 2, [], _, rfl, rfl, Nat.le_refl _, rfl, Nat.zero_le _, Lib.hid (fun x hx => by cases hx), HP, hR0, hB0⟩
  case round =>
    obtain ⟨f, n, l, v, rfl, rfl, hn2, hnf, hll, hpos, hL, hR, hB⟩ := hrel
    obtain ⟨f', rfl, hcs⟩ := ploop_step hL.out
    obtain ⟨A, c, rfl, hlc, hC⟩ := Kd.R_reads hR.out
    rw [ints_length] at hR hC hlc ⊢
    have HC := Lib.hid hC
    clear hC
    rcases hcs with ⟨hlt, hnext⟩ | ⟨hge, hend⟩
    · have HN := Lib.hid hnext
      clear hnext
      have hdl : decide ((l.length : Int) < (many : Int)) = true := by simp; omega
      go_wp2_with fail
      go_loop [5, 17] (fun b i => ∃ k : Nat, k ≤ l.length ∧ i = .int .i64 k ∧ b = .bool (Rt.isPrime n (l.take k))) (fun _ i => l.length - (intOf i).toNat)
      case atStart => exact ⟨0, Nat.zero_le _, rfl, by rw [List.take_zero]; unfold Rt.isPrime; rfl⟩
      case round =>
        obtain ⟨k, hk, rfl, rfl⟩ := hrel
        by_cases hlk : k < l.length
        · obtain ⟨ad, rfl, hc⟩ := Kd.at_int HC.out (k : Int) (by omega) (by omega)
          rw [rd_ints l k hlk, Int.toNat_natCast] at hc
          have hst := isPrime_take n l k hlk
          have hpk := hpos.out (l.getD k 0) (by rw [List.getD_eq_getElem?_getD, List.getElem?_eq_getElem hlk]; exact List.getElem_mem hlk)
          have HST := Lib.hid hst
          clear hst
          have hdk : decide ((k : Int) < (l.length : Int)) = true := by simp; omega
          generalize l.getD k 0 = pk at *
          obtain ⟨h1, h2⟩ := hpk
          generalize Rt.isPrime n (l.take k) = bb at *
          by_cases hz : n % pk = 0
          · have hz2 : (n : Int) % (pk : Int) = 0 := by omega
            go_wp2_with fail
            go_round
            case rel => exact ⟨k + 1, by omega, by go_num, by rw [HST.out, hz]; simp⟩
            case measure => simp [intOf]; omega
          · have hz2 : ¬ (n : Int) % (pk : Int) = 0 := by omega
            go_wp2_with fail
            go_round
            case rel => exact ⟨k + 1, by omega, by go_num, by rw [HST.out]; simp [hz]⟩
            case measure => simp [intOf]; omega
        · obtain rfl : k = l.length := by omega
          rw [List.take_of_length_le (Nat.le_refl _)]
          cases hpr : Rt.isPrime n l with
          | false =>
            have HN2 := HN.out
            rw [hpr, if_neg (by simp)] at HN2
            have HN3 := Lib.hid HN2
            clear HN2 HN hpr
            go_wp2_with fail
            go_roundw
            case rel => exact ⟨f', n + 1, l, _, rfl, by go_num, by omega, by omega, hll, hpos, HN3, hR, hB⟩
            case measure => simp [intOf]; omega
          | true =>
            have HN2 := HN.out
            rw [hpr, if_pos rfl] at HN2
            have HN3 := Lib.hid HN2
            clear HN2 HN hpr
            go_wp2_with (first
              | (at_builtin
                 refine app_word (w0 := w) rfl (.tmp 27) (.tmp 29) rfl _ l n rfl rfl hR.out (fun _ _ => trivial) hB.out (by omega) ?_
                 intro v30 w3 hR3 hb3 hg3
                 have HR3 := Lib.hid hR3
                 have HB3 := Lib.hid hb3
                 clear hR3 hb3 hg3))
            go_roundw
            case rel => exact ⟨f', n + 1, l ++ [n], _, rfl, by go_num, by omega, by omega, by rw [List.length_append]; simp; omega, Lib.hid (fun x hx => by
              rcases List.mem_append.1 hx with h | h
              · exact hpos.out x h
              · rw [List.mem_singleton.1 h]; omega), HN3, HR3, HB3⟩
            case measure => simp [intOf]; omega
    · subst hend
      have hdl : decide ((l.length : Int) < (many : Int)) = false := by simp; omega
      go_wp2_with fail
      go_ret
      exact ⟨_, rfl, hR.out, hB.out⟩
set_option maxHeartbeats 4000000 in
set_option maxRecDepth 100000 in
theorem begins_any (w : World) : Calls Tryd.prog 16 #[] w (Row64 w Sh.h0) := by
  obtain ⟨P, hP, hPl, hPr⟩ := good_at Rt.good_h0
  have hwl : Sh.h0.length = 8 := h0_len
  rw [hwl] at hPl hPr
  have HPr := Lib.hid hPr
  have HPl := Lib.hid hPl
  have hHP : Calls Tryd.prog 26 #[.int .i64 8] (w.alloc (.cells #[] 25)) (Row64 (w.alloc (.cells #[] 25)) P) := primes_any 8 P _ (by omega) hP
  have HHP := Lib.hid hHP
  have HWl := Lib.hid hwl
  clear hHP hP hPr hPl hwl
  go_enter Tryd.func16, Tryd.ntmps16
  go_wp2_with fail
  refine HHP.out.mono ?_
  rintro e w2 ⟨vp, rfl, hRp, hb2⟩
  obtain ⟨Ap, cp, rfl, hcp, hCp⟩ := Kd.R_reads hRp
  have hne0 : ∀ k, (Value.slice (some ⟨w.heap.size, 0, none⟩) 0 0).ownBlock = some k → some k ≠ (Value.slice Ap (ints P).length cp).ownBlock := by
    intro k hk e
    obtain ⟨inner, ho⟩ := Kd.R_own hRp
    have := own_base ho k e.symm
    simp [Value.ownBlock] at hk
    simp at this
    omega
  have hRq := R_only hRp
  have hRo := Kd.R_below (empty_R w w (Below.refl _ _)) hb2
  have hRo2 : Kd.R (Kd.int .u64) 25 w2 w.heap.size (fun k => some k ≠ (Value.slice Ap (ints P).length cp).ownBlock) (.slice (some ⟨w.heap.size, 0, none⟩) 0 0) (ints []) := ⟨hne0, hRo.2⟩
  rw [ints_length, HPl.out] at hRq hRo2 hcp ⊢
  have HRq := Lib.hid hRq
  have hba := (Below.refl w.heap.size w).alloc (Nat.le_refl _) (.cells #[] 25)
  have hR0 := Lib.hid hRo2
  have hB0 := Lib.hid (below_step hba hb2)
  clear hba hRp hCp hcp hb2 hRq hRo hRo2 hne0
  go_wp2_with fail
  go_loopw [1, 7] (fun o i wr => ∃ (k : Nat) (v : Value), v = o ∧ i = .int .i64 k ∧ k ≤ 8 ∧ Hid (Kd.R (Kd.int .u64) 25 wr w.heap.size (fun k => some k ≠ (Value.slice Ap 8 cp).ownBlock) v (ints (Sh.h0.take k))) ∧ Hid (Below w.heap.size w wr) ∧ Hid (Kd.R (Kd.int .u64) 25 wr (w.alloc (.cells #[] 25)).heap.size (fun j => some j = (Value.slice Ap 8 cp).ownBlock ∧ True) (.slice Ap 8 cp) (ints P))) (fun _ i _ => 8 - (intOf i).toNat)
  case atStart => exact ⟨0, _, rfl, rfl, Nat.zero_le _, hR0, hB0, HRq⟩
  case round =>
    obtain ⟨k, v, rfl, rfl, hk, hR, hB, hB2⟩ := hrel
    by_cases hlk : k < 8
    · obtain ⟨ad, hA, hc⟩ := Kd.at_int (Kd.R_reads' hB2.out).2.2 (k : Int) (by omega) (by rw [ints_length, HPl.out]; omega)
      subst hA
      rw [rd_ints P k (by rw [HPl.out]; exact hlk), Int.toNat_natCast] at hc
      obtain ⟨h1, h2⟩ := HPr.out k hlk
      have hts := take_succ_getD Sh.h0 k (by rw [HWl.out]; exact hlk)
      have HTS := Lib.hid hts
      clear hts
      generalize P.getD k 0 = p at *
      generalize Sh.h0.getD k 0 = y at *
      have HRt : Hid (∀ W, Calls Tryd.prog 27 #[.int .u64 (p : Nat), .int .i64 2] W fun e w' => e = .returned (.int .u64 (y : Nat)) ∧ Below W.heap.size W w') := Lib.hid (fun W => root_any p 2 y W (by omega) (by omega) h2)
      clear h2
      have hdk : decide ((k : Int) < 8) = true := by simp; omega
      have hR' := hR
      go_wp2_with (first
        | (go_at_call 27
           with_reducible refine (HRt.out _).mono ?_
           rintro e w5 ⟨rfl, hb5⟩
           have hR5 := Lib.hid (Kd.R_below hR.out hb5)
           have hB5 := Lib.hid (below_step hB.out hb5)
           have hB25 := Lib.hid (Kd.R_below hB2.out hb5)
           clear hb5)
        | (at_builtin
           refine app_word (w0 := w) rfl (.tmp 11) (.tmp 14) rfl _ (Sh.h0.take k) y rfl rfl hR5.out (fun k hk e => absurd (own_lt (Kd.R_own hB25.out).choose_spec k e.symm) (by omega)) hB5.out (by rw [List.length_take]; omega) ?_
           intro v15 w6 hR6 hb6 hg6
           rw [← HTS.out] at hR6
           have HR6 := Lib.hid hR6
           have HB6 := Lib.hid hb6
           have HB26 := Lib.hid (Kd.R_grown hB25.out hg6 (fun k hk e => hR5.out.1 k e.symm hk.1))
           clear hR6 hb6 hg6))
      go_roundw
      case rel => exact ⟨k + 1, _, rfl, by go_num, by omega, HR6, HB6, HB26⟩
      case measure => simp [intOf]; omega
    · obtain rfl : k = 8 := by omega
      have hRf := hR.out
      rw [List.take_of_length_le (show Sh.h0.length ≤ 8 by rw [HWl.out]; omega)] at hRf
      go_wp2_with fail
      go_ret
      exact ⟨_, rfl, Kd.R_mono hRf (fun _ _ => trivial), hB.out⟩
set_option maxHeartbeats 4000000 in
set_option maxRecDepth 100000 in
theorem roots_any (w : World) : Calls Tryd.prog 14 #[] w (Row64 w Sh.kw) := by
  obtain ⟨P, hP, hPl, hPr⟩ := good_at Rt.good_kw
  have hwl : Sh.kw.length = 80 := kw_length
  rw [hwl] at hPl hPr
  have HPr := Lib.hid hPr
  have HPl := Lib.hid hPl
  have hHP : Calls Tryd.prog 26 #[.int .i64 80] (w.alloc (.cells #[] 25)) (Row64 (w.alloc (.cells #[] 25)) P) := primes_any 80 P _ (by omega) hP
  have HHP := Lib.hid hHP
  have HWl := Lib.hid hwl
  clear hHP hP hPr hPl hwl
  go_enter Tryd.func14, Tryd.ntmps14
  go_wp2_with fail
  refine HHP.out.mono ?_
  rintro e w2 ⟨vp, rfl, hRp, hb2⟩
  obtain ⟨Ap, cp, rfl, hcp, hCp⟩ := Kd.R_reads hRp
  have hne0 : ∀ k, (Value.slice (some ⟨w.heap.size, 0, none⟩) 0 0).ownBlock = some k → some k ≠ (Value.slice Ap (ints P).length cp).ownBlock := by
    intro k hk e
    obtain ⟨inner, ho⟩ := Kd.R_own hRp
    have := own_base ho k e.symm
    simp [Value.ownBlock] at hk
    simp at this
    omega
  have hRq := R_only hRp
  have hRo := Kd.R_below (empty_R w w (Below.refl _ _)) hb2
  have hRo2 : Kd.R (Kd.int .u64) 25 w2 w.heap.size (fun k => some k ≠ (Value.slice Ap (ints P).length cp).ownBlock) (.slice (some ⟨w.heap.size, 0, none⟩) 0 0) (ints []) := ⟨hne0, hRo.2⟩
  rw [ints_length, HPl.out] at hRq hRo2 hcp ⊢
  have HRq := Lib.hid hRq
  have hba := (Below.refl w.heap.size w).alloc (Nat.le_refl _) (.cells #[] 25)
  have hR0 := Lib.hid hRo2
  have hB0 := Lib.hid (below_step hba hb2)
  clear hba hRp hCp hcp hb2 hRq hRo hRo2 hne0
  go_wp2_with fail
  go_loopw [1, 7] (fun o i wr => ∃ (k : Nat) (v : Value), v = o ∧ i = .int .i64 k ∧ k ≤ 80 ∧ Hid (Kd.R (Kd.int .u64) 25 wr w.heap.size (fun k => some k ≠ (Value.slice Ap 80 cp).ownBlock) v (ints (Sh.kw.take k))) ∧ Hid (Below w.heap.size w wr) ∧ Hid (Kd.R (Kd.int .u64) 25 wr (w.alloc (.cells #[] 25)).heap.size (fun j => some j = (Value.slice Ap 80 cp).ownBlock ∧ True) (.slice Ap 80 cp) (ints P))) (fun _ i _ => 80 - (intOf i).toNat)
  case atStart => exact ⟨0, _, rfl, rfl, Nat.zero_le _, hR0, hB0, HRq⟩
  case round =>
    obtain ⟨k, v, rfl, rfl, hk, hR, hB, hB2⟩ := hrel
    by_cases hlk : k < 80
    · obtain ⟨ad, hA, hc⟩ := Kd.at_int (Kd.R_reads' hB2.out).2.2 (k : Int) (by omega) (by rw [ints_length, HPl.out]; omega)
      subst hA
      rw [rd_ints P k (by rw [HPl.out]; exact hlk), Int.toNat_natCast] at hc
      obtain ⟨h1, h2⟩ := HPr.out k hlk
      have hts := take_succ_getD Sh.kw k (by rw [HWl.out]; exact hlk)
      have HTS := Lib.hid hts
      clear hts
      generalize P.getD k 0 = p at *
      generalize Sh.kw.getD k 0 = y at *
      have HRt : Hid (∀ W, Calls Tryd.prog 27 #[.int .u64 (p : Nat), .int .i64 3] W fun e w' => e = .returned (.int .u64 (y : Nat)) ∧ Below W.heap.size W w') := Lib.hid (fun W => root_any p 3 y W (by omega) (by omega) h2)
      clear h2
      have hdk : decide ((k : Int) < 80) = true := by simp; omega
      have hR' := hR
      go_wp2_with (first
        | (go_at_call 27
           with_reducible refine (HRt.out _).mono ?_
           rintro e w5 ⟨rfl, hb5⟩
           have hR5 := Lib.hid (Kd.R_below hR.out hb5)
           have hB5 := Lib.hid (below_step hB.out hb5)
           have hB25 := Lib.hid (Kd.R_below hB2.out hb5)
           clear hb5)
        | (at_builtin
           refine app_word (w0 := w) rfl (.tmp 11) (.tmp 14) rfl _ (Sh.kw.take k) y rfl rfl hR5.out (fun k hk e => absurd (own_lt (Kd.R_own hB25.out).choose_spec k e.symm) (by omega)) hB5.out (by rw [List.length_take]; omega) ?_
           intro v15 w6 hR6 hb6 hg6
           rw [← HTS.out] at hR6
           have HR6 := Lib.hid hR6
           have HB6 := Lib.hid hb6
           have HB26 := Lib.hid (Kd.R_grown hB25.out hg6 (fun k hk e => hR5.out.1 k e.symm hk.1))
           clear hR6 hb6 hg6))
      go_roundw
      case rel => exact ⟨k + 1, _, rfl, by go_num, by omega, HR6, HB6, HB26⟩
      case measure => simp [intOf]; omega
    · obtain rfl : k = 80 := by omega
      have hRf := hR.out
      rw [List.take_of_length_le (show Sh.kw.length ≤ 80 by rw [HWl.out]; omega)] at hRf
      go_wp2_with fail
      go_ret
      exact ⟨_, rfl, Kd.R_mono hRf (fun _ _ => trivial), hB.out⟩
end Go.Proofs.YtjlmhndfpfgfkaaDoor.E
