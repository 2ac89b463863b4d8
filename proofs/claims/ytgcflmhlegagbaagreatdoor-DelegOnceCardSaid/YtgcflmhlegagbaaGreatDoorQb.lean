/- The law DelegOnce, walked. -/
import Derived.Test.YtgcflmhlegagbaaGreatDoorQ9
import Derived.Test.YtgcflmhlegagbaaGreatDoorQ5
import Derived.Deep.RegionHeld3
import Derived.Test.YtgcflmhlegagbaaGreatDoorQa
section
set_option linter.unusedVariables false
set_option linter.unusedSimpArgs false
namespace Go.Proofs.YtgcflmhlegagbaaGreatDoor.E
open Go.RowKit Go.Lib Go.Shelf Go.Proofs.YtgcflmhlegagbaaGreatDoorW.PrintWords Go.Proofs.YtgcflmhlegagbaaGreatDoorW.PrintLast Go.Proofs.YtgcflmhlegagbaaGreatDoorW.PrintMore
open X (S25 k25 z25 S28 k28 S53 k53 S70 k70 S46 k46 S48 k48 z48 rd_T48 at_T48)
attribute [local irreducible] heldOk fewS okW fileEq
theorem eqF (d : Nat) (w : World) (x y : S25) : (Op.equalIn (d + 2) 25 (.agg #[.string x.f0, .int .i64 x.f1, .int .i64 x.f2, .string x.f3]) (.agg #[.string y.f0, .int .i64 y.f1, .int .i64 y.f2, .string y.f3])).run Tryz.prog w = .ok (fileEq x y) w := by
  unfold fileEq
  exact X.eqA25 d w _ _ _ _ _ _ _ _
attribute [local go_sem high] eqF
theorem field6 (a b c d e f g h : Value) (W : World) : (Instr.field 46 (.agg #[a, b, c, d, e, f, g, h]) 6).run Tryz.prog W = .ok g W := by kernel_rfl
set_option maxHeartbeats 8000000 in
set_option maxRecDepth 100000 in
theorem Once_not (path : ByteArray) (A : Option Addr) (c : Nat) (l : List S48) (w : World) (ht : Tabs w) (hA : Kd.C k48 w A l.length l) (hlc : l.length ≤ c) (hno : okW path (fewS l) = false) :
    Calls Tryz.prog 4 #[.string path, .slice A l.length c] w fun e w' => e = .returned (.bool true) ∧ Below w.heap.size w w' := by
  have HF := Aside0.mk (few_any A c l w hA hlc)
  have HW := Aside0.mk (fun (A1 : Option Addr) (c1 : Nat) (W : World) (h1 : (fewS l).length ≤ c1) (hC : Kd.C k48 W A1 (fewS l).length (fewS l)) (hT : Tabs W) => show Calls Tryz.prog 9 #[.string path, .slice A1 (fewS l).length c1] W fun e w' => e = .returned (.tuple #[.agg #[.int .i64 0, .string ⟨#[]⟩, .int .i64 0, .int .i64 0, .string ⟨#[]⟩, .string ⟨#[]⟩, .slice none 0 0, .string ⟨#[]⟩, .slice none 0 0, .int .i64 0, .slice none 0 0], .int .i64 1]) ∧ Below W.heap.size W w' from
    (Walk_any path A1 c1 (fewS l) W hT hC h1).mono fun e w' ⟨cs, h, hb⟩ => by
      rcases h with ⟨h, _, _⟩ | ⟨_, rfl, rfl⟩
      · rw [hno] at h; exact absurd h (by decide)
      · exact ⟨rfl, hb⟩)
  have HT := Aside0.mk ht
  have HL := Aside0.mk (fun (W : World) (hT : Tabs W) => alive_any W hT)
  clear ht hA hno
  generalize fewS l = fl at *
  go_enter Tryz.func4, Tryz.ntmps4
  go_wp2_with (first
    | (go_at_call 8; (with_reducible refine HF.out.mono ?_); rintro e w1 ⟨A1, c1, rfl, hl1, hC1, hb1⟩; have HB1 := Aside0.mk hb1; have HC1 := Aside0.mk hC1; clear hb1 hC1)
    | (go_at_call 9; (with_reducible refine (HW.out _ _ _ hl1 HC1.out (HT.out.below HB1.out)).mono ?_); rintro e w2 ⟨rfl, hb2⟩; have HB2 := Aside0.mk (below_step (below_step HB1.out hb2) (below_alloc (Below.refl _ _) (.cells #[.int .i64 0, .string ⟨#[]⟩, .int .i64 0, .int .i64 0, .string ⟨#[]⟩, .string ⟨#[]⟩, .slice none 0 0, .string ⟨#[]⟩, .slice none 0 0, .int .i64 0, .slice none 0 0] 31))); have f0 := cell_of_block (blk_new w2 (.cells #[.int .i64 0, .string ⟨#[]⟩, .int .i64 0, .int .i64 0, .string ⟨#[]⟩, .string ⟨#[]⟩, .slice none 0 0, .string ⟨#[]⟩, .slice none 0 0, .int .i64 0, .slice none 0 0] 31)) 0 (.int .i64 0) rfl; clear hb2)
    | (go_at_call 12; (with_reducible refine (HL.out _ (HT.out.below HB2.out)).mono ?_); rintro e w3 ⟨rfl, hb3⟩; have HB3 := Aside0.mk (below_step HB2.out hb3); have f3 := (hb3.cell (World.block_lt_of_cell? _ _ f0)).trans f0; clear hb3))
  go_ret
  exact ⟨rfl, HB3.out⟩
set_option maxHeartbeats 8000000 in
set_option maxRecDepth 100000 in
theorem Once_ok (path : ByteArray) (A : Option Addr) (c : Nat) (l : List S48) (w : World) (ht : Tabs w) (hA : Kd.C k48 w A l.length l) (hlc : l.length ≤ c) (hok : okW path (fewS l) = true) :
    Calls Tryz.prog 4 #[.string path, .slice A l.length c] w fun e w' => e = .returned (.bool true) ∧ Below w.heap.size w w' := by
  have hr : heldOk (fewS l) = true := by
    have h := hok
    unfold okW at h
    rw [Bool.and_eq_true] at h
    exact h.2
  have HTD := Aside0.mk (walk_told (path := path) hr)
  have HF := Aside0.mk (few_any A c l w hA hlc)
  generalize fewS l = fl at *
  obtain ⟨out, hout⟩ : ∃ out, walkS path fl [first] [] = out := ⟨_, rfl⟩
  rw [hout] at HTD
  have HW := Aside0.mk (fun (A1 : Option Addr) (c1 : Nat) (W : World) (h1 : fl.length ≤ c1) (hC : Kd.C k48 W A1 fl.length fl) (hT : Tabs W) => show Calls Tryz.prog 9 #[.string path, .slice A1 fl.length c1] W fun e w' => ∃ cs, e = .returned (.tuple #[.agg cs, .int .i64 0]) ∧ WalkIs w' cs out ∧ Below W.heap.size W w' from
    (Walk_any path A1 c1 fl W hT hC h1).mono fun e w' ⟨cs, h, hb⟩ => by
      rcases h with ⟨_, rfl, h2⟩ | ⟨h, _, _⟩
      · rw [hout] at h2; exact ⟨cs, rfl, h2, hb⟩
      · rw [hok] at h; exact absurd h (by decide))
  have HT := Aside0.mk ht
  have HL := Aside0.mk (fun (W : World) (hT : Tabs W) => alive_any W hT)
  have h32 := heldOk_len hr
  have HNM := Aside0.mk (fun (k : Nat) (hk : k < fl.length) => (Fits.of hr (List.getElem_mem hk)).nm)
  have HLB := Aside0.mk (fun nm => lastBy_heldBy fl nm (heldOk_unlike hr))
  have HHR := Aside0.mk hr
  have hmm := @run_makeMap Tryz.prog
  have K := Maps.string_keyed Tryz.underlying9
  clear ht hA hok hout hr
  go_enter Tryz.func4, Tryz.ntmps4
  go_wp2_with (first
    | (go_at_call 8; (with_reducible refine HF.out.mono ?_); rintro e w1 ⟨A1, c1, rfl, hl1, hC1, hb1⟩; have HB1 := Aside0.mk hb1; have HC1 := Aside0.mk hC1; clear hb1 hC1)
    | (go_at_call 9; (with_reducible refine (HW.out _ _ _ hl1 HC1.out (HT.out.below HB1.out)).mono ?_); rintro e w2 ⟨cs, rfl, hwi, hb2⟩; obtain ⟨st, f, b, As, ks, wn, Ai, ki, Ak, kk, rfl, hOI, hsk, hsC, hik, hiC, hkk, hkC⟩ := hwi.openAll; have HOI := Aside0.mk hOI; have HSC := Aside0.mk hsC; have HIC := Aside0.mk hiC; have HKC := Aside0.mk hkC; have HB2 := Aside0.mk hb2; clear hb2 hwi hOI hsC hiC hkC))
  have HO1 := Aside0.mk (O1.made #[.int .i64 st, .string f.f0, .int .i64 f.f1, .int .i64 f.f2, .string f.f3, .string b, .slice As (seenOf out).length ks, .string wn, .slice Ai (roleOf out).1.length ki, .int .i64 (roleOf out).2.1, .slice Ak (roleOf out).2.2.length kk] (Below.refl w2.heap.size w2))
  have HC2 := Aside0.mk (Kd.C_below HC1.out HB2.out)
  have HRD := Aside0.mk (show ∃ ni nk nd, (roleOf out).1.length = ni ∧ (roleOf out).2.2.length = nk ∧ (roleOf out).2.1 = nd from ⟨_, _, _, rfl, rfl, rfl⟩)
  generalize (w2.alloc _).alloc _ = W0 at HO1 ⊢
  generalize w2.heap.size + 1 = g7 at HO1 ⊢
  generalize w2.heap.size = g5 at HO1 ⊢
  generalize (roleOf out).1.length = ni at *
  generalize (roleOf out).2.2.length = nk at *
  generalize (roleOf out).2.1 = nd at *
  obtain ⟨cs5, hcs5⟩ : ∃ cs5 : Array Value, cs5 = #[.int .i64 st, .string f.f0, .int .i64 f.f1, .int .i64 f.f2, .string f.f3, .string b, .slice As (seenOf out).length ks, .string wn, .slice Ai ni ki, .int .i64 nd, .slice Ak nk kk] := ⟨_, rfl⟩
  rw [← hcs5] at HO1
  have HCS := Lib.hid hcs5
  clear hcs5 HRD
  go_loopg [39] fl.length (fun gg s39 wr => ∃ kx : Nat, kx ≤ fl.length ∧ fl.length - kx ≤ gg ∧ s39 = .int .i64 kx ∧ Aside (O1 w2 g5 cs5 g7 (fl.take kx) wr))
  case atStart => exact ⟨0, Nat.zero_le _, by omega, rfl, (show Aside _ from by rw [List.take_zero]; exact HO1.out)⟩
  case round =>
    obtain ⟨kx, hkx, hg, rfl, HL1⟩ := hrel
    by_cases hlt : kx < fl.length
    · have hltz : (kx : Int) < (fl.length : Int) := by omega
      obtain ⟨ad, a4, k4, a5, k5, a7, k7, a8, k8, rfl, c0, c1', c2, c3, c4, c5, c6, c7, c8, l4, q4, l5, q5, l7, q7, l8, q8⟩ := at_T48 HC2.out (kx : Int) (by omega) (by omega)
      have er : rd_T48 fl kx = fl.getD kx z48 := by unfold rd_T48; rw [Int.toNat_natCast]
      obtain ⟨x, hx⟩ : ∃ x, fl.getD kx z48 = x := ⟨_, rfl⟩
      rw [er, hx, Int.toNat_natCast] at c0 c1' c2 c3 c4 c5 c6 c7 c8
      rw [er, hx] at l4 q4 l5 q5 l7 q7 l8 q8
      have BW := Aside0.mk HL1.out.hb
      replace c0 := (BW.out.cell (World.block_lt_of_cell? _ _ c0)).trans c0
      replace c1' := (BW.out.cell (World.block_lt_of_cell? _ _ c1')).trans c1'
      replace c2 := (BW.out.cell (World.block_lt_of_cell? _ _ c2)).trans c2
      replace c3 := (BW.out.cell (World.block_lt_of_cell? _ _ c3)).trans c3
      replace c4 := (BW.out.cell (World.block_lt_of_cell? _ _ c4)).trans c4
      replace c5 := (BW.out.cell (World.block_lt_of_cell? _ _ c5)).trans c5
      replace c6 := (BW.out.cell (World.block_lt_of_cell? _ _ c6)).trans c6
      replace c7 := (BW.out.cell (World.block_lt_of_cell? _ _ c7)).trans c7
      replace c8 := (BW.out.cell (World.block_lt_of_cell? _ _ c8)).trans c8
      have HMI := Aside0.mk (show MetaIs w2 (.agg #[.int .i64 x.f1.f0, .int .i64 x.f1.f1, .int .i64 x.f1.f2, .slice a4 x.f1.f3.length k4, .slice a5 x.f1.f4.length k5, .string x.f1.f5, .slice a7 x.f1.f6.length k7, .slice a8 x.f1.f7.length k8]) x.f1 from ⟨a4, k4, a5, k5, a7, k7, a8, k8, rfl, l4, q4, l5, q5, l7, q7, l8, q8⟩)
      have HX := Lib.hid hx
      clear hx er q4 q5 q7 q8
      have HS := Aside0.mk (HL1.out.step (below_alloc (Below.refl wr.heap.size wr) (.cells #[.string x.f0, .int .i64 x.f1.f0, .int .i64 x.f1.f1, .int .i64 x.f1.f2, .slice a4 x.f1.f3.length k4, .slice a5 x.f1.f4.length k5, .string x.f1.f5, .slice a7 x.f1.f6.length k7, .slice a8 x.f1.f7.length k8] 48)))
      obtain ⟨ps, hps1, hps2, hps3⟩ := HS.out.hv
      have hxg : x = fl[kx] := by rw [← HX.out, List.getD_eq_getElem?_getD, List.getElem?_eq_getElem hlt]; rfl
      have hsz : x.f0.size ≤ 9223372036854775807 := by have := HNM.out kx hlt; rw [← hxg] at this; omega
      have hpl := List.length_take_le kx fl
      have HXG := Lib.hid hxg
      clear hxg
      go_wp2_with (first
        | (at_mapUpdate; refine wpList_mapUpdate_own _ rfl _ _ _ 41 rfl 9 46 K Tryz.underlying41 selfR g7 ps.length (putAll ps) rfl hps1 (by unfold maxLen; omega) _ _ (.string x.f0.data.toList) rfl rfl (key_str x.f0 hsz) (.held _) [] rfl ?_; intro w5 ho hgr; have HP5 := Aside0.mk (HS.out.put hps2 hps3 ho hgr HMI.out); clear ho hgr))
      go_roundg (fl.length - (kx + 1))
      case measure => omega
      case rel => exact ⟨kx + 1, by omega, by omega, by go_num, (show Aside _ from by rw [List.take_succ_eq_append_getElem hlt, ← HXG.out]; exact HP5.out)⟩
    · have hltz : ¬ (kx : Int) < (fl.length : Int) := by omega
      have ek : fl.take kx = fl := List.take_of_length_le (by omega)
      rw [ek] at HL1
      obtain ⟨ps, hps1, hps2, hps3⟩ := HL1.out.hv
      have H2 := Aside0.mk (O2.made HL1.out hps1)
      have HPS := Aside0.mk hps2
      have f6 := cell_of_block (HCS.out ▸ HL1.out.h5 : wr.heap[g5]? = some (.cells #[.int .i64 st, .string f.f0, .int .i64 f.f1, .int .i64 f.f2, .string f.f3, .string b, .slice As (seenOf out).length ks, .string wn, .slice Ai ni ki, .int .i64 nd, .slice Ak nk kk] 31 (0, 0))) 6 (.slice As (seenOf out).length ks) rfl
      have f6' := (below_alloc (Below.refl wr.heap.size wr) (.map #[] 0)).cell (World.block_lt_of_cell? _ _ f6) |>.trans f6
      clear hps1 hps2 hps3 ek f6
      go_wp2
      generalize wr.alloc (Obj.map #[] 0) = W0 at H2 f6' ⊢
      generalize wr.heap.size = g10 at H2 ⊢
      obtain ⟨seen, hseen⟩ : ∃ s, seenOf out = s := ⟨_, rfl⟩
      have HGD := Aside0.mk (show Good fl seen from by
        have h := HTD.out
        subst hseen
        cases out with
        | found s f b => exact h.1
        | want s a => exact h.1
        | none s => exact h)
      rw [hseen] at hsk HSC HCS f6' ⊢
      have HSEEN := Lib.hid hseen
      clear hseen HL1 HO1
      have hs32 := HGD.out.few
      go_loopg [53] seen.length (fun gg s53 wr => ∃ kx : Nat, kx ≤ seen.length ∧ seen.length - kx ≤ gg ∧ s53 = .int .i64 kx ∧ Aside (O2 w2 g5 cs5 g7 ps g10 ((seen.take kx).map (fun x => (x, Value.bool true))) wr))
      case atStart => exact ⟨0, Nat.zero_le _, by omega, rfl, (show Aside _ from by rw [List.take_zero]; exact H2.out)⟩
      case round =>
        obtain ⟨ky, hky, hgy, rfl, HM⟩ := hrel
        by_cases hlty : ky < seen.length
        · have hltyz : (ky : Int) < (seen.length : Int) := by omega
          obtain ⟨ad, cE, eAd, _, hK1, hcE⟩ := Kd.C_get HSC.out ByteArray.empty (ky : Int) (by omega) hltyz
          subst eAd
          have e1 : cE = [.string (seen.getD ky ByteArray.empty)] := by rw [Int.toNat_natCast] at hK1; exact hK1
          subst e1
          have q0 := hcE 0 _ rfl
          rw [Int.toNat_natCast, show ky * Kd.string.sz + 0 = ky from by show ky * 1 + 0 = ky; omega] at q0
          obtain ⟨s, hs⟩ : ∃ s, seen.getD ky ByteArray.empty = s := ⟨_, rfl⟩
          rw [hs] at q0
          have hsm : seen[ky] = s := by rw [← hs, List.getD_eq_getElem?_getD, List.getElem?_eq_getElem hlty]; rfl
          have hsin : s ∈ seen := hsm ▸ List.getElem_mem hlty
          obtain ⟨x, hx⟩ := HGD.out.held s hsin
          have hx2 := heldBy_mem hx
          have hsz : s.size ≤ 9223372036854775807 := by
            have := (Fits.of HHR.out hx2.1).nm
            rw [hx2.2] at this
            omega
          have hns : wasSeen (seen.take ky) s = false := by
            cases e : wasSeen (seen.take ky) s with
            | false => rfl
            | true =>
              exfalso
              have h1 := wasSeen_mem.1 e
              obtain ⟨j, hj, e2⟩ := List.mem_take_iff_getElem.1 h1
              have := HGD.out.once
              rw [List.nodup_iff_pairwise_ne, List.pairwise_iff_getElem] at this
              exact this j ky (by omega) hlty (by omega) (e2.trans hsm.symm)
          have HSM := Lib.hid hsm
          have HNS := Lib.hid hns
          rcases held_look HPS.out HLB.out s with ⟨_, hb⟩ | ⟨v, x', lp, hb, hmi, hxl⟩
          · rw [hx] at hb; cases hb
          obtain ⟨a3, k3, a4, k4, a6, k6, a7, k7, rfl, l3, m3, l4, m4, l6, m6, l7, m7⟩ := hmi
          have HLP := Lib.hid lp
          clear lp hb hx hx2 hsin hsm hns hK1 hcE hs m3 m4 m6 m7 hxl
          replace q0 := (HM.out.hb.cell (World.block_lt_of_cell? _ _ q0)).trans q0
          have HM2 := Aside0.mk (HM.out.step (below_alloc (Below.refl wr.heap.size wr) (.cells #[.int .i64 x'.f1.f0, .int .i64 x'.f1.f1, .int .i64 x'.f1.f2, .slice a3 x'.f1.f3.length k3, .slice a4 x'.f1.f4.length k4, .string x'.f1.f5, .slice a6 x'.f1.f6.length k6, .slice a7 x'.f1.f7.length k7] 46)))
          have r4 := HM2.out.hq.run4 s hsz
          rw [lastPut_seen, HNS.out] at r4
          simp only [Bool.false_eq_true, if_false, Option.getD_none] at r4
          have hql : ((seen.take ky).map (fun x => (x, Value.bool true))).length ≤ 32 := by rw [List.length_map, List.length_take]; omega
          go_wp2_with (first
            | (at_lookup; refine haves_look rfl _ _ rfl g7 ps rfl HM.out.hv s rfl hsz ?_; rw [HLP.out]; simp only [Option.getD_some, Option.isSome_some])
            | (at_mapUpdate; refine wpList_mapUpdate_own _ rfl _ _ _ 49 rfl 9 4 K Tryz.underlying49 selfR g10 ((seen.take ky).map (fun x => (x, Value.bool true))).length (putAll ((seen.take ky).map (fun x => (x, Value.bool true)))) rfl HM2.out.hq (by unfold maxLen; omega) _ _ (.string s.data.toList) rfl rfl (key_str s hsz) (.held _) [] rfl ?_; intro w5 ho hgr; have HP5 := Aside0.mk (HM2.out.put ho hgr); clear ho hgr))
          go_roundg (seen.length - (ky + 1))
          case measure => omega
          case rel => exact ⟨ky + 1, by omega, by omega, by go_num, (show Aside _ from by rw [List.take_succ_eq_append_getElem hlty, List.map_append, HSM.out]; exact HP5.out)⟩
        · have hltyz : ¬ (ky : Int) < (seen.length : Int) := by omega
          clear H2
          have hwn : heldBy fl wn = none ∧ wn.size ≤ 32 := by
            have h := HTD.out
            have h2 := HOI.out
            cases out with
            | found s f' b' => obtain ⟨_, _, _, rfl⟩ := h2; exact ⟨held_ne HHR.out, by decide⟩
            | want s p => obtain ⟨_, _, _, rfl⟩ := h2; exact ⟨h.2.1, h.2.2.2⟩
            | none s => obtain ⟨_, _, _, rfl⟩ := h2; exact ⟨held_ne HHR.out, by decide⟩
          have hwz : wn.size ≤ 9223372036854775807 := by have := hwn.2; omega
          have hlw : lastPut ps wn = none := by
            rcases held_look HPS.out HLB.out wn with ⟨h, _⟩ | ⟨_, _, _, h, _, _⟩
            · exact h
            · rw [hwn.1] at h; cases h
          have HLW := Lib.hid hlw
          clear hlw hwn
          have hsl : (seen.length : Int) ≤ 32 := by omega
          have h5 : wr.heap[g5]? = some (.cells #[.int .i64 st, .string f.f0, .int .i64 f.f1, .int .i64 f.f2, .string f.f3, .string b, .slice As seen.length ks, .string wn, .slice Ai ni ki, .int .i64 nd, .slice Ak nk kk] 31 (0, 0)) := HCS.out ▸ HM.out.h5
          have HB5 := Aside0.mk (blk_alloc h5 (.cells #[.int .i64 0, .int .i64 0, .int .i64 0, .slice none 0 0, .slice none 0 0, .string ⟨#[]⟩, .slice none 0 0, .slice none 0 0] 46))
          have HM3 := Aside0.mk (HM.out.step (below_alloc (Below.refl wr.heap.size wr) (.cells #[.int .i64 0, .int .i64 0, .int .i64 0, .slice none 0 0, .slice none 0 0, .string ⟨#[]⟩, .slice none 0 0, .slice none 0 0] 46)))
          have e7 := cell_of_block h5 7 (.string wn) rfl
          have e0' := cell_of_block HB5.out 0 (.int .i64 st) rfl
          have e6' := cell_of_block HB5.out 6 (.slice As seen.length ks) rfl
          have e7' := cell_of_block HB5.out 7 (.string wn) rfl
          clear h5 f6'
          rcases out with ⟨s_, f_, b_⟩ | ⟨s_, p_⟩ | s_
          · obtain ⟨rfl, rfl, rfl, rfl⟩ := HOI.out
            have hfound := HTD.out
            obtain ⟨_, hfn, ⟨xb, hxb, hfm⟩, tl, htl⟩ := hfound
            have hsq : seen = tl ++ [b] := HSEEN.out ▸ htl
            have HSQ := Lib.hid hsq
            have HFN := Lib.hid hfn
            have HFM := Aside0.mk hfm
            have hxb2 := heldBy_mem hxb
            have hbz : b.size ≤ 9223372036854775807 := by
              have := (Fits.of HHR.out hxb2.1).nm
              rw [hxb2.2] at this
              omega
            have hfl32 := (Fits.of HHR.out hxb2.1).files
            rcases held_look HPS.out HLB.out b with ⟨_, hb⟩ | ⟨v, x', lp, hb, hmi, hxl⟩
            · rw [hxb] at hb; cases hb
            obtain rfl : x' = xb := by rw [hxb] at hb; exact (Option.some.inj hb).symm
            obtain ⟨a3, k3, a4, k4, a6, k6, a7, k7, rfl, l3, m3, l4, m4, l6, m6, l7, m7⟩ := hmi
            have HLP := Lib.hid lp
            have HM6 := Aside0.mk m6
            have hf6 := field6
            clear lp hb m3 m4 m6 m7 hxl hfn hfm hsq htl hxb hxb2
            go_wp2_with (first
              | (at_lookup; refine haves_look rfl _ _ rfl g7 ps rfl HM.out.hv ⟨#[]⟩ rfl hwz ?_; rw [HLW.out]; simp only [Option.getD_none, Option.isSome_none])
              | (go_at_call 12; (with_reducible refine (HL.out _ (HT.out.below (below_step (below_step HB1.out HB2.out) HM3.out.hb))).mono ?_); rintro e w7 ⟨rfl, hb7⟩; have HM4 := Aside0.mk (HM3.out.step hb7); have HB7 := Aside0.mk ((hb7.block _ (blk_lt HB5.out)).trans HB5.out); have r46 := HM4.out.hv.run46 b hbz; rw [HLP.out] at r46; simp only [Option.getD_some] at r46; have i0 := cell_of_block HB7.out 0 (.int .i64 1) rfl; have i5 := cell_of_block HB7.out 5 (.string b) rfl; clear hb7))
            generalize hfs : x'.f1.f6 = fs at *
            have HFS := Lib.hid hfs
            clear hfs r46 i0 i5
            go_loopg [17, 118] fs.length (fun gg s17 s118 wz => ∃ kz : Nat, kz ≤ fs.length ∧ fs.length - kz ≤ gg ∧ s118 = .int .i64 kz ∧ s17 = .bool ((fs.take kz).any (fun y => fileEq y f)) ∧ Aside (Below w2.heap.size w2 wz) ∧ Aside (wz.heap[g5]? = some (.cells #[.int .i64 1, .string f.f0, .int .i64 f.f1, .int .i64 f.f2, .string f.f3, .string b, .slice As seen.length ks, .string ⟨#[]⟩, .slice Ai ni ki, .int .i64 nd, .slice Ak nk kk] 31 (0, 0))))
            case atStart => exact ⟨0, Nat.zero_le _, by omega, rfl, by simp, HM4.out.hb, HB7.out⟩
            case round =>
              obtain ⟨kz, hkz, hgz, rfl, rfl, BZ, CZ⟩ := hrel
              by_cases hltz : kz < fs.length
              · have hltzz : (kz : Int) < (fs.length : Int) := by omega
                obtain ⟨ad, ead, c0, c1', c2, c3⟩ := X.at_T25 HM6.out (kz : Int) (by omega) (by omega)
                subst ead
                have er : X.rd_T25 fs kz = fs[kz] := by unfold X.rd_T25; rw [Int.toNat_natCast, List.getD_eq_getElem?_getD, List.getElem?_eq_getElem hltz]; rfl
                obtain ⟨y, hy⟩ : ∃ y, fs[kz] = y := ⟨_, rfl⟩
                rw [er, hy, Int.toNat_natCast] at c0 c1' c2 c3
                replace c0 := (BZ.out.cell (World.block_lt_of_cell? _ _ c0)).trans c0
                replace c1' := (BZ.out.cell (World.block_lt_of_cell? _ _ c1')).trans c1'
                replace c2 := (BZ.out.cell (World.block_lt_of_cell? _ _ c2)).trans c2
                replace c3 := (BZ.out.cell (World.block_lt_of_cell? _ _ c3)).trans c3
                have HSN := Lib.hid ((any_snoc fs f kz hltz).trans (by rw [hy]))
                have hb1 := blk_alloc CZ.out (.cells #[.string y.f0, .int .i64 y.f1, .int .i64 y.f2, .string y.f3] 25)
                have HB8 := Aside0.mk hb1
                have j1 := cell_of_block hb1 1 (.string f.f0) rfl
                have j2 := cell_of_block hb1 2 (.int .i64 f.f1) rfl
                have j3 := cell_of_block hb1 3 (.int .i64 f.f2) rfl
                have j4 := cell_of_block hb1 4 (.string f.f3) rfl
                have BZ2 := Aside0.mk (below_step BZ.out (below_alloc (Below.refl wr.heap.size wr) (.cells #[.string y.f0, .int .i64 y.f1, .int .i64 y.f2, .string y.f3] 25)))
                clear er hy hb1 e0' e6' e7' e7
                generalize (fs.take kz).any (fun y => fileEq y f) = gf at *
                cases gf
                · go_wp2
                  go_roundg (fs.length - (kz + 1))
                  case measure => omega
                  case rel => exact ⟨kz + 1, by omega, by omega, by go_num, by rw [HSN.out]; simp, BZ2.out, HB8.out⟩
                · go_wp2
                  go_roundg (fs.length - (kz + 1))
                  case measure => omega
                  case rel => exact ⟨kz + 1, by omega, by omega, by go_num, by rw [HSN.out]; simp, BZ2.out, HB8.out⟩
              · have hltzz : ¬ (kz : Int) < (fs.length : Int) := by omega
                have eg : (fs.take kz).any (fun y => fileEq y f) = true := by
                  rw [List.take_of_length_le (by omega)]
                  exact any_file HFM.out
                rw [eg]
                clear eg e0' e6' e7' e7
                obtain ⟨ad, cE, eAd, _, hK1, hcE⟩ := Kd.C_get HSC.out ByteArray.empty (tl.length : Int) (by omega) (by rw [HSQ.out]; simp; omega)
                subst eAd
                have e1 : cE = [.string b] := by
                  have h : cE = [.string (seen.getD ((tl.length : Int)).toNat ByteArray.empty)] := hK1
                  rw [h, Int.toNat_natCast, HSQ.out]
                  simp
                subst e1
                have q0 := hcE 0 _ rfl
                rw [Int.toNat_natCast, show tl.length * Kd.string.sz + 0 = tl.length from by show tl.length * 1 + 0 = tl.length; omega] at q0
                replace q0 := (BZ.out.cell (World.block_lt_of_cell? _ _ q0)).trans q0
                obtain ⟨p, hp⟩ : ∃ p : Int, p = (tl.length : Int) := ⟨_, rfl⟩
                have hsm : (seen.length : Int) = p + 1 := by rw [HSQ.out, hp]; simp
                rw [show tl.length = p.toNat by omega] at q0
                have hw : IntKind.i64.wrap ((seen.length : Int) - 1) = p := by rw [i64_w]; unfold wrap64; omega
                have r1 := cell_of_block CZ.out 1 (.string f.f0) rfl
                have r5 := cell_of_block CZ.out 5 (.string b) rfl
                have r6 := cell_of_block CZ.out 6 (.slice (some ad) seen.length ks) rfl
                rw [HFN.out] at r1
                have hmi1 : (0 : Int) ≤ p := by omega
                have hmi2 : p < (seen.length : Int) := by omega
                have hmi3 : (0 : Int) < (seen.length : Int) := by omega
                have hmk : (seen.length : Int) ≤ (ks : Int) := by omega
                have hmi4 : 0 < seen.length := by omega
                have hmi5 : decide (0 < seen.length) = true := decide_eq_true hmi4
                clear hcE hK1 hsm hp
                go_upto_region 31 with (fail)
                go_region_held3 (fun W_ => W_.cell? ⟨g5, 1, none⟩ = some (.string path) ∧ W_.cell? ⟨g5, 5, none⟩ = some (.string b) ∧ W_.cell? ⟨g5, 6, none⟩ = some (.slice (some ad) seen.length ks) ∧ W_.cell? (ad.add p.toNat) = some (.string b))
                  (go_keep) (fail)
                all_goals go_wp2
                all_goals
                  go_ret
                  exact ⟨rfl, below_step (below_step HB1.out HB2.out) (below_drew BZ.out)⟩
          · obtain ⟨rfl, rfl, rfl, rfl⟩ := HOI.out
            have hne0 : p_.nm.toList ≠ [] := fun h => HTD.out.2.2.1 (bytes_ext (h.trans (by simp)))
            have hne : (p_.nm.toList == (⟨#[]⟩ : ByteArray).toList) = false := beq_eq_false_iff_ne.2 (fun h => HTD.out.2.2.1 (bytes_ext h))
            have hne2 : (p_.nm.toList == []) = false := beq_eq_false_iff_ne.2 hne0
            go_wp2_with (first
              | (at_lookup; refine haves_look rfl _ _ rfl g7 ps rfl HM.out.hv p_.nm rfl hwz ?_; rw [HLW.out]; simp only [Option.getD_none, Option.isSome_none])
              | (go_at_call 12; (with_reducible refine (HL.out _ (HT.out.below (below_step (below_step HB1.out HB2.out) HM3.out.hb))).mono ?_); rintro e w7 ⟨rfl, hb7⟩; have HM4 := Aside0.mk (HM3.out.step hb7); have HB7 := Aside0.mk ((hb7.block _ (blk_lt HB5.out)).trans HB5.out); have i0 := cell_of_block HB7.out 0 (.int .i64 3) rfl; clear hb7))
            go_ret
            exact ⟨rfl, below_step (below_step HB1.out HB2.out) HM4.out.hb⟩
          · obtain ⟨rfl, rfl, rfl, rfl⟩ := HOI.out
            go_wp2_with (first
              | (at_lookup; refine haves_look rfl _ _ rfl g7 ps rfl HM.out.hv ⟨#[]⟩ rfl hwz ?_; rw [HLW.out]; simp only [Option.getD_none, Option.isSome_none])
              | (go_at_call 12; (with_reducible refine (HL.out _ (HT.out.below (below_step (below_step HB1.out HB2.out) HM3.out.hb))).mono ?_); rintro e w7 ⟨rfl, hb7⟩; have HM4 := Aside0.mk (HM3.out.step hb7); have HB7 := Aside0.mk ((hb7.block _ (blk_lt HB5.out)).trans HB5.out); have i0 := cell_of_block HB7.out 0 (.int .i64 2) rfl; clear hb7))
            go_ret
            exact ⟨rfl, below_step (below_step HB1.out HB2.out) HM4.out.hb⟩
theorem once_walk (path : ByteArray) (A : Option Addr) (c : Nat) (l : List S48) (w : World) (ht : Tabs w) (hA : Kd.C k48 w A l.length l) (hlc : l.length ≤ c) :
    Calls Tryz.prog 4 #[.string path, .slice A l.length c] w fun e w' => e = .returned (.bool true) ∧ Below w.heap.size w w' := by
  cases h : okW path (fewS l) with
  | true => exact Once_ok path A c l w ht hA hlc h
  | false => exact Once_not path A c l w ht hA hlc h
end Go.Proofs.YtgcflmhlegagbaaGreatDoor.E

end
section
namespace Go.Proofs.YtgcflmhlegagbaaGreatDoor.E
open Go.RowKit Go.Lib Go.Proofs.YtgcflmhlegagbaaGreatDoorW.PrintWords
theorem once_laid {w : World} (hL : laidMetH Tryz.prog Rows.delegOnceRow.laid w) (path : ByteArray) (_ : path.size ≤ 140737488351232) (A : Option Addr) (c : Nat) (l : List X.S48) (hA : Kd.C X.k48 w A l.length l) (hlc : l.length ≤ c) :
    Calls Tryz.prog 4 #[.string path, .slice A l.length c] w fun e w' => e = .returned (.bool true) ∧ Below w.heap.size w w' :=
  once_walk path A c l w (tabs_of (l := Rows.delegOnceRow.laid) hL (by simp [Rows.delegOnceRow]) (by simp [Rows.delegOnceRow]) (by simp [Rows.delegOnceRow])) hA hlc
end Go.Proofs.YtgcflmhlegagbaaGreatDoor.E

end
