/- glob.part: the greedy walk. -/
import Derived.Test.YteignlfpjmfleaaDoorG3
set_option linter.unusedVariables false
set_option linter.unusedSimpArgs false
namespace Go.Proofs.YteignlfpjmfleaaDoor.E
open Go.RowKit Go.Lib Go.Proofs.YteignlfpjmfleaaDoorW.PrintWords Go.Proofs.YteignlfpjmfleaaDoorW.PrintLast Go.Proofs.YteignlfpjmfleaaDoorW.PrintMore

theorem dropWhile_nil (l : List UInt8) (c : UInt8) : l.dropWhile (· == c) = [] ↔ l.all (· == c) = true := by
  induction l with
  | nil => simp
  | cons b l ih => by_cases h : b = c <;> simp [List.dropWhile_cons, h, ih]
theorem trim_stars (l : List UInt8) : (Lib.trimB l 42 = []) ↔ G.stars l = true := by
  unfold Lib.trimB Lib.trimLeftB G.stars
  rw [dropWhile_nil]
  unfold Lib.trimRightB
  constructor
  · intro h
    have h2 : l.reverse.dropWhile (· == 42) = [] := by
      cases e : l.reverse.dropWhile (· == 42) with
      | nil => rfl
      | cons b t =>
        have hb := List.head?_dropWhile_not (· == (42 : UInt8)) l.reverse
        rw [e] at hb h
        simp at hb h
        exact absurd h.2 hb
    rw [dropWhile_nil] at h2
    simpa using h2
  · intro h
    have h2 : l.reverse.all (· == 42) = true := by simpa using h
    rw [← dropWhile_nil] at h2
    rw [h2]; rfl
theorem getB (s : ByteArray) (k : Nat) (h : k < s.size) : s.data.toList[k]! = s[k] := by
  rw [getElem!_pos s.data.toList k (by simpa using h)]; rfl
section
variable {p s : List UInt8} {f st fr i k : Nat} {r : Bool}
theorem gr_end (h : ¬ k < s.length) (H : G.gr p s (f + 1) st fr i k = some r) : G.stars (p.drop i) = r := by
  rw [G.gr, if_neg h] at H; exact Option.some.inj H
theorem gr_star (h : k < s.length) (hi : i < p.length) (hc : p[i]! = 42) (H : G.gr p s (f + 1) st fr i k = some r) : G.gr p s f (i + 1) k (i + 1) k = some r := by
  rw [G.gr, if_pos h, if_pos ⟨hi, hc⟩] at H; exact H
theorem gr_one (h : k < s.length) (hi : i < p.length) (hc : p[i]! ≠ 42) (hm : p[i]! = 63 ∨ p[i]! = s[k]!) (H : G.gr p s (f + 1) st fr i k = some r) : G.gr p s f st fr (i + 1) (k + 1) = some r := by
  rw [G.gr, if_pos h, if_neg (fun x => hc x.2), if_pos ⟨hi, hm⟩] at H; exact H
theorem gr_back (h : k < s.length) (hc : ¬ (i < p.length ∧ (p[i]! = 42))) (hm : ¬ (i < p.length ∧ (p[i]! = 63 ∨ p[i]! = s[k]!))) (hs : 0 < st) (H : G.gr p s (f + 1) st fr i k = some r) : G.gr p s f st (fr + 1) st (fr + 1) = some r := by
  rw [G.gr, if_pos h, if_neg hc, if_neg hm, if_pos hs] at H; exact H
theorem gr_no (h : k < s.length) (hc : ¬ (i < p.length ∧ (p[i]! = 42))) (hm : ¬ (i < p.length ∧ (p[i]! = 63 ∨ p[i]! = s[k]!))) (hs : ¬ 0 < st) (H : G.gr p s (f + 1) st fr i k = some r) : false = r := by
  rw [G.gr, if_pos h, if_neg hc, if_neg hm, if_neg hs] at H; exact Option.some.inj H
end
theorem byte_int (a b : UInt8) : ((a.toNat : Int) = (b.toNat : Int)) ↔ a = b := by
  constructor
  · intro h; exact UInt8.toNat_inj.1 (by omega)
  · rintro rfl; rfl
attribute [local irreducible] G.gr
set_option maxHeartbeats 4000000 in
set_option maxRecDepth 100000 in
theorem part_walk (p s : ByteArray) (r : Bool) (f : Nat) (w : World) (hp : p.size < 4294967281) (hs : s.size < 4294967281) (H : G.gr p.data.toList s.data.toList f 0 0 0 0 = some r) :
    Calls Tryd.prog 32 #[.string p, .string s] w fun e w' => e = .returned (.bool r) ∧ ∃ q, w' = w.drewN q := by
  have HA := Aside0.mk H
  clear H
  go_enter Tryd.func32, Tryd.ntmps32
  go_wp2
  go_loopg [5, 6, 7, 8] f (fun gg s5 s6 s7 s8 wr => ∃ st fr i k q : Nat, s5 = .int .i64 ((st : Int) - 1) ∧ s6 = .int .i64 fr ∧ s7 = .int .i64 i ∧ s8 = .int .i64 k ∧ wr = w.drewN q ∧ i ≤ p.size ∧ k ≤ s.size ∧ st ≤ p.size ∧ fr ≤ k ∧ Aside0 (G.gr p.data.toList s.data.toList gg st fr i k = some r))
  case atStart => exact ⟨0, 0, 0, 0, 0, by simp, rfl, rfl, rfl, rfl, Nat.zero_le _, Nat.zero_le _, Nat.zero_le _, Nat.le_refl _, HA⟩
  case round =>
    clear HA
    obtain ⟨st, fr, i, k, q, rfl, rfl, rfl, rfl, rfl, hi, hk, hst, hfr, HA⟩ := hrel
    have hsl : s.data.toList.length = s.size := by simp
    have hpl : p.data.toList.length = p.size := by simp
    cases gk with
    | zero => have := HA.out; rw [G.gr] at this; cases this
    | succ g =>
      by_cases hlt : k < s.size
      · have hltz : (k : Int) < (s.size : Int) := by omega
        have eK := getB s k hlt
        by_cases hip : i < p.size
        · have hipz : (i : Int) < (p.size : Int) := by omega
          have eI := getB p i hip
          by_cases h42 : p[i] = 42
          · have z42 : (p[i].toNat : Int) = 42 := by rw [h42]; rfl
            have HN := Aside0.mk (gr_star (by omega) (by omega) (by rw [eI]; exact h42) HA.out)
            clear HA h42 eI eK
            go_wp2
            go_roundg g
            case measure => omega
            case rel => exact ⟨i + 1, k, i + 1, k, q, by simp, rfl, by go_num, rfl, rfl, by omega, hk, by omega, by omega, HN⟩
          · have z42 : ¬ (p[i].toNat : Int) = 42 := fun h => h42 ((byte_int _ 42).1 h)
            by_cases h63 : p[i] = 63
            · have z63 : (p[i].toNat : Int) = 63 := by rw [h63]; rfl
              have HN := Aside0.mk (gr_one (by omega) (by omega) (by rw [eI]; exact h42) (by rw [eI]; exact .inl h63) HA.out)
              clear HA h42 h63 eI eK
              go_wp2
              repeat (go_quiet (fail); try go_wp2)
              go_roundg g
              case measure => omega
              case rel => exact ⟨st, fr, i + 1, k + 1, _, rfl, rfl, by go_num, by go_num, rfl, by omega, by omega, by omega, by omega, HN⟩
            · have z63 : ¬ (p[i].toNat : Int) = 63 := fun h => h63 ((byte_int _ 63).1 h)
              by_cases heq : p[i] = s[k]
              · have zeq : (p[i].toNat : Int) = (s[k].toNat : Int) := by rw [heq]
                have HN := Aside0.mk (gr_one (by omega) (by omega) (by rw [eI]; exact h42) (by rw [eI, eK]; exact .inr heq) HA.out)
                rw [heq] at z42 z63
                clear HA h42 h63 eI eK heq
                go_wp2
                repeat (go_quiet (fail); try go_wp2)
                go_roundg g
                case measure => omega
                case rel => exact ⟨st, fr, i + 1, k + 1, _, rfl, rfl, by go_num, by go_num, rfl, by omega, by omega, by omega, by omega, HN⟩
              · have zeq : ¬ (p[i].toNat : Int) = (s[k].toNat : Int) := fun h => heq ((byte_int _ _).1 h)
                have b63 : ((p[i].toNat : Int) == 63) = false := beq_eq_false_iff_ne.2 z63
                have beq : ((p[i].toNat : Int) == (s[k].toNat : Int)) = false := beq_eq_false_iff_ne.2 zeq
                by_cases hst0 : 0 < st
                · have hstz : (0 : Int) ≤ (st : Int) - 1 := by omega
                  have HN := Aside0.mk (gr_back (by omega) (by rw [eI]; exact fun x => h42 x.2) (by rw [eI, eK]; exact fun x => x.2.elim h63 heq) hst0 HA.out)
                  clear HA h42 h63 eI eK
                  go_wp2
                  repeat (go_quiet (fail); try go_wp2)
                  go_roundg g
                  case measure => omega
                  case rel => exact ⟨st, fr + 1, st, fr + 1, _, rfl, by go_num, by go_num, by go_num, rfl, by omega, by omega, by omega, by omega, HN⟩
                · have hstz : ¬ (0 : Int) ≤ (st : Int) - 1 := by omega
                  have HN := gr_no (by omega) (by rw [eI]; exact fun x => h42 x.2) (by rw [eI, eK]; exact fun x => x.2.elim h63 heq) hst0 HA.out
                  subst HN
                  clear HA h42 h63 eI eK
                  go_wp2
                  repeat (go_quiet (fail); try go_wp2)
                  go_ret
                  exact ⟨rfl, _, rfl⟩
        · have hipz : ¬ (i : Int) < (p.size : Int) := by omega
          by_cases hst0 : 0 < st
          · have hstz : (0 : Int) ≤ (st : Int) - 1 := by omega
            have HN := Aside0.mk (gr_back (by omega) (fun x => hip (by omega)) (fun x => hip (by omega)) hst0 HA.out)
            clear HA eK
            go_wp2
            repeat (go_quiet (fail); try go_wp2)
            go_roundg g
            case measure => omega
            case rel => exact ⟨st, fr + 1, st, fr + 1, _, rfl, by go_num, by go_num, by go_num, rfl, by omega, by omega, by omega, by omega, HN⟩
          · have hstz : ¬ (0 : Int) ≤ (st : Int) - 1 := by omega
            have HN := gr_no (by omega) (fun x => hip (by omega)) (fun x => hip (by omega)) hst0 HA.out
            subst HN
            clear HA eK
            go_wp2
            repeat (go_quiet (fail); try go_wp2)
            go_ret
            exact ⟨rfl, _, rfl⟩
      · have hltz : ¬ (k : Int) < (s.size : Int) := by omega
        have hr := gr_end (by omega) HA.out
        clear HA
        have htr : ∀ W, Calls Tryd.prog 51 #[.string (p.extract i p.size), .string ⟨#[42]⟩] W fun e w' => ∃ t : ByteArray, e = .returned (.string t) ∧ (t.toList = [] ↔ r = true) ∧ ∃ q, w' = W.drewN q := fun W => by
          refine (Tryd.strings_Trim_one (p.extract i p.size) 42 (by decide) W (by rw [ByteArray.size_extract]; omega)).mono ?_
          rintro e w' ⟨rfl, hw⟩
          refine ⟨_, rfl, ?_, hw.elim (fun h => ⟨0, h⟩) (fun h => ⟨1, h⟩)⟩
          rw [Lib.toList_data, ← hr]
          have ed : (p.extract i p.size).data.toList = p.data.toList.drop i := Lib.extract_to_end p i
          show Lib.trimB (p.extract i p.size).data.toList 42 = [] ↔ _
          rw [ed]
          exact trim_stars _
        clear hr
        go_wp2_with (go_at_call 51; refine (htr _).mono ?_; rintro e w' ⟨t, rfl, ht, q', rfl⟩)
        all_goals (go_ret; refine ⟨?_, _, rfl⟩; show Ending.returned (.bool _) = .returned (.bool _); congr 2; rw [Bool.eq_iff_iff, ← ht]; simp)
theorem part_any (p s : ByteArray) (w : World) (hp : p.size < 4294967281) (hs : s.size < 4294967281) :
    Calls Tryd.prog 32 #[.string p, .string s] w fun e w' => e = .returned (.bool (G.pm p.data.toList s.data.toList)) ∧ ∃ q, w' = w.drewN q :=
  part_walk p s _ _ w hp hs (G.gr_pm _ _)
end Go.Proofs.YteignlfpjmfleaaDoor.E
