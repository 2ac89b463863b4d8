/- What a name asks for, as the program and as the reference tell it: both tell the one thing that has this name. No program in sight. -/
import Derived.Test.YtmgkgjacnbeboaaDoorN1
set_option linter.unusedVariables false
set_option linter.unusedSimpArgs false
namespace Go.Proofs.YtmgkgjacnbeboaaDoor.Nm
open Go.Lib

def META : List UInt8 := [109, 101, 116, 97]
def DATA : List UInt8 := [100, 97, 116, 97]
def LOG : List UInt8 := [108, 111, 103]
def HEAD : List UInt8 := [104, 101, 97, 100]
def PATH : List UInt8 := [112, 97, 116, 104]
def STEP : List UInt8 := [115, 116, 101, 112]
def LEAF : List UInt8 := [108, 101, 97, 102]
/-- What may be asked of a log: its kind, how many numbers it has. -/
def kd (l : List UInt8) : Option (Int × Int) := if l = HEAD then some (3, 0) else if l = PATH then some (4, 2) else if l = STEP then some (5, 2) else if l = LEAF then some (6, 1) else none
abbrev Ask := Int × List UInt8 × List UInt8 × Int × Int
def nil : Ask := (0, [], [], 0, 0)
def metaN (r : List UInt8) (v : Int) : List UInt8 × Int := if nameOk r = true ∧ within v = true then (join [META, r, itoa v] [47], 0) else ([], 1)
def dataN (sum : List UInt8) : List UInt8 × Int := if sum.length = 32 then (join [DATA, S.hexs sum] [47], 0) else ([], 1)
def logN (what : List UInt8) (a b : Int) : List UInt8 × Int :=
  match kd what with
  | none => ([], 1)
  | some (_, n) => if within a = true ∧ within b = true ∧ ¬ (n < 1 ∧ a ≠ 0) ∧ ¬ (n < 2 ∧ b ≠ 0) then (join ([LOG, what, itoa a, itoa b].take (2 + n).toNat) [47], 0) else ([], 1)
def part (l : List (List UInt8)) (i : Nat) : List UInt8 := l.getD i []
/-- What a text asks for, and the name that would be. -/
def asked (l : List (List UInt8)) : Ask × List UInt8 × Int :=
  if part l 0 = META then ((1, part l 1, [], atoiV (part l 2), 0), metaN (part l 1) (atoiV (part l 2)))
  else if part l 0 = DATA then ((2, [], (S.unhex (part l 1)).getD [], 0, 0), dataN ((S.unhex (part l 1)).getD []))
  else if part l 0 = LOG then ((((kd (part l 1)).map (·.1)).getD 0, [], [], atoiV (part l 2), atoiV (part l 3)), logN (part l 1) (atoiV (part l 2)) (atoiV (part l 3)))
  else (nil, [], 1)
def parseN (s : List UInt8) : Ask × Int := if (asked (G.split s)).2.2 = 0 ∧ (asked (G.split s)).2.1 = s then ((asked (G.split s)).1, 0) else (nil, 36)
/-- The name of what is asked for, its parts. -/
def parts : Ask → List (List UInt8)
  | (k, r, sum, a, b) => if k = 1 then [META, r, itoa a] else if k = 2 then [DATA, S.hexs sum] else if k = 3 then [LOG, HEAD] else if k = 4 then [LOG, PATH, itoa a, itoa b] else if k = 5 then [LOG, STEP, itoa a, itoa b] else [LOG, LEAF, itoa a]
def nmS (a : Ask) : List UInt8 := join (parts a) [47]
/-- What may be asked for. -/
inductive Valid : Ask → Prop
  | meta_ (r : List UInt8) (v : Nat) (hr : nameOk r = true) (hv : v ≤ 1000000) : Valid (1, r, [], (v : Int), 0)
  | data_ (sum : List UInt8) (hs : sum.length = 32) : Valid (2, [], sum, 0, 0)
  | head : Valid (3, [], [], 0, 0)
  | path (u v : Nat) (hu : u ≤ 1000000) (hv : v ≤ 1000000) : Valid (4, [], [], (u : Int), (v : Int))
  | step (u v : Nat) (hu : u ≤ 1000000) (hv : v ≤ 1000000) : Valid (5, [], [], (u : Int), (v : Int))
  | leaf (u : Nat) (hu : u ≤ 1000000) : Valid (6, [], [], (u : Int), 0)
theorem hexs_noslash (l : List UInt8) : (47 : UInt8) ∉ S.hexs l := by
  induction l with
  | nil => simp [S.hexs_nil]
  | cons c t ih =>
    rw [S.hexs_cons]
    intro h
    rcases List.mem_append.1 h with h | h
    · have key : ∀ n, n < 16 → S.digs.getD n 0 ≠ 47 := by decide
      have h8 : c.toNat < 256 := c.toNat_lt
      unfold S.hex1 at h
      rcases (by simpa using h : (47 : UInt8) = S.digs.getD (c.toNat / 16) 0 ∨ (47 : UInt8) = S.digs.getD (c.toNat % 16) 0) with h | h
      · exact key _ (by omega) h.symm
      · exact key _ (by omega) h.symm
    · exact ih h
theorem valid_split {a : Ask} (h : Valid a) : G.split (nmS a) = parts a := by
  refine split_join _ ?_ ?_
  · cases h <;> simp [parts]
  · cases h with
    | meta_ r v hr hv =>
      intro x hx
      rcases (by simpa [parts] using hx : x = META ∨ x = r ∨ x = itoa (v : Int)) with rfl | rfl | rfl
      · decide
      · exact name_noslash hr
      · rw [itoa_nat]; exact dec_noslash v
    | data_ sum hs =>
      intro x hx
      rcases (by simpa [parts] using hx : x = DATA ∨ x = S.hexs sum) with rfl | rfl
      · decide
      · exact hexs_noslash sum
    | head =>
      intro x hx
      rcases (by simpa [parts] using hx : x = LOG ∨ x = HEAD) with rfl | rfl <;> decide
    | path u v hu hv =>
      intro x hx
      rcases (by simpa [parts] using hx : x = LOG ∨ x = PATH ∨ x = itoa (u : Int) ∨ x = itoa (v : Int)) with rfl | rfl | rfl | rfl
      · decide
      · decide
      · rw [itoa_nat]; exact dec_noslash u
      · rw [itoa_nat]; exact dec_noslash v
    | step u v hu hv =>
      intro x hx
      rcases (by simpa [parts] using hx : x = LOG ∨ x = STEP ∨ x = itoa (u : Int) ∨ x = itoa (v : Int)) with rfl | rfl | rfl | rfl
      · decide
      · decide
      · rw [itoa_nat]; exact dec_noslash u
      · rw [itoa_nat]; exact dec_noslash v
    | leaf u hu =>
      intro x hx
      rcases (by simpa [parts] using hx : x = LOG ∨ x = LEAF ∨ x = itoa (u : Int)) with rfl | rfl | rfl
      · decide
      · decide
      · rw [itoa_nat]; exact dec_noslash u
theorem within_nat {v : Nat} (h : v ≤ 1000000) : within (v : Int) = true := by unfold within; simp; omega
theorem atoiV_nil : atoiV [] = 0 := rfl
theorem lm : ¬ LOG = META := by decide
theorem ld : ¬ LOG = DATA := by decide
theorem dm : ¬ DATA = META := by decide
theorem ph : ¬ PATH = HEAD := by decide
theorem pl : ¬ PATH = LEAF := by decide
theorem ps : ¬ PATH = STEP := by decide
theorem sh : ¬ STEP = HEAD := by decide
theorem sl : ¬ STEP = LEAF := by decide
theorem lh : ¬ LEAF = HEAD := by decide
theorem asked_log (w : List (List UInt8)) : asked (LOG :: w) = ((((kd (part (LOG :: w) 1)).map (·.1)).getD 0, [], [], atoiV (part (LOG :: w) 2), atoiV (part (LOG :: w) 3)), logN (part (LOG :: w) 1) (atoiV (part (LOG :: w) 2)) (atoiV (part (LOG :: w) 3))) := by
  unfold asked
  exact (if_neg lm).trans ((if_neg ld).trans (if_pos rfl))
theorem logN_of (what : List UInt8) (k n a b : Int) (hk : kd what = some (k, n)) (h : within a = true ∧ within b = true ∧ ¬ (n < 1 ∧ a ≠ 0) ∧ ¬ (n < 2 ∧ b ≠ 0)) : logN what a b = (join ([LOG, what, itoa a, itoa b].take (2 + n).toNat) [47], 0) := by
  unfold logN; rw [hk]; exact if_pos h
/-- Of what may be asked for the name is told, and asks for it. -/
theorem asked_valid {a : Ask} (h : Valid a) : asked (parts a) = (a, nmS a, 0) := by
  cases h with
  | meta_ r v hr hv =>
    have e : parts (1, r, [], (v : Int), 0) = [META, r, decDigits v] := by rw [← itoa_nat]; rfl
    unfold nmS
    rw [e]
    unfold asked
    refine (if_pos rfl).trans ?_
    show ((1, r, [], atoiV (decDigits v), 0), metaN r (atoiV (decDigits v))) = _
    rw [atoiV_dec v hv]
    unfold metaN
    rw [if_pos ⟨hr, within_nat hv⟩, itoa_nat]
  | data_ sum hs =>
    have e : parts (2, [], sum, 0, 0) = [DATA, S.hexs sum] := rfl
    unfold nmS
    rw [e]
    unfold asked
    refine (if_neg dm).trans ((if_pos rfl).trans ?_)
    show ((2, [], (S.unhex (S.hexs sum)).getD [], 0, 0), dataN ((S.unhex (S.hexs sum)).getD [])) = _
    rw [S.unhex_hexs]
    unfold dataN
    simp [hs]
  | head =>
    have e : parts (3, [], [], 0, 0) = [LOG, HEAD] := rfl
    unfold nmS
    rw [e, asked_log]
    show (((3 : Int), [], [], atoiV [], atoiV []), logN HEAD (atoiV []) (atoiV [])) = _
    rw [atoiV_nil, logN_of HEAD 3 0 0 0 rfl ⟨by decide, by decide, by decide, by decide⟩]; rfl
  | path u v hu hv =>
    have e : parts (4, [], [], (u : Int), (v : Int)) = [LOG, PATH, decDigits u, decDigits v] := by rw [← itoa_nat, ← itoa_nat]; rfl
    unfold nmS
    rw [e, asked_log]
    show (((4 : Int), [], [], atoiV (decDigits u), atoiV (decDigits v)), logN PATH (atoiV (decDigits u)) (atoiV (decDigits v))) = _
    rw [atoiV_dec u hu, atoiV_dec v hv, logN_of PATH 4 2 _ _ rfl ⟨within_nat hu, within_nat hv, by omega, by omega⟩, itoa_nat, itoa_nat]; rfl
  | step u v hu hv =>
    have e : parts (5, [], [], (u : Int), (v : Int)) = [LOG, STEP, decDigits u, decDigits v] := by rw [← itoa_nat, ← itoa_nat]; rfl
    unfold nmS
    rw [e, asked_log]
    show (((5 : Int), [], [], atoiV (decDigits u), atoiV (decDigits v)), logN STEP (atoiV (decDigits u)) (atoiV (decDigits v))) = _
    rw [atoiV_dec u hu, atoiV_dec v hv, logN_of STEP 5 2 _ _ rfl ⟨within_nat hu, within_nat hv, by omega, by omega⟩, itoa_nat, itoa_nat]; rfl
  | leaf u hu =>
    have e : parts (6, [], [], (u : Int), 0) = [LOG, LEAF, decDigits u] := by rw [← itoa_nat]; rfl
    unfold nmS
    rw [e, asked_log]
    show (((6 : Int), [], [], atoiV (decDigits u), atoiV []), logN LEAF (atoiV (decDigits u)) (atoiV [])) = _
    rw [atoiV_dec u hu, atoiV_nil, logN_of LEAF 6 1 _ _ rfl ⟨within_nat hu, by decide, by omega, by omega⟩, itoa_nat]; rfl
theorem parse_valid {a : Ask} (h : Valid a) : parseN (nmS a) = (a, 0) := by
  unfold parseN
  rw [valid_split h, asked_valid h, if_pos ⟨rfl, rfl⟩]
theorem valid_inj {a b : Ask} (ha : Valid a) (hb : Valid b) (h : nmS a = nmS b) : a = b := by
  have := parse_valid ha
  rw [h, parse_valid hb] at this
  exact (congrArg Prod.fst this).symm
/-- A name that is told asks for what may be. -/
theorem asked_ok (l : List (List UInt8)) (h : (asked l).2.2 = 0) : Valid (asked l).1 ∧ nmS (asked l).1 = (asked l).2.1 := by
  unfold asked at h ⊢
  by_cases h1 : part l 0 = META
  · rw [if_pos h1] at h ⊢
    unfold metaN at h ⊢
    by_cases hm : nameOk (part l 1) = true ∧ within (atoiV (part l 2)) = true
    · rw [if_pos hm]
      obtain ⟨_, h2, h3⟩ := itoa_in _ hm.2
      have := Valid.meta_ (part l 1) (atoiV (part l 2)).toNat hm.1 h2
      rw [h3] at this
      exact ⟨this, rfl⟩
    · rw [if_neg hm] at h; simp at h
  · rw [if_neg h1] at h ⊢
    by_cases h2 : part l 0 = DATA
    · rw [if_pos h2] at h ⊢
      unfold dataN at h ⊢
      by_cases hm : ((S.unhex (part l 1)).getD []).length = 32
      · rw [if_pos hm]; exact ⟨Valid.data_ _ hm, rfl⟩
      · rw [if_neg hm] at h; simp at h
    · rw [if_neg h2] at h ⊢
      by_cases h3 : part l 0 = LOG
      · rw [if_pos h3] at h ⊢
        generalize part l 1 = what at h ⊢
        generalize atoiV (part l 2) = a at h ⊢
        generalize atoiV (part l 3) = b at h ⊢
        have key : ∀ (k n : Int), kd what = some (k, n) → (within a = true ∧ within b = true ∧ ¬ (n < 1 ∧ a ≠ 0) ∧ ¬ (n < 2 ∧ b ≠ 0)) →
            Valid (k, [], [], a, b) ∧ nmS (k, [], [], a, b) = join ([LOG, what, itoa a, itoa b].take (2 + n).toNat) [47] := by
          intro k n hk hc
          obtain ⟨ha, hb, hn1, hn2⟩ := hc
          obtain ⟨_, a2, a3⟩ := itoa_in a ha
          obtain ⟨_, b2, b3⟩ := itoa_in b hb
          unfold kd at hk
          by_cases w1 : what = HEAD
          · rw [if_pos w1] at hk
            obtain ⟨rfl, rfl⟩ : 3 = k ∧ 0 = n := by simpa using hk
            obtain rfl : a = 0 := by omega
            obtain rfl : b = 0 := by omega
            subst w1
            exact ⟨Valid.head, rfl⟩
          · rw [if_neg w1] at hk
            by_cases w2 : what = PATH
            · rw [if_pos w2] at hk
              obtain ⟨rfl, rfl⟩ : 4 = k ∧ 2 = n := by simpa using hk
              have := Valid.path a.toNat b.toNat a2 b2
              rw [a3, b3] at this
              subst w2
              exact ⟨this, rfl⟩
            · rw [if_neg w2] at hk
              by_cases w3 : what = STEP
              · rw [if_pos w3] at hk
                obtain ⟨rfl, rfl⟩ : 5 = k ∧ 2 = n := by simpa using hk
                have := Valid.step a.toNat b.toNat a2 b2
                rw [a3, b3] at this
                subst w3
                exact ⟨this, rfl⟩
              · rw [if_neg w3] at hk
                by_cases w4 : what = LEAF
                · rw [if_pos w4] at hk
                  obtain ⟨rfl, rfl⟩ : 6 = k ∧ 1 = n := by simpa using hk
                  obtain rfl : b = 0 := by omega
                  have := Valid.leaf a.toNat a2
                  rw [a3] at this
                  subst w4
                  exact ⟨this, rfl⟩
                · rw [if_neg w4] at hk; cases hk
        cases hk : kd what with
        | none => unfold logN at h; rw [hk] at h; simp at h
        | some p =>
          obtain ⟨k, n⟩ := p
          unfold logN at h ⊢
          rw [hk] at h ⊢
          simp only [] at h ⊢
          by_cases hc : within a = true ∧ within b = true ∧ ¬ (n < 1 ∧ a ≠ 0) ∧ ¬ (n < 2 ∧ b ≠ 0)
          · rw [if_pos hc]; exact key k n hk hc
          · rw [if_neg hc] at h; simp at h
      · rw [if_neg h3] at h; simp at h
/-- What a text asks for: just what has it for its name. -/
theorem parse_iff (s : List UInt8) : (∃ a, Valid a ∧ nmS a = s ∧ parseN s = (a, 0)) ∨ ((∀ a, Valid a → nmS a ≠ s) ∧ parseN s = (nil, 36)) := by
  by_cases h : (asked (G.split s)).2.2 = 0 ∧ (asked (G.split s)).2.1 = s
  · obtain ⟨hv, hn⟩ := asked_ok _ h.1
    exact .inl ⟨_, hv, hn.trans h.2, by unfold parseN; rw [if_pos h]⟩
  · refine .inr ⟨fun a ha hs => h ?_, by unfold parseN; rw [if_neg h]⟩
    rw [← hs, valid_split ha, asked_valid ha]; exact ⟨rfl, rfl⟩
/-! ### the reference -/
/-- A number of a word; -1: it is none. -/
def numR (l : List UInt8) : Int := if ∃ v, v ≤ 1000000 ∧ l = decDigits v then atoiV l else -1
theorem numR_dec {v : Nat} (h : v ≤ 1000000) : numR (decDigits v) = (v : Int) := by
  unfold numR; rw [if_pos ⟨v, h, rfl⟩, atoiV_dec v h]
theorem numR_pos {l : List UInt8} (h : 0 ≤ numR l) : ∃ v : Nat, v ≤ 1000000 ∧ l = decDigits v ∧ numR l = (v : Int) := by
  unfold numR at h
  split at h
  · rename_i hv
    obtain ⟨v, hv, rfl⟩ := hv
    exact ⟨v, hv, rfl, numR_dec hv⟩
  · omega
def refN (s : List UInt8) : Ask × Bool :=
  let l := G.split s
  if l.length = 3 ∧ part l 0 = META then ((1, part l 1, [], numR (part l 2), 0), nameOk (part l 1) && decide (0 ≤ numR (part l 2)))
  else if l.length = 2 ∧ part l 0 = DATA then ((2, [], (S.unhex (part l 1)).getD [], 0, 0), (S.unhex (part l 1)).isSome && decide (((S.unhex (part l 1)).getD []).length = 32))
  else if l.length < 2 ∨ part l 0 ≠ LOG then (nil, false)
  else if part l 1 = HEAD then ((3, [], [], 0, 0), decide (l.length = 2))
  else if part l 1 = LEAF ∧ l.length = 3 then ((6, [], [], numR (part l 2), 0), decide (0 ≤ numR (part l 2)))
  else if l.length ≠ 4 ∨ (part l 1 ≠ PATH ∧ part l 1 ≠ STEP) then (nil, false)
  else ((if part l 1 = STEP then 5 else 4, [], [], numR (part l 2), numR (part l 3)), decide (0 ≤ numR (part l 2)) && decide (0 ≤ numR (part l 3)))
theorem ref_valid {a : Ask} (h : Valid a) : refN (nmS a) = (a, true) := by
  unfold refN
  rw [valid_split h]
  cases h with
  | meta_ r v hr hv =>
    have e : parts (1, r, [], (v : Int), 0) = [META, r, decDigits v] := by rw [← itoa_nat]; rfl
    rw [e]
    refine (if_pos ⟨rfl, rfl⟩).trans ?_
    show ((1, r, [], numR (decDigits v), 0), nameOk r && decide (0 ≤ numR (decDigits v))) = _
    rw [numR_dec hv, hr]
    simp
  | data_ sum hs =>
    have e : parts (2, [], sum, 0, 0) = [DATA, S.hexs sum] := rfl
    rw [e]
    refine (if_neg (fun h => dm h.2)).trans ((if_pos ⟨rfl, rfl⟩).trans ?_)
    show ((2, [], (S.unhex (S.hexs sum)).getD [], 0, 0), (S.unhex (S.hexs sum)).isSome && decide (((S.unhex (S.hexs sum)).getD []).length = 32)) = _
    rw [S.unhex_hexs]
    simp [hs]
  | head => rfl
  | path u v hu hv =>
    have e : parts (4, [], [], (u : Int), (v : Int)) = [LOG, PATH, decDigits u, decDigits v] := by rw [← itoa_nat, ← itoa_nat]; rfl
    rw [e]
    refine (if_neg (fun h => lm h.2)).trans ((if_neg (fun h => ld h.2)).trans ((if_neg (fun h => h.elim (fun h => absurd h (show ¬ 4 < 2 by decide)) (fun h => h rfl))).trans ((if_neg ph).trans ((if_neg (fun h => pl h.1)).trans ((if_neg (fun h => h.elim (fun h => h rfl) (fun h => h.1 rfl))).trans ?_)))))
    show ((if PATH = STEP then 5 else 4, [], [], numR (decDigits u), numR (decDigits v)), decide (0 ≤ numR (decDigits u)) && decide (0 ≤ numR (decDigits v))) = _
    rw [if_neg ps, numR_dec hu, numR_dec hv]
    simp
  | step u v hu hv =>
    have e : parts (5, [], [], (u : Int), (v : Int)) = [LOG, STEP, decDigits u, decDigits v] := by rw [← itoa_nat, ← itoa_nat]; rfl
    rw [e]
    refine (if_neg (fun h => lm h.2)).trans ((if_neg (fun h => ld h.2)).trans ((if_neg (fun h => h.elim (fun h => absurd h (show ¬ 4 < 2 by decide)) (fun h => h rfl))).trans ((if_neg sh).trans ((if_neg (fun h => sl h.1)).trans ((if_neg (fun h => h.elim (fun h => h rfl) (fun h => h.2 rfl))).trans ?_)))))
    show ((if STEP = STEP then 5 else 4, [], [], numR (decDigits u), numR (decDigits v)), decide (0 ≤ numR (decDigits u)) && decide (0 ≤ numR (decDigits v))) = _
    rw [if_pos rfl, numR_dec hu, numR_dec hv]
    simp
  | leaf u hu =>
    have e : parts (6, [], [], (u : Int), 0) = [LOG, LEAF, decDigits u] := by rw [← itoa_nat]; rfl
    rw [e]
    refine (if_neg (fun h => lm h.2)).trans ((if_neg (fun h => ld h.2)).trans ((if_neg (fun h => h.elim (fun h => absurd h (show ¬ 3 < 2 by decide)) (fun h => h rfl))).trans ((if_neg lh).trans ((if_pos ⟨rfl, rfl⟩).trans ?_))))
    show ((6, [], [], numR (decDigits u), 0), decide (0 ≤ numR (decDigits u))) = _
    rw [numR_dec hu]
    simp
theorem three (l : List (List UInt8)) (h : l.length = 3) : l = [part l 0, part l 1, part l 2] := by
  match l, h with
  | [a, b, c], _ => rfl
theorem two (l : List (List UInt8)) (h : l.length = 2) : l = [part l 0, part l 1] := by
  match l, h with
  | [a, b], _ => rfl
theorem four (l : List (List UInt8)) (h : l.length = 4) : l = [part l 0, part l 1, part l 2, part l 3] := by
  match l, h with
  | [a, b, c, d], _ => rfl
theorem ref_ok (s : List UInt8) (h : (refN s).2 = true) : Valid (refN s).1 ∧ nmS (refN s).1 = s := by
  have hj := join_split s
  unfold refN at h ⊢
  generalize G.split s = l at h hj ⊢
  simp only [] at h ⊢
  by_cases h1 : l.length = 3 ∧ part l 0 = META
  · rw [if_pos h1] at h ⊢
    have h' : nameOk (part l 1) = true ∧ 0 ≤ numR (part l 2) := by simpa using h
    obtain ⟨v, hv, e1, e2⟩ := numR_pos h'.2
    have e := three l h1.1
    rw [e2]
    refine ⟨Valid.meta_ _ v h'.1 hv, ?_⟩
    show join [META, part l 1, itoa (v : Int)] [47] = s
    rw [itoa_nat, ← e1, ← h1.2, ← e]; exact hj
  · rw [if_neg h1] at h ⊢
    by_cases h2 : l.length = 2 ∧ part l 0 = DATA
    · rw [if_pos h2] at h ⊢
      have e := two l h2.1
      cases hu : S.unhex (part l 1) with
      | none => first | (simp [hu] at h; done) | (rw [hu] at h; simp at h)
      | some r =>
        try rw [hu] at h
        try rw [hu]
        have h' : r.length = 32 := by simpa using h
        refine ⟨Valid.data_ r h', ?_⟩
        show join [DATA, S.hexs r] [47] = s
        rw [S.hexs_unhex _ _ hu, ← h2.2, ← e]; exact hj
    · rw [if_neg h2] at h ⊢
      by_cases h3 : l.length < 2 ∨ part l 0 ≠ LOG
      · rw [if_pos h3] at h; simp at h
      · rw [if_neg h3] at h ⊢
        have hL : part l 0 = LOG := Classical.byContradiction fun e => h3 (.inr e)
        by_cases h4 : part l 1 = HEAD
        · rw [if_pos h4] at h ⊢
          have e := two l (by simpa using h)
          refine ⟨Valid.head, ?_⟩
          show join [LOG, HEAD] [47] = s
          rw [← hL, ← h4, ← e]; exact hj
        · rw [if_neg h4] at h ⊢
          by_cases h5 : part l 1 = LEAF ∧ l.length = 3
          · rw [if_pos h5] at h ⊢
            obtain ⟨v, hv, e1, e2⟩ := numR_pos (by simpa using h)
            have e := three l h5.2
            rw [e2]
            refine ⟨Valid.leaf v hv, ?_⟩
            show join [LOG, LEAF, itoa (v : Int)] [47] = s
            rw [itoa_nat, ← e1, ← hL, ← h5.1, ← e]; exact hj
          · rw [if_neg h5] at h ⊢
            by_cases h6 : l.length ≠ 4 ∨ (part l 1 ≠ PATH ∧ part l 1 ≠ STEP)
            · rw [if_pos h6] at h; simp at h
            · rw [if_neg h6] at h ⊢
              have h' : 0 ≤ numR (part l 2) ∧ 0 ≤ numR (part l 3) := by simpa using h
              obtain ⟨u, hu, e1, e2⟩ := numR_pos h'.1
              obtain ⟨v, hv, e3, e4⟩ := numR_pos h'.2
              have hl4 : l.length = 4 := Classical.byContradiction fun e => h6 (.inl e)
              have e := four l hl4
              rw [e2, e4]
              by_cases h7 : part l 1 = STEP
              · rw [if_pos h7]
                refine ⟨Valid.step u v hu hv, ?_⟩
                show join [LOG, STEP, itoa (u : Int), itoa (v : Int)] [47] = s
                rw [itoa_nat, itoa_nat, ← e1, ← e3, ← hL, ← h7, ← e]; exact hj
              · rw [if_neg h7]
                have h8 : part l 1 = PATH := Classical.byContradiction fun e => h6 (.inr ⟨e, h7⟩)
                refine ⟨Valid.path u v hu hv, ?_⟩
                show join [LOG, PATH, itoa (u : Int), itoa (v : Int)] [47] = s
                rw [itoa_nat, itoa_nat, ← e1, ← e3, ← hL, ← h8, ← e]; exact hj
theorem ref_iff (s : List UInt8) : (∃ a, Valid a ∧ nmS a = s ∧ refN s = (a, true)) ∨ ((∀ a, Valid a → nmS a ≠ s) ∧ (refN s).2 = false) := by
  cases h : (refN s).2 with
  | true =>
    obtain ⟨h1, h2⟩ := ref_ok s h
    exact .inl ⟨_, h1, h2, by rw [← h]⟩
  | false =>
    refine .inr ⟨fun a ha hs => ?_, rfl⟩
    rw [← hs, ref_valid ha] at h; cases h
end Go.Proofs.YtmgkgjacnbeboaaDoor.Nm
