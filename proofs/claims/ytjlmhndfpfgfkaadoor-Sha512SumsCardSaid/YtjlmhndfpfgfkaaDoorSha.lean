/- Sums of 512 bits, on lists of numbers. No program in sight. -/
import Derived.Test.YtjlmhndfpfgfkaaDoorSpec
set_option linter.unusedVariables false
set_option linter.unusedSimpArgs false
namespace Go.Proofs.YtjlmhndfpfgfkaaDoor.Sh
open Go.Proofs.YtjlmhndfpfgfkaaDoor.S

def M : Nat := 18446744073709551616
/-- a word turned right. -/
def rr (x n : Nat) : Nat := (x * 2 ^ (64 - n)) % 18446744073709551616 ||| x / 2 ^ n
def nt (x : Nat) : Nat := 18446744073709551615 - x
def ad (a b : Nat) : Nat := (a + b) % 18446744073709551616
def kw : List Nat := [
  4794697086780616226, 8158064640168781261, 13096744586834688815, 16840607885511220156, 4131703408338449720, 6480981068601479193, 10538285296894168987, 12329834152419229976,
  15566598209576043074, 1334009975649890238, 2608012711638119052, 6128411473006802146, 8268148722764581231, 9286055187155687089, 11230858885718282805, 13951009754708518548,
  16472876342353939154, 17275323862435702243, 1135362057144423861, 2597628984639134821, 3308224258029322869, 5365058923640841347, 6679025012923562964, 8573033837759648693,
  10970295158949994411, 12119686244451234320, 12683024718118986047, 13788192230050041572, 14330467153632333762, 15395433587784984357, 489312712824947311, 1452737877330783856,
  2861767655752347644, 3322285676063803686, 5560940570517711597, 5996557281743188959, 7280758554555802590, 8532644243296465576, 9350256976987008742, 10552545826968843579,
  11727347734174303076, 12113106623233404929, 14000437183269869457, 14369950271660146224, 15101387698204529176, 15463397548674623760, 17586052441742319658, 1182934255886127544,
  1847814050463011016, 2177327727835720531, 2830643537854262169, 3796741975233480872, 4115178125766777443, 5681478168544905931, 6601373596472566643, 7507060721942968483,
  8399075790359081724, 8693463985226723168, 9568029438360202098, 10144078919501101548, 10430055236837252648, 11840083180663258601, 13761210420658862357, 14299343276471374635,
  14566680578165727644, 15097957966210449927, 16922976911328602910, 17689382322260857208, 500013540394364858, 748580250866718886, 1242879168328830382, 1977374033974150939,
  2944078676154940804, 3659926193048069267, 4368137639120453308, 4836135668995329356, 5532061633213252278, 6448918945643986474, 6902733635092675308, 7801388544844847127]
def h0 : List Nat := [7640891576956012808, 13503953896175478587, 4354685564936845355, 11912009170470909681, 5840696475078001361, 11170449401992604703, 2270897969802886507, 6620516959819538809]
/-- a block's words, with those that are made of them. -/
def w16 (b : List UInt8) (t : Nat) : List Nat := (List.range t).map fun i => num ((b.drop (8 * i)).take 8)
def sg0 (a : Nat) : Nat := (rr a 1 ^^^ rr a 8) ^^^ a / 2 ^ 7
def sg1 (b : Nat) : Nat := (rr b 19 ^^^ rr b 61) ^^^ b / 2 ^ 6
def nextW (l : List Nat) : Nat := ad (ad (ad (l.getD (l.length - 16) 0) (sg0 (l.getD (l.length - 15) 0))) (l.getD (l.length - 7) 0)) (sg1 (l.getD (l.length - 2) 0))
def grow : Nat → List Nat → List Nat
  | 0, l => l
  | n + 1, l => grow n (l ++ [nextW l])
def sched (b : List UInt8) : List Nat := grow 64 (w16 b 16)
/-- one round. -/
def t1 (e f g h k w : Nat) : Nat := ad (ad (ad (ad h ((rr e 14 ^^^ rr e 18) ^^^ rr e 41)) ((e &&& f) ^^^ (nt e &&& g))) k) w
def t2 (a b c : Nat) : Nat := ad ((rr a 28 ^^^ rr a 34) ^^^ rr a 39) (((a &&& b) ^^^ (a &&& c)) ^^^ (b &&& c))
def rnd : List Nat → Nat → Nat → List Nat
  | [a, b, c, d, e, f, g, h], k, w => [ad (t1 e f g h k w) (t2 a b c), a, b, c, ad d (t1 e f g h k w), e, f, g]
  | v, _, _ => v
def rnds (W : List Nat) : Nat → List Nat → List Nat
  | 0, v => v
  | t + 1, v => rnd (rnds W t v) (kw.getD t 0) (W.getD t 0)
def comp (h : List Nat) (b : List UInt8) : List Nat := List.zipWith ad h (rnds (sched b) 80 h)
/-- block by block. -/
def blocks : Nat → List Nat → List UInt8 → List Nat × List UInt8
  | 0, h, s => (h, s)
  | f + 1, h, s => if s.length < 128 then (h, s) else blocks f (comp h s) (s.drop 128)
def take (h : List Nat) (buf s : List UInt8) : List Nat × List UInt8 := blocks (buf.length + s.length) h (buf ++ s)
/-- what ends a sum of n bytes of which so many wait. -/
def tail (n m : Nat) : List UInt8 := 128 :: (List.replicate ((239 - m) % 128 + 8) 0 ++ be 8 ((8 * n) % 18446744073709551616))
def bytes (h : List Nat) : List UInt8 := h.flatMap (be 8)
def fin (h : List Nat) (buf : List UInt8) (n : Nat) : List UInt8 := bytes (take h buf (tail n buf.length)).1
def sum (s : List UInt8) : List UInt8 := fin (take h0 [] s).1 (take h0 [] s).2 s.length
theorem abc : (sum [97, 98, 99]).take 4 = [0xdd, 0xaf, 0x35, 0xa1] ∧ (sum [97, 98, 99]).length = 64 := by decide +kernel
/-! ### the schedule, word by word -/
theorem ad_lt (a b : Nat) : ad a b < 18446744073709551616 := by unfold ad; exact Nat.mod_lt _ (by decide)
theorem nextW_lt (l : List Nat) : nextW l < 18446744073709551616 := by unfold nextW; exact ad_lt _ _
theorem num8_lt (b : List UInt8) : num (b.take 8) < 18446744073709551616 := by
  have h : num (b.take 8) < 256 ^ 8 := Nat.lt_of_lt_of_le (num_lt _) (Nat.pow_le_pow_right (by decide) (List.length_take_le _ _))
  have e : (256 : Nat) ^ 8 = 18446744073709551616 := by decide
  rw [e] at h; exact h
theorem grow_length (n : Nat) (l : List Nat) : (grow n l).length = l.length + n := by
  induction n generalizing l with
  | zero => rfl
  | succ n ih => rw [grow, ih]; simp; omega
theorem grow_low (n : Nat) (l : List Nat) (j : Nat) (h : j < l.length) : (grow n l).getD j 0 = l.getD j 0 := by
  induction n generalizing l with
  | zero => rfl
  | succ n ih => rw [grow, ih _ (by simp; omega), List.getD_eq_getElem?_getD, List.getD_eq_getElem?_getD, List.getElem?_append_left h]
theorem grow_take (n : Nat) (l : List Nat) (j : Nat) (h : j ≤ l.length) : (grow n l).take j = l.take j := by
  induction n generalizing l with
  | zero => rfl
  | succ n ih => rw [grow, ih _ (by simp; omega), List.take_append_of_le_length h]
theorem getD_snoc (l : List Nat) (x : Nat) : (l ++ [x]).getD l.length 0 = x := by simp [List.getD_eq_getElem?_getD]
theorem grow_high (n : Nat) (l : List Nat) (j : Nat) (h1 : l.length ≤ j) (h2 : j < l.length + n) : (grow n l).getD j 0 = nextW ((grow n l).take j) := by
  induction n generalizing l with
  | zero => omega
  | succ n ih =>
    rw [grow]
    by_cases h : j = l.length
    · subst h
      rw [grow_low _ _ _ (by simp), grow_take _ _ _ (by simp), List.take_append_of_le_length (Nat.le_refl _), List.take_length]
      exact getD_snoc l _
    · exact ih (l ++ [nextW l]) (by simp; omega) (by simp; omega)
theorem sched_length (b : List UInt8) : (sched b).length = 80 := by rw [sched, grow_length]; simp [w16]
theorem sched_low (b : List UInt8) (t : Nat) (h : t < 16) : (sched b).getD t 0 = num ((b.drop (8 * t)).take 8) := by
  rw [sched, grow_low _ _ _ (by simp [w16]; exact h), w16, List.getD_eq_getElem?_getD]
  simp [h]
theorem take_getD (l : List Nat) (t j : Nat) (h : j < t) : (l.take t).getD j 0 = l.getD j 0 := by
  rw [List.getD_eq_getElem?_getD, List.getD_eq_getElem?_getD, List.getElem?_take_of_lt h]
theorem sched_high (b : List UInt8) (t : Nat) (h1 : 16 ≤ t) (h2 : t < 80) :
    (sched b).getD t 0 = ad (ad (ad ((sched b).getD (t - 16) 0) (sg0 ((sched b).getD (t - 15) 0))) ((sched b).getD (t - 7) 0)) (sg1 ((sched b).getD (t - 2) 0)) := by
  have hl : ((sched b).take t).length = t := by rw [List.length_take, sched_length]; omega
  have := grow_high 64 (w16 b 16) t (by simp [w16]; exact h1) (by simp [w16]; omega)
  rw [show grow 64 (w16 b 16) = sched b from rfl] at this
  rw [this, nextW, hl, take_getD _ _ _ (by omega), take_getD _ _ _ (by omega), take_getD _ _ _ (by omega), take_getD _ _ _ (by omega)]
theorem sched_lt (b : List UInt8) (t : Nat) : (sched b).getD t 0 < 18446744073709551616 := by
  by_cases h : t < 80
  · by_cases h1 : t < 16
    · rw [sched_low b t h1]; exact num8_lt _
    · rw [sched_high b t (by omega) h]; exact ad_lt _ _
  · rw [List.getD_eq_getElem?_getD, List.getElem?_eq_none (by rw [sched_length]; omega)]; decide
theorem rnd_length (v : List Nat) (k w : Nat) : (rnd v k w).length = v.length := by
  unfold rnd
  split
  · simp only [List.length_cons, List.length_nil]
  · rfl
theorem rnds_length (W : List Nat) (t : Nat) (v : List Nat) : (rnds W t v).length = v.length := by
  induction t with
  | zero => rfl
  | succ t ih => rw [rnds, rnd_length, ih]
theorem comp_length (h : List Nat) (b : List UInt8) : (comp h b).length = h.length := by
  rw [comp, List.length_zipWith, rnds_length, Nat.min_self]
theorem zip_ad_lt (a b : List Nat) : ∀ x ∈ List.zipWith ad a b, x < 18446744073709551616 := by
  intro x hx
  rw [List.mem_iff_getElem] at hx
  obtain ⟨i, hi, rfl⟩ := hx
  rw [List.getElem_zipWith]
  exact ad_lt _ _
theorem comp_lt (h : List Nat) (b : List UInt8) : ∀ x ∈ comp h b, x < 18446744073709551616 := by
  unfold comp; exact zip_ad_lt _ _
theorem w16_take (b : List UInt8) : w16 (b.take 128) 16 = w16 b 16 := by
  unfold w16
  apply List.map_congr_left
  intro i hi
  have : i < 16 := List.mem_range.1 hi
  rw [List.drop_take, List.take_take, Nat.min_eq_left (by omega)]
theorem comp_take (h : List Nat) (b : List UInt8) : comp h (b.take 128) = comp h b := by
  unfold comp sched
  rw [w16_take]
theorem blocks_fuel (f : Nat) : ∀ (g : Nat) (h : List Nat) (s : List UInt8), s.length ≤ f → s.length ≤ g → blocks f h s = blocks g h s := by
  induction f with
  | zero =>
    intro g h s hf hg
    cases g with
    | zero => rfl
    | succ g => rw [blocks, blocks, if_pos (by omega)]
  | succ f ih =>
    intro g h s hf hg
    cases g with
    | zero => rw [blocks, blocks, if_pos (by omega)]
    | succ g =>
      rw [blocks, blocks]
      split
      · rfl
      · exact ih g _ _ (by rw [List.length_drop]; omega) (by rw [List.length_drop]; omega)
theorem blocks_done (f : Nat) (h : List Nat) (s : List UInt8) (hs : s.length < 128) : blocks f h s = (h, s) := by
  cases f with
  | zero => rfl
  | succ f => rw [blocks, if_pos hs]
theorem blocks_step (h : List Nat) (s : List UInt8) (hs : 128 ≤ s.length) : blocks s.length h s = blocks (s.drop 128).length (comp h s) (s.drop 128) := by
  rw [blocks_fuel s.length (s.length + 1) h s (Nat.le_refl _) (by omega), blocks, if_neg (by omega)]
  exact blocks_fuel _ _ _ _ (by rw [List.length_drop]; omega) (Nat.le_refl _)
theorem blocks_ok (f : Nat) : ∀ (h : List Nat) (s : List UInt8), h.length = 8 → (∀ x ∈ h, x < 18446744073709551616) → (blocks f h s).1.length = 8 ∧ ∀ x ∈ (blocks f h s).1, x < 18446744073709551616 := by
  induction f with
  | zero => intro h s h1 h2; exact ⟨h1, h2⟩
  | succ f ih =>
    intro h s h1 h2
    rw [blocks]
    split
    · exact ⟨h1, h2⟩
    · exact ih _ _ (by rw [comp_length, h1]) (comp_lt _ _)
theorem blocks_rest (f : Nat) : ∀ (h : List Nat) (s : List UInt8), s.length ≤ f → (blocks f h s).2 = s.drop (128 * (s.length / 128)) := by
  induction f with
  | zero => intro h s hs; obtain rfl : s = [] := List.length_eq_zero_iff.1 (by omega); rfl
  | succ f ih =>
    intro h s hs
    rw [blocks]
    split
    · rename_i hlt
      rw [Nat.div_eq_of_lt hlt]; rfl
    · rw [ih _ _ (by rw [List.length_drop]; omega), List.drop_drop, List.length_drop]
      congr 1; omega
theorem take_rest (h : List Nat) (buf s : List UInt8) : (take h buf s).2 = (buf ++ s).drop (128 * ((buf ++ s).length / 128)) := by
  unfold take; exact blocks_rest _ _ _ (by simp)
theorem take_rest_length (h : List Nat) (buf s : List UInt8) : (take h buf s).2.length = (buf.length + s.length) % 128 := by
  rw [take_rest, List.length_drop, List.length_append]; omega
/-- block after block: what was taken in two goes. -/
theorem blocks_append (f : Nat) : ∀ (h : List Nat) (a b : List UInt8), a.length ≤ f → blocks (a ++ b).length h (a ++ b) = blocks ((blocks f h a).2 ++ b).length (blocks f h a).1 ((blocks f h a).2 ++ b) := by
  induction f with
  | zero => intro h a b ha; rfl
  | succ f ih =>
    intro h a b ha
    by_cases hlt : a.length < 128
    · rw [blocks_done (f + 1) h a hlt]
    · have e : blocks (f + 1) h a = blocks f (comp h a) (a.drop 128) := by rw [blocks, if_neg hlt]
      rw [e, blocks_step h (a ++ b) (by rw [List.length_append]; omega), List.drop_append_of_le_length (by omega)]
      rw [← ih (comp h a) (a.drop 128) b (by rw [List.length_drop]; omega)]
      rw [← comp_take h (a ++ b), ← comp_take h a, List.take_append_of_le_length (by omega)]
theorem take_take (h : List Nat) (buf a b : List UInt8) : take (take h buf a).1 (take h buf a).2 b = take h buf (a ++ b) := by
  unfold take
  rw [← List.length_append, ← List.length_append, ← List.length_append, ← List.append_assoc]
  exact (blocks_append _ h (buf ++ a) b (Nat.le_refl _)).symm
theorem rr_lt (x n : Nat) (h : x < 18446744073709551616) : rr x n < 18446744073709551616 := by
  unfold rr
  exact Nat.or_lt_two_pow (n := 64) (Nat.mod_lt _ (by decide)) (Nat.lt_of_le_of_lt (Nat.div_le_self _ _) h)
theorem xor_lt (a b : Nat) (h1 : a < 18446744073709551616) (h2 : b < 18446744073709551616) : a ^^^ b < 18446744073709551616 := Nat.xor_lt_two_pow (n := 64) h1 h2
theorem and_lt (a b : Nat) (h1 : a < 18446744073709551616) : a &&& b < 18446744073709551616 := Nat.lt_of_le_of_lt Nat.and_le_left h1
theorem nt_lt (a : Nat) : nt a < 18446744073709551616 := by unfold nt; omega
theorem div_lt (a n : Nat) (h : a < 18446744073709551616) : a / n < 18446744073709551616 := Nat.lt_of_le_of_lt (Nat.div_le_self _ _) h
end Go.Proofs.YtjlmhndfpfgfkaaDoor.Sh
