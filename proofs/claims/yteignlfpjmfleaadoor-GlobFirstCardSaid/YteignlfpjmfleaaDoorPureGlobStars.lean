/- The law GlobStars over plain texts: what its printed form computes is true for any three texts. -/
import Derived.Test.YteignlfpjmfleaaDoorX4
import Derived.Test.YteignlfpjmfleaaDoorP1
import Derived.Test.YteignlfpjmfleaaDoorQ1
set_option linter.unusedVariables false
set_option linter.unusedSimpArgs false
namespace Go.Proofs.YteignlfpjmfleaaDoor.Pure
open Go.RowKit Go.Proofs.YteignlfpjmfleaaDoor Go.Proofs.YteignlfpjmfleaaDoor.X Go.Proofs.YteignlfpjmfleaaDoor.E Go.Proofs.YteignlfpjmfleaaDoorW.PrintWords Go.Proofs.YteignlfpjmfleaaDoorW.PrintLast
theorem mn_nat (n m : Nat) : mn (n : Int) (m : Int) = ((min n m : Nat) : Int) := by unfold mn; split <;> omega
theorem len_list (s : ByteArray) : s.data.toList.length = s.size := by simp
theorem data_app (a b : ByteArray) : (a ++ b).data.toList = a.data.toList ++ b.data.toList := by simp
theorem match_f' (p s : ByteArray) (hp : p.size < 4294967281) (hs : s.size < 4294967281) : glob_Match.f p s = some (may p.data.toList s.data.toList) := by
  unfold glob_Match.f; rw [if_pos ⟨hp, hs⟩]
/-- The last piece: the pattern of a star between two texts. -/
theorem stars_j0 (a b s : ByteArray) (ha : a.size ≤ 40) (hb : b.size ≤ 40) (hs : s.size ≤ 100) (hr : G.right false s.data.toList = true) : imprimaturlaw13_GlobStars.j0 1001 a b s false = some true := by
  have la := len_list a
  have lb := len_list b
  have e1 : (⟨#[42]⟩ : ByteArray).size = 1 := rfl
  have sz : ((a ++ (⟨#[42]⟩ : ByteArray)) ++ b).size = a.size + 1 + b.size := by rw [ByteArray.size_append, ByteArray.size_append]; rfl
  rw [imprimaturlaw13_GlobStars.j0, if_neg (by simp), if_pos (by omega), if_pos (by rw [ByteArray.size_append]; omega), Q.right_f _ true (by omega) 1000 (by omega), Option.bind_some]
  have dp : ((a ++ (⟨#[42]⟩ : ByteArray)) ++ b).data.toList = a.data.toList ++ 42 :: b.data.toList := by simp
  rw [dp]
  cases hp : G.right true (a.data.toList ++ 42 :: b.data.toList) with
  | false =>
    rw [if_neg (by simp), imprimaturlaw13_GlobStars.j1, if_pos rfl]
  | true =>
    have hi := G.right_inv hp
    have has : ∀ c ∈ a.data.toList ++ b.data.toList, c.toNat < 128 := fun c hc => G.byt_ascii (pat := true) (hi.2.1 c (by
      rcases List.mem_append.1 hc with h | h
      · exact List.mem_append_left _ h
      · exact List.mem_append_right _ (List.mem_cons_of_mem _ h)))
    have hca : strings_ContainsAny.f (a ++ b) ⟨#[42, 63, 47]⟩ = some (Lib.containsAny (a.data.toList ++ b.data.toList) [42, 63, 47]) := by
      unfold strings_ContainsAny.f
      have e3 : (⟨#[42, 63, 47]⟩ : ByteArray).size = 3 := rfl
      rw [if_pos ⟨by rw [ByteArray.size_append]; omega, by omega, by unfold ascii; rw [data_app]; exact List.all_eq_true.2 fun c hc => decide_eq_true (has c hc), by decide⟩, data_app]
    rw [if_pos rfl, if_pos (by omega), hca, Option.bind_some]
    cases hc : Lib.containsAny (a.data.toList ++ b.data.toList) [42, 63, 47] with
    | true => rw [if_pos rfl, imprimaturlaw13_GlobStars.j1, if_pos rfl]
    | false =>
      have hno : ∀ c ∈ a.data.toList ++ b.data.toList, c ≠ 42 ∧ c ≠ 63 ∧ c ≠ 47 := fun c hm => by
        have : ¬ ∃ c ∈ a.data.toList ++ b.data.toList, c ∈ ([42, 63, 47] : List UInt8) := fun h => by
          have := (G.containsAny_mem _ _).2 h; rw [hc] at this; cases this
        refine ⟨fun e => this ⟨c, hm, by simp [e]⟩, fun e => this ⟨c, hm, by simp [e]⟩, fun e => this ⟨c, hm, by simp [e]⟩⟩
      rw [if_neg (by simp)]
      unfold strings_Contains.f
      rw [if_pos rfl, Option.bind_some]
      cases hx : decide (0 ≤ Lib.indexByte s.data.toList 47) with
      | true => rw [imprimaturlaw13_GlobStars.j1, if_pos rfl]
      | false =>
        have hx2 : (47 : UInt8) ∉ s.data.toList := fun h => by
          have := (G.indexByte_mem s.data.toList 47).2 h
          rw [decide_eq_false_iff_not] at hx; exact hx this
        have hmay : may (a.data.toList ++ 42 :: b.data.toList) s.data.toList = (decide (a.size + b.size ≤ s.size) && (a.data.toList.isPrefixOf s.data.toList && b.data.toList.isSuffixOf s.data.toList)) := by
          unfold may
          rw [hp, hr, G.mt_single _ _ (fun h => by
            rcases List.mem_append.1 h with h | h
            · exact (hno 47 (List.mem_append_left _ h)).2.2 rfl
            · rcases List.mem_cons.1 h with h | h
              · cases h
              · exact (hno 47 (List.mem_append_right _ h)).2.2 rfl) hx2,
            G.pm_mid _ _ _ (fun c hc => ⟨(hno c (List.mem_append_left _ hc)).1, (hno c (List.mem_append_left _ hc)).2.1⟩) (fun c hc => ⟨(hno c (List.mem_append_right _ hc)).1, (hno c (List.mem_append_right _ hc)).2.1⟩), la, lb, len_list s]
          rfl
        rw [imprimaturlaw13_GlobStars.j1, if_neg (by simp), match_f' _ s (by omega) (by omega), dp, hmay]
        have ew : wrap64 ((a.size : Int) + (b.size : Int)) = ((a.size + b.size : Nat) : Int) := by unfold wrap64; omega
        rw [ew]
        unfold strings_HasPrefix.f strings_HasSuffix.f Lib.hasPrefix Lib.hasSuffix
        by_cases h1 : a.size + b.size ≤ s.size
        · rw [if_pos (by omega), Option.bind_some]
          cases h2 : a.data.toList.isPrefixOf s.data.toList with
          | true => rw [if_pos rfl, if_pos (by omega), Option.bind_some, Option.bind_some]; simp [h1]
          | false => rw [if_neg (by simp), Option.bind_some]; simp
        · rw [if_neg (by omega), Option.bind_some]; simp [h1]
theorem GlobStars : imprimaturlaw13_GlobStars.Pure := by
  intro a0 a1 a2 w0 w1 w2
  refine ⟨1001, ?_⟩
  unfold imprimaturlaw13_GlobStars.f
  rw [show (40 : Int) = ((40 : Nat) : Int) from rfl, show (100 : Int) = ((100 : Nat) : Int) from rfl, mn_nat, mn_nat, mn_nat, if_pos (by omega), if_pos (by omega), if_pos (by omega), if_pos (by omega), if_pos (by omega), if_pos (by omega), Int.toNat_natCast, Int.toNat_natCast, Int.toNat_natCast]
  have z0 : (a0.extract 0 (min a0.size 40)).size ≤ 40 := by rw [ByteArray.size_extract]; omega
  have z1 : (a1.extract 0 (min a1.size 40)).size ≤ 40 := by rw [ByteArray.size_extract]; omega
  have z2 : (a2.extract 0 (min a2.size 100)).size ≤ 100 := by rw [ByteArray.size_extract]; omega
  generalize a0.extract 0 (min a0.size 40) = a at z0
  generalize a1.extract 0 (min a1.size 40) = b at z1
  generalize a2.extract 0 (min a2.size 100) = s at z2
  clear w0 w1 w2
  rw [Q.right_f s false (by omega) 1001 (by omega), Option.bind_some, match_f' s s (by omega) (by omega)]
  cases hr : G.right false s.data.toList with
  | false =>
    rw [if_neg (by simp)]
    have : may s.data.toList s.data.toList = false := by unfold may; rw [hr]; simp
    unfold imprimaturlaw13_alive.f
    rw [Option.bind_some, if_pos rfl, this]; rfl
  | true =>
    have hi := G.right_inv hr
    have hlong := G.split_long s.data.toList (fun p hp e => by have := hi.2.2 p hp; rw [e] at this; cases this)
    rw [len_list] at hlong
    have hrt := G.right_pat hr
    have h1 : may s.data.toList s.data.toList = true := by unfold may; rw [hr, hrt, G.mt_self]; rfl
    unfold strings_Count.f
    rw [if_pos rfl, if_pos rfl, Option.bind_some]
    unfold strings_Repeat.f Lib.countByte
    have e2 : (⟨#[42, 47]⟩ : ByteArray).size = 2 := rfl
    rw [Int.toNat_natCast, if_pos ⟨by omega, by omega, by rw [e2]; omega⟩, Option.bind_some]
    have hrl := Go.Lib.repeatL_length [42, 47] (s.data.toList.count 47)
    have sR : (⟨(Lib.repeatL (⟨#[42, 47]⟩ : ByteArray).data.toList (s.data.toList.count 47)).toArray⟩ : ByteArray).size = 2 * s.data.toList.count 47 := by
      show (Lib.repeatL [42, 47] (s.data.toList.count 47)).toArray.size = _
      rw [List.size_toArray, hrl]; simp; omega
    have dR : (⟨(Lib.repeatL (⟨#[42, 47]⟩ : ByteArray).data.toList (s.data.toList.count 47)).toArray⟩ : ByteArray).data.toList = Lib.repeatL [42, 47] (s.data.toList.count 47) := by
      show (Lib.repeatL [42, 47] (s.data.toList.count 47)).toArray.toList = _
      rw [List.toList_toArray]
    generalize (⟨(Lib.repeatL (⟨#[42, 47]⟩ : ByteArray).data.toList (s.data.toList.count 47)).toArray⟩ : ByteArray) = R at sR dR
    have e1 : (⟨#[42]⟩ : ByteArray).size = 1 := rfl
    have sS : (R ++ (⟨#[42]⟩ : ByteArray)).size = 2 * s.data.toList.count 47 + 1 := by rw [ByteArray.size_append]; omega
    have dS : (R ++ (⟨#[42]⟩ : ByteArray)).data.toList = Lib.repeatL [42, 47] (s.data.toList.count 47) ++ [42] := by rw [data_app, dR]
    rw [if_pos (by omega), Option.bind_some, h1, if_pos rfl]
    generalize R ++ (⟨#[42]⟩ : ByteArray) = S at sS dS
    have h2 : may S.data.toList s.data.toList = true := by
      unfold may; rw [dS, hr, G.right_stars _ (by omega), G.mt_stars]; rfl
    have h3 : may ((⟨#[42, 47]⟩ : ByteArray) ++ S).data.toList s.data.toList = false := by
      unfold may; rw [data_app, dS]
      have := G.mt_stars_more s.data.toList
      rw [show (⟨#[42, 47]⟩ : ByteArray).data.toList = [42, 47] from rfl, this, Bool.and_false]
    rw [match_f' S s (by omega) (by omega), h2, Option.bind_some, if_pos rfl, if_pos (by omega), match_f' _ s (by rw [ByteArray.size_append]; omega) (by omega), h3, Option.bind_some, if_neg (by simp)]
    unfold imprimaturlaw13_alive.f
    rw [Option.bind_some]
    exact stars_j0 a b s z0 z1 z2 hr
theorem globStars_walk (a0 : ByteArray) (w0 : a0.size ≤ 140737488351232) (a1 : ByteArray) (w1 : a1.size ≤ 140737488351232) (a2 : ByteArray) (w2 : a2.size ≤ 140737488351232) (w : World) :
    Calls Tryd.prog 6 #[.string a0, .string a1, .string a2] w fun e w' => e = .returned (.bool true) ∧ Below w.heap.size w w' :=
  imprimaturlaw13_GlobStars.walk GlobStars a0 a1 a2 w w0 w1 w2
end Go.Proofs.YteignlfpjmfleaaDoor.Pure
