/- The law GlobMarks over plain texts: what its printed form computes is true for any text and number. -/
import Derived.Test.YteignlfpjmfleaaDoorX9
import Derived.Test.YteignlfpjmfleaaDoorPureGlobStars
set_option linter.unusedVariables false
set_option linter.unusedSimpArgs false
namespace Go.Proofs.YteignlfpjmfleaaDoor.Pure
open Go.RowKit Go.Proofs.YteignlfpjmfleaaDoor Go.Proofs.YteignlfpjmfleaaDoor.X Go.Proofs.YteignlfpjmfleaaDoor.E Go.Proofs.YteignlfpjmfleaaDoorW.PrintWords Go.Proofs.YteignlfpjmfleaaDoorW.PrintLast
/-- The place: any number brought between 0 and n. -/
theorem place (a : Int) (n : Nat) (hn : n ≤ 90) : ∃ m : Nat, m ≤ n ∧ Int.tmod (wrap64 (wrap64 (Int.tmod a (wrap64 ((n : Int) + 1)) + (n : Int)) + 1)) (wrap64 ((n : Int) + 1)) = (m : Int) := by
  have e : wrap64 ((n : Int) + 1) = (n : Int) + 1 := by unfold wrap64; omega
  rw [e]
  have h1 : Int.tmod a ((n : Int) + 1) < (n : Int) + 1 := Int.tmod_lt_of_pos a (by omega)
  have h2 : -((n : Int) + 1) < Int.tmod a ((n : Int) + 1) := Int.lt_tmod_of_pos a (by omega)
  generalize Int.tmod a ((n : Int) + 1) = t at h1 h2
  have e2 : wrap64 (wrap64 (t + (n : Int)) + 1) = t + n + 1 := by unfold wrap64; omega
  rw [e2, Int.tmod_eq_emod_of_nonneg (by omega)]
  have h3 := Int.emod_nonneg (t + n + 1) (b := (n : Int) + 1) (by omega)
  have h4 := Int.emod_lt_of_pos (t + n + 1) (b := (n : Int) + 1) (by omega)
  exact ⟨((t + n + 1) % ((n : Int) + 1)).toNat, by omega, by omega⟩
theorem right_one (s p : List UInt8) (h : ∀ c ∈ p, c = 42 ∨ c = 63 ∨ c ∈ s) (hs : G.right false s = true) (hn : (47 : UInt8) ∉ s) (hl : p.length ≤ 200) (hb : G.bad p = false) : G.right true p = true := by
  have hi := G.right_inv hs
  refine G.right_single true p (fun h47 => ?_) hl (fun c hc => ?_) hb
  · rcases h _ h47 with h | h | h
    · cases h
    · cases h
    · exact hn h
  · rcases h _ hc with rfl | rfl | h
    · decide
    · decide
    · exact G.byt_pat (hi.2.1 c h)
theorem no_slash (s p : List UInt8) (h : ∀ c ∈ p, c = 42 ∨ c = 63 ∨ c ∈ s) (hn : (47 : UInt8) ∉ s) : (47 : UInt8) ∉ p := fun h47 => by
  rcases h _ h47 with h | h | h
  · cases h
  · cases h
  · exact hn h
theorem bad_star (p : List UInt8) (c : UInt8) (h : c ∈ p) (hc : c ≠ 46) : G.bad p = false := by
  unfold G.bad
  have h1 : p ≠ [] := fun e => by rw [e] at h; cases h
  have h2 : p ≠ [46] := fun e => by rw [e] at h; simp at h; exact hc h
  have h3 : p ≠ [46, 46] := fun e => by rw [e] at h; simp at h; exact hc h
  simp [h1, h2, h3]
theorem may_one (s p : List UInt8) (h : ∀ c ∈ p, c = 42 ∨ c = 63 ∨ c ∈ s) (hs : G.right false s = true) (hn : (47 : UInt8) ∉ s) (hl : p.length ≤ 200) (c : UInt8) (hc : c ∈ p) (hc2 : c ≠ 46) : may p s = G.pm p s := by
  unfold may
  rw [right_one s p h hs hn hl (bad_star p c hc hc2), hs, G.mt_single p s (no_slash s p h hn) hn]; rfl
theorem data_take (s : ByteArray) (m : Nat) : (s.extract 0 m).data.toList = s.data.toList.take m := by
  simp [ByteArray.data_extract, List.extract_eq_take_drop]
theorem data_drop (s : ByteArray) (m : Nat) : (s.extract m s.size).data.toList = s.data.toList.drop m := Lib.extract_to_end s m
theorem marks_j0 (s : ByteArray) (a : Int) (hs : s.size ≤ 90) (hr : G.right false s.data.toList = true) (hn : (47 : UInt8) ∉ s.data.toList) : imprimaturlaw13_GlobMarks.j0 1001 s a false = some true := by
  have ls := len_list s
  obtain ⟨m, hm, hp⟩ := place a s.size hs
  have hi := G.right_inv hr
  have hne : 1 ≤ s.size := by
    have := G.split_long s.data.toList (fun p hp e => by have := hi.2.2 p hp; rw [e] at this; cases this)
    omega
  have ew : wrap64 ((s.size : Int) + 1) = ((s.size + 1 : Nat) : Int) := by unfold wrap64; omega
  have dR : (⟨(Lib.repeatL (⟨#[63]⟩ : ByteArray).data.toList s.size).toArray⟩ : ByteArray).data.toList = List.replicate s.size 63 := by
    show (Lib.repeatL [63] s.size).toArray.toList = _
    rw [List.toList_toArray, G.marks_rep]
  have sR : (⟨(Lib.repeatL (⟨#[63]⟩ : ByteArray).data.toList s.size).toArray⟩ : ByteArray).size = s.size := by
    rw [← len_list, dR, List.length_replicate]
  have hrep : strings_Repeat.f (⟨#[63]⟩ : ByteArray) (s.size : Int) = some ⟨(Lib.repeatL (⟨#[63]⟩ : ByteArray).data.toList s.size).toArray⟩ := by
    have e1 : (⟨#[63]⟩ : ByteArray).size = 1 := rfl
    unfold strings_Repeat.f
    rw [Int.toNat_natCast, if_pos ⟨by omega, by omega, by rw [e1]; omega⟩]
  generalize (⟨(Lib.repeatL (⟨#[63]⟩ : ByteArray).data.toList s.size).toArray⟩ : ByteArray) = R at dR sR hrep
  have e1 : (⟨#[63]⟩ : ByteArray).size = 1 := rfl
  have e2 : (⟨#[42]⟩ : ByteArray).size = 1 := rfl
  have e3 : (⟨#[42, 42, 42]⟩ : ByteArray).size = 3 := rfl
  have e4 : (⟨#[42, 42]⟩ : ByteArray).size = 2 := rfl
  have all63 : ∀ k, ∀ c ∈ List.replicate k (63 : UInt8), c = 42 ∨ c = 63 ∨ c ∈ s.data.toList := fun k c hc => .inr (.inl (List.eq_of_mem_replicate hc))
  have m1 : may R.data.toList s.data.toList = true := by
    rw [dR, may_one _ _ (all63 _) hr hn (by rw [List.length_replicate]; omega) 63 (List.mem_replicate.2 ⟨by omega, rfl⟩) (by decide), G.pm_marks, ls]; simp
  have d2 : (R ++ (⟨#[63]⟩ : ByteArray)).data.toList = List.replicate (s.size + 1) 63 := by
    rw [data_app, dR, List.replicate_succ']
  have m2 : may (R ++ (⟨#[63]⟩ : ByteArray)).data.toList s.data.toList = false := by
    rw [d2, may_one _ _ (all63 _) hr hn (by rw [List.length_replicate]; omega) 63 (List.mem_replicate.2 ⟨by omega, rfl⟩) (by decide), G.pm_marks, ls]; simp
  have m3 : s.size ≠ 1 → may (R.extract 1 R.size).data.toList s.data.toList = false := fun h => by
    rw [data_drop, dR, List.drop_replicate, may_one _ _ (all63 _) hr hn (by rw [List.length_replicate]; omega) 63 (List.mem_replicate.2 ⟨by omega, rfl⟩) (by decide), G.pm_marks, ls]
    simp; omega
  have d4 : (s.extract 0 m ++ (⟨#[42, 42, 42]⟩ : ByteArray)).data.toList = s.data.toList.take m ++ [42, 42, 42] := by rw [data_app, data_take]
  have m4 : may (s.extract 0 m ++ (⟨#[42, 42, 42]⟩ : ByteArray)).data.toList s.data.toList = true := by
    rw [d4, may_one _ _ (fun c hc => by
      rcases List.mem_append.1 hc with h | h
      · exact .inr (.inr (List.mem_of_mem_take h))
      · exact .inl (by simpa using h)) hr hn (by simp; omega) 42 (by simp) (by decide)]
    exact G.pm_front _ m (by omega)
  have d5 : ((⟨#[42, 42]⟩ : ByteArray) ++ s.extract m s.size).data.toList = [42, 42] ++ s.data.toList.drop m := by rw [data_app, data_drop]
  have m5 : may ((⟨#[42, 42]⟩ : ByteArray) ++ s.extract m s.size).data.toList s.data.toList = true := by
    rw [d5, may_one _ _ (fun c hc => by
      rcases List.mem_append.1 hc with h | h
      · exact .inl (by simpa using h)
      · exact .inr (.inr (List.mem_of_mem_drop h))) hr hn (by simp; omega) 42 (by simp) (by decide)]
    exact G.pm_back _ m (by omega)
  have d6 : ((s.extract 0 m ++ (⟨#[42]⟩ : ByteArray)) ++ s.extract m s.size).data.toList = s.data.toList.take m ++ 42 :: s.data.toList.drop m := by rw [data_app, data_app, data_take, data_drop]; simp
  have m6 : may ((s.extract 0 m ++ (⟨#[42]⟩ : ByteArray)) ++ s.extract m s.size).data.toList s.data.toList = true := by
    rw [d6, may_one _ _ (fun c hc => by
      rcases List.mem_append.1 hc with h | h
      · exact .inr (.inr (List.mem_of_mem_take h))
      · rcases List.mem_cons.1 h with h | h
        · exact .inl h
        · exact .inr (.inr (List.mem_of_mem_drop h))) hr hn (by simp; omega) 42 (by simp) (by decide)]
    exact G.pm_between _ m (by omega)
  have x1 : (s.extract 0 m).size = m := by rw [ByteArray.size_extract]; omega
  have x2 : (s.extract m s.size).size = s.size - m := by rw [ByteArray.size_extract]; omega
  have f1 : glob_Match.f R s = some true := by rw [match_f' R s (by omega) (by omega), m1]
  have f2 : glob_Match.f (R ++ (⟨#[63]⟩ : ByteArray)) s = some false := by rw [match_f' _ s (by rw [ByteArray.size_append]; omega) (by omega), m2]
  have f3 : s.size ≠ 1 → glob_Match.f (R.extract 1 R.size) s = some false := fun h => by rw [match_f' _ s (by rw [ByteArray.size_extract]; omega) (by omega), m3 h]
  have f4 : glob_Match.f (s.extract 0 m ++ (⟨#[42, 42, 42]⟩ : ByteArray)) s = some true := by rw [match_f' _ s (by rw [ByteArray.size_append]; omega) (by omega), m4]
  have f5 : glob_Match.f ((⟨#[42, 42]⟩ : ByteArray) ++ s.extract m s.size) s = some true := by rw [match_f' _ s (by rw [ByteArray.size_append]; omega) (by omega), m5]
  have f6 : glob_Match.f ((s.extract 0 m ++ (⟨#[42]⟩ : ByteArray)) ++ s.extract m s.size) s = some true := by rw [match_f' _ s (by rw [ByteArray.size_append, ByteArray.size_append]; omega) (by omega), m6]
  have rest : (if 0 ≤ (m : Int) then (if (m : Int) ≤ (s.size : Int) then (if (s.extract 0 m).size + 3 ≤ 9223372036854775807 then ((glob_Match.f (s.extract 0 m ++ (⟨#[42, 42, 42]⟩ : ByteArray)) s).bind fun t122 => (if t122 = true then (if 2 + (s.extract m s.size).size ≤ 9223372036854775807 then ((glob_Match.f ((⟨#[42, 42]⟩ : ByteArray) ++ s.extract m s.size) s).bind fun t123 => (if t123 = true then (if (s.extract 0 m).size + 1 ≤ 9223372036854775807 then (if (s.extract 0 m ++ (⟨#[42]⟩ : ByteArray)).size + (s.extract m s.size).size ≤ 9223372036854775807 then ((glob_Match.f ((s.extract 0 m ++ (⟨#[42]⟩ : ByteArray)) ++ s.extract m s.size) s).bind fun t124 => (some t124)) else (none)) else (none)) else (some false))) else (none)) else (some false))) else (none)) else (none)) else (none)) = some true := by
    rw [if_pos (by omega), if_pos (by omega), if_pos (by omega), f4, Option.bind_some, if_pos rfl, if_pos (by omega), f5, Option.bind_some, if_pos rfl, if_pos (by omega), if_pos (by rw [ByteArray.size_append]; omega), f6, Option.bind_some]
  rw [imprimaturlaw13_GlobMarks.j0, if_neg (by simp), if_neg (by rw [ew]; omega), hrep, Option.bind_some, f1, Option.bind_some, if_pos rfl, if_pos (by omega), f2, Option.bind_some, if_neg (by simp), hp, Int.toNat_natCast]
  by_cases h1 : (s.size : Int) = 1
  · rw [if_pos h1]; exact rest
  · rw [if_neg h1, if_pos (by omega), f3 (by omega), Option.bind_some, if_neg (by simp)]; exact rest
theorem GlobMarks : imprimaturlaw13_GlobMarks.Pure := by
  intro a0 a1 w0 w1
  refine ⟨1001, ?_⟩
  unfold imprimaturlaw13_GlobMarks.f
  rw [show (90 : Int) = ((90 : Nat) : Int) from rfl, mn_nat, if_pos (by omega), if_pos (by omega), Int.toNat_natCast]
  have z0 : (a0.extract 0 (min a0.size 90)).size ≤ 90 := by rw [ByteArray.size_extract]; omega
  generalize a0.extract 0 (min a0.size 90) = s at z0
  clear w0 w1
  have yes : imprimaturlaw13_GlobMarks.j0 1001 s a1 true = some true := by rw [imprimaturlaw13_GlobMarks.j0, if_pos rfl]; rfl
  rw [Q.right_f s false (by omega) 1001 (by omega), Option.bind_some]
  cases hr : G.right false s.data.toList with
  | false => rw [if_neg (by simp)]; exact yes
  | true =>
    rw [if_pos rfl]
    unfold strings_Contains.f
    rw [if_pos rfl, Option.bind_some]
    cases hx : decide (0 ≤ Lib.indexByte s.data.toList 47) with
    | true => rw [if_pos rfl]; exact yes
    | false =>
      have hx2 : (47 : UInt8) ∉ s.data.toList := fun h => by
        have := (G.indexByte_mem s.data.toList 47).2 h
        rw [decide_eq_false_iff_not] at hx; exact hx this
      rw [if_neg (by simp)]
      unfold imprimaturlaw13_alive.f
      rw [Option.bind_some]
      exact marks_j0 s a1 z0 hr hx2
theorem globMarks_walk (a0 : ByteArray) (w0 : a0.size ≤ 140737488351232) (a1 : Int) (w1 : (Lit.int .i64 a1).wf = true) (w : World) :
    Calls Tryd.prog 5 #[.string a0, .int .i64 a1] w fun e w' => e = .returned (.bool true) ∧ Below w.heap.size w w' :=
  imprimaturlaw13_GlobMarks.walk GlobMarks a0 a1 w w0 w1
end Go.Proofs.YteignlfpjmfleaaDoor.Pure
