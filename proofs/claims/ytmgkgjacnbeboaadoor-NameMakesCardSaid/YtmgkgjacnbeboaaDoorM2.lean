-- Written by a program of this session (wip/tools/xprint.py).
import Derived.Test.YtmgkgjacnbeboaaDoorM0
import Derived.Test.YtmgkgjacnbeboaaDoorM1
import Derived.Test.YtmgkgjacnbeboaaDoorE1
namespace Go.Proofs.YtmgkgjacnbeboaaDoor.M
open Go.RowKit Go.Proofs.YtmgkgjacnbeboaaDoorW.PrintWords Go.Proofs.YtmgkgjacnbeboaaDoorW.PrintLast Go.Proofs.YtmgkgjacnbeboaaDoorW.PrintMore
open Go.Proofs.YtmgkgjacnbeboaaDoor.E
attribute [local go_sem] max2_int min2_int max_two min_two max_three min_three max_four min_four   -- for this text's walks alone
set_option linter.unusedVariables false
set_option linter.unusedSimpArgs false

/-! ### imprimaturlaw20_NameMakes: function 3 -/
mutual
def imprimaturlaw20_NameMakes.j0 : Nat → ByteArray → ByteArray → ByteArray → Int → Int → ByteArray → Int → ByteArray → Int → ByteArray → Int → Bool → Option (Bool)
  | 0, _, _, _, _, _, _, _, _, _, _, _, _ => none
  | k + 1, x0, x1, x2, x3, x4, x11, x12, x13, x14, x15, x16, x17 => if x17 = true then ((imprimaturref15_Name.f x0).bind fun t109 => (imprimaturlaw20_NameMakes.j1 k x0 x1 x2 x3 x4 x11 x12 x13 x14 x15 x16 x17 t109)) else (imprimaturlaw20_NameMakes.j1 k x0 x1 x2 x3 x4 x11 x12 x13 x14 x15 x16 x17 false)
def imprimaturlaw20_NameMakes.j1 : Nat → ByteArray → ByteArray → ByteArray → Int → Int → ByteArray → Int → ByteArray → Int → ByteArray → Int → Bool → Bool → Option (Bool)
  | 0, _, _, _, _, _, _, _, _, _, _, _, _, _ => none
  | k + 1, x0, x1, x2, x3, x4, x11, x12, x13, x14, x15, x16, x17, x18 => if x18 = true then (if x12 = 0 then ((imprimaturref20_Name.f 1 x0 (⟨#[]⟩ : ByteArray) x3 0).bind fun t110 => (if x11.toList = t110.toList then ((imprimaturlaw20_alive.f).bind fun t111 => (imprimaturlaw20_NameMakes.j2 k x1 x2 x3 x4 x13 x14 x15 x16 x17 (!t111))) else (imprimaturlaw20_NameMakes.j2 k x1 x2 x3 x4 x13 x14 x15 x16 x17 true))) else (imprimaturlaw20_NameMakes.j2 k x1 x2 x3 x4 x13 x14 x15 x16 x17 true)) else (if x12 = 1 then (if x11.toList = ([] : List UInt8) then ((imprimaturlaw20_alive.f).bind fun t112 => (imprimaturlaw20_NameMakes.j2 k x1 x2 x3 x4 x13 x14 x15 x16 x17 (!t112))) else (imprimaturlaw20_NameMakes.j2 k x1 x2 x3 x4 x13 x14 x15 x16 x17 true)) else (imprimaturlaw20_NameMakes.j2 k x1 x2 x3 x4 x13 x14 x15 x16 x17 true))
def imprimaturlaw20_NameMakes.j2 : Nat → ByteArray → ByteArray → Int → Int → ByteArray → Int → ByteArray → Int → Bool → Bool → Option (Bool)
  | 0, _, _, _, _, _, _, _, _, _, _ => none
  | k + 1, x1, x2, x3, x4, x13, x14, x15, x16, x17, x87 => if x87 = true then (some false) else (if (x1.size : Int) = 32 then (if x14 = 0 then ((imprimaturref20_Name.f 2 (⟨#[]⟩ : ByteArray) x1 0 0).bind fun t113 => (if x13.toList = t113.toList then (imprimaturlaw20_NameMakes.j3 k x2 x3 x4 x15 x16 x17 false) else (imprimaturlaw20_NameMakes.j3 k x2 x3 x4 x15 x16 x17 true))) else (imprimaturlaw20_NameMakes.j3 k x2 x3 x4 x15 x16 x17 true)) else (if x14 = 1 then (imprimaturlaw20_NameMakes.j3 k x2 x3 x4 x15 x16 x17 (x13.toList != ([] : List UInt8))) else (imprimaturlaw20_NameMakes.j3 k x2 x3 x4 x15 x16 x17 true)))
def imprimaturlaw20_NameMakes.j3 : Nat → ByteArray → Int → Int → ByteArray → Int → Bool → Bool → Option (Bool)
  | 0, _, _, _, _, _, _, _ => none
  | k + 1, x2, x3, x4, x15, x16, x17, x114 => if x114 = true then (some false) else (if x17 = true then (if x4 ≥ 0 then (imprimaturlaw20_NameMakes.j4 k x2 x3 x4 x15 x16 (decide (x4 ≤ 1000000))) else (imprimaturlaw20_NameMakes.j4 k x2 x3 x4 x15 x16 false)) else (imprimaturlaw20_NameMakes.j4 k x2 x3 x4 x15 x16 false))
def imprimaturlaw20_NameMakes.j4 : Nat → ByteArray → Int → Int → ByteArray → Int → Bool → Option (Bool)
  | 0, _, _, _, _, _, _ => none
  | k + 1, x2, x3, x4, x15, x16, x17 => if x2.toList = ([104, 101, 97, 100] : List UInt8) then (if x17 = true then (if x3 = 0 then (if 3 = 0 then (if x16 = 1 then (some (x15.toList == ([] : List UInt8))) else (some false)) else (if x4 = 0 then (if x16 = 0 then ((imprimaturref20_Name.f 3 (⟨#[]⟩ : ByteArray) (⟨#[]⟩ : ByteArray) x3 x4).bind fun t114 => (some (x15.toList == t114.toList))) else (some false)) else (if x16 = 1 then (some (x15.toList == ([] : List UInt8))) else (some false)))) else (if 3 = 0 then (if x16 = 1 then (some (x15.toList == ([] : List UInt8))) else (some false)) else (if x16 = 1 then (some (x15.toList == ([] : List UInt8))) else (some false)))) else (if 3 = 0 then (if x16 = 1 then (some (x15.toList == ([] : List UInt8))) else (some false)) else (if x16 = 1 then (some (x15.toList == ([] : List UInt8))) else (some false)))) else (if x2.toList = ([112, 97, 116, 104] : List UInt8) then (if 4 = 0 then (if x16 = 1 then (some (x15.toList == ([] : List UInt8))) else (some false)) else (if x17 = true then (if x16 = 0 then ((imprimaturref20_Name.f 4 (⟨#[]⟩ : ByteArray) (⟨#[]⟩ : ByteArray) x3 x4).bind fun t115 => (some (x15.toList == t115.toList))) else (some false)) else (if x16 = 1 then (some (x15.toList == ([] : List UInt8))) else (some false)))) else (if x2.toList = ([115, 116, 101, 112] : List UInt8) then (if 5 = 0 then (if x16 = 1 then (some (x15.toList == ([] : List UInt8))) else (some false)) else (if x17 = true then (if x16 = 0 then ((imprimaturref20_Name.f 5 (⟨#[]⟩ : ByteArray) (⟨#[]⟩ : ByteArray) x3 x4).bind fun t116 => (some (x15.toList == t116.toList))) else (some false)) else (if x16 = 1 then (some (x15.toList == ([] : List UInt8))) else (some false)))) else (if x2.toList = ([108, 101, 97, 102] : List UInt8) then (if x17 = true then (if 6 = 0 then (if x16 = 1 then (some (x15.toList == ([] : List UInt8))) else (some false)) else (if x4 = 0 then (if x16 = 0 then ((imprimaturref20_Name.f 6 (⟨#[]⟩ : ByteArray) (⟨#[]⟩ : ByteArray) x3 x4).bind fun t117 => (some (x15.toList == t117.toList))) else (some false)) else (if x16 = 1 then (some (x15.toList == ([] : List UInt8))) else (some false)))) else (if 6 = 0 then (if x16 = 1 then (some (x15.toList == ([] : List UInt8))) else (some false)) else (if x16 = 1 then (some (x15.toList == ([] : List UInt8))) else (some false)))) else (if 0 = 0 then (if x16 = 1 then (some (x15.toList == ([] : List UInt8))) else (some false)) else (if x17 = true then (if x16 = 0 then ((imprimaturref20_Name.f 0 (⟨#[]⟩ : ByteArray) (⟨#[]⟩ : ByteArray) x3 x4).bind fun t118 => (some (x15.toList == t118.toList))) else (some false)) else (if x16 = 1 then (some (x15.toList == ([] : List UInt8))) else (some false)))))))
end
def imprimaturlaw20_NameMakes.f (k : Nat) (a0 : ByteArray) (a1 : ByteArray) (a2 : ByteArray) (a3 : Int) (a4 : Int) : Option (Bool) := if 0 ≤ (mn (a0.size : Int) 40) then (if (mn (a0.size : Int) 40) ≤ (a0.size : Int) then (if 0 ≤ (mn (a1.size : Int) 40) then (if (mn (a1.size : Int) 40) ≤ (a1.size : Int) then ((name_Meta.f (a0.extract 0 ((mn (a0.size : Int) 40) : Int).toNat) a3).bind fun bt103 => ((name_Data.f (a1.extract 0 ((mn (a1.size : Int) 40) : Int).toNat)).bind fun bt105 => ((name_Log.f a2 a3 a4).bind fun bt107 => (if a3 ≥ 0 then (imprimaturlaw20_NameMakes.j0 k (a0.extract 0 ((mn (a0.size : Int) 40) : Int).toNat) (a1.extract 0 ((mn (a1.size : Int) 40) : Int).toNat) a2 a3 a4 bt103.1 bt103.2 bt105.1 bt105.2 bt107.1 bt107.2 (decide (a3 ≤ 1000000))) else (imprimaturlaw20_NameMakes.j0 k (a0.extract 0 ((mn (a0.size : Int) 40) : Int).toNat) (a1.extract 0 ((mn (a1.size : Int) 40) : Int).toNat) a2 a3 a4 bt103.1 bt103.2 bt105.1 bt105.2 bt107.1 bt107.2 false))))) else (none)) else (none)) else (none)) else (none)
theorem imprimaturlaw20_NameMakes.mono_l : ∀ k, (∀ y0 y1 y2 y3 y4 y5 y6 y7 y8 y9 y10 y11, LeO (imprimaturlaw20_NameMakes.j0 k y0 y1 y2 y3 y4 y5 y6 y7 y8 y9 y10 y11) (imprimaturlaw20_NameMakes.j0 (k + 1) y0 y1 y2 y3 y4 y5 y6 y7 y8 y9 y10 y11)) ∧ (∀ y0 y1 y2 y3 y4 y5 y6 y7 y8 y9 y10 y11 y12, LeO (imprimaturlaw20_NameMakes.j1 k y0 y1 y2 y3 y4 y5 y6 y7 y8 y9 y10 y11 y12) (imprimaturlaw20_NameMakes.j1 (k + 1) y0 y1 y2 y3 y4 y5 y6 y7 y8 y9 y10 y11 y12)) ∧ (∀ y0 y1 y2 y3 y4 y5 y6 y7 y8 y9, LeO (imprimaturlaw20_NameMakes.j2 k y0 y1 y2 y3 y4 y5 y6 y7 y8 y9) (imprimaturlaw20_NameMakes.j2 (k + 1) y0 y1 y2 y3 y4 y5 y6 y7 y8 y9)) ∧ (∀ y0 y1 y2 y3 y4 y5 y6, LeO (imprimaturlaw20_NameMakes.j3 k y0 y1 y2 y3 y4 y5 y6) (imprimaturlaw20_NameMakes.j3 (k + 1) y0 y1 y2 y3 y4 y5 y6)) ∧ (∀ y0 y1 y2 y3 y4 y5, LeO (imprimaturlaw20_NameMakes.j4 k y0 y1 y2 y3 y4 y5) (imprimaturlaw20_NameMakes.j4 (k + 1) y0 y1 y2 y3 y4 y5))
  | 0 => ⟨fun _ _ _ _ _ _ _ _ _ _ _ _ r h => by simp [imprimaturlaw20_NameMakes.j0] at h, fun _ _ _ _ _ _ _ _ _ _ _ _ _ r h => by simp [imprimaturlaw20_NameMakes.j1] at h, fun _ _ _ _ _ _ _ _ _ _ r h => by simp [imprimaturlaw20_NameMakes.j2] at h, fun _ _ _ _ _ _ _ r h => by simp [imprimaturlaw20_NameMakes.j3] at h, fun _ _ _ _ _ _ r h => by simp [imprimaturlaw20_NameMakes.j4] at h⟩
  | k + 1 => by
    obtain ⟨ih0, ih1, ih2, ih3, ih4⟩ := imprimaturlaw20_NameMakes.mono_l k
    refine ⟨?_, ?_, ?_, ?_, ?_⟩
    · intro y0 y1 y2 y3 y4 y5 y6 y7 y8 y9 y10 y11
      unfold imprimaturlaw20_NameMakes.j0
      repeat' first
      | (with_reducible exact ih0 _ _ _ _ _ _ _ _ _ _ _ _)
      | (with_reducible exact ih1 _ _ _ _ _ _ _ _ _ _ _ _ _)
      | (with_reducible exact ih2 _ _ _ _ _ _ _ _ _ _)
      | (with_reducible exact ih3 _ _ _ _ _ _ _)
      | (with_reducible exact ih4 _ _ _ _ _ _)
      | (with_reducible exact LeO.refl _)
      | (with_reducible exact LeO.none _)
      | (with_reducible refine LeO.ite ?_ ?_)
      | (with_reducible refine LeO.bind ?_ (fun _ => ?_))
      | exact ih0 _ _ _ _ _ _ _ _ _ _ _ _
      | exact ih1 _ _ _ _ _ _ _ _ _ _ _ _ _
      | exact ih2 _ _ _ _ _ _ _ _ _ _
      | exact ih3 _ _ _ _ _ _ _
      | exact ih4 _ _ _ _ _ _
      | exact LeO.none _
      | refine LeO.ite ?_ ?_
      | refine LeO.bind ?_ (fun _ => ?_)
    · intro y0 y1 y2 y3 y4 y5 y6 y7 y8 y9 y10 y11 y12
      unfold imprimaturlaw20_NameMakes.j1
      repeat' first
      | (with_reducible exact ih0 _ _ _ _ _ _ _ _ _ _ _ _)
      | (with_reducible exact ih1 _ _ _ _ _ _ _ _ _ _ _ _ _)
      | (with_reducible exact ih2 _ _ _ _ _ _ _ _ _ _)
      | (with_reducible exact ih3 _ _ _ _ _ _ _)
      | (with_reducible exact ih4 _ _ _ _ _ _)
      | (with_reducible exact LeO.refl _)
      | (with_reducible exact LeO.none _)
      | (with_reducible refine LeO.ite ?_ ?_)
      | (with_reducible refine LeO.bind ?_ (fun _ => ?_))
      | exact ih0 _ _ _ _ _ _ _ _ _ _ _ _
      | exact ih1 _ _ _ _ _ _ _ _ _ _ _ _ _
      | exact ih2 _ _ _ _ _ _ _ _ _ _
      | exact ih3 _ _ _ _ _ _ _
      | exact ih4 _ _ _ _ _ _
      | exact LeO.none _
      | refine LeO.ite ?_ ?_
      | refine LeO.bind ?_ (fun _ => ?_)
    · intro y0 y1 y2 y3 y4 y5 y6 y7 y8 y9
      unfold imprimaturlaw20_NameMakes.j2
      repeat' first
      | (with_reducible exact ih0 _ _ _ _ _ _ _ _ _ _ _ _)
      | (with_reducible exact ih1 _ _ _ _ _ _ _ _ _ _ _ _ _)
      | (with_reducible exact ih2 _ _ _ _ _ _ _ _ _ _)
      | (with_reducible exact ih3 _ _ _ _ _ _ _)
      | (with_reducible exact ih4 _ _ _ _ _ _)
      | (with_reducible exact LeO.refl _)
      | (with_reducible exact LeO.none _)
      | (with_reducible refine LeO.ite ?_ ?_)
      | (with_reducible refine LeO.bind ?_ (fun _ => ?_))
      | exact ih0 _ _ _ _ _ _ _ _ _ _ _ _
      | exact ih1 _ _ _ _ _ _ _ _ _ _ _ _ _
      | exact ih2 _ _ _ _ _ _ _ _ _ _
      | exact ih3 _ _ _ _ _ _ _
      | exact ih4 _ _ _ _ _ _
      | exact LeO.none _
      | refine LeO.ite ?_ ?_
      | refine LeO.bind ?_ (fun _ => ?_)
    · intro y0 y1 y2 y3 y4 y5 y6
      unfold imprimaturlaw20_NameMakes.j3
      repeat' first
      | (with_reducible exact ih0 _ _ _ _ _ _ _ _ _ _ _ _)
      | (with_reducible exact ih1 _ _ _ _ _ _ _ _ _ _ _ _ _)
      | (with_reducible exact ih2 _ _ _ _ _ _ _ _ _ _)
      | (with_reducible exact ih3 _ _ _ _ _ _ _)
      | (with_reducible exact ih4 _ _ _ _ _ _)
      | (with_reducible exact LeO.refl _)
      | (with_reducible exact LeO.none _)
      | (with_reducible refine LeO.ite ?_ ?_)
      | (with_reducible refine LeO.bind ?_ (fun _ => ?_))
      | exact ih0 _ _ _ _ _ _ _ _ _ _ _ _
      | exact ih1 _ _ _ _ _ _ _ _ _ _ _ _ _
      | exact ih2 _ _ _ _ _ _ _ _ _ _
      | exact ih3 _ _ _ _ _ _ _
      | exact ih4 _ _ _ _ _ _
      | exact LeO.none _
      | refine LeO.ite ?_ ?_
      | refine LeO.bind ?_ (fun _ => ?_)
    · intro y0 y1 y2 y3 y4 y5
      unfold imprimaturlaw20_NameMakes.j4
      repeat' first
      | (with_reducible exact ih0 _ _ _ _ _ _ _ _ _ _ _ _)
      | (with_reducible exact ih1 _ _ _ _ _ _ _ _ _ _ _ _ _)
      | (with_reducible exact ih2 _ _ _ _ _ _ _ _ _ _)
      | (with_reducible exact ih3 _ _ _ _ _ _ _)
      | (with_reducible exact ih4 _ _ _ _ _ _)
      | (with_reducible exact LeO.refl _)
      | (with_reducible exact LeO.none _)
      | (with_reducible refine LeO.ite ?_ ?_)
      | (with_reducible refine LeO.bind ?_ (fun _ => ?_))
      | exact ih0 _ _ _ _ _ _ _ _ _ _ _ _
      | exact ih1 _ _ _ _ _ _ _ _ _ _ _ _ _
      | exact ih2 _ _ _ _ _ _ _ _ _ _
      | exact ih3 _ _ _ _ _ _ _
      | exact ih4 _ _ _ _ _ _
      | exact LeO.none _
      | refine LeO.ite ?_ ?_
      | refine LeO.bind ?_ (fun _ => ?_)
theorem imprimaturlaw20_NameMakes.mono : ∀ a0 a1 a2 a3 a4 k, LeO (imprimaturlaw20_NameMakes.f k a0 a1 a2 a3 a4) (imprimaturlaw20_NameMakes.f (k + 1) a0 a1 a2 a3 a4) := by
  intro a0 a1 a2 a3 a4 k
  obtain ⟨ih0, ih1, ih2, ih3, ih4⟩ := imprimaturlaw20_NameMakes.mono_l k
  unfold imprimaturlaw20_NameMakes.f
  repeat' first
      | (with_reducible exact ih0 _ _ _ _ _ _ _ _ _ _ _ _)
      | (with_reducible exact ih1 _ _ _ _ _ _ _ _ _ _ _ _ _)
      | (with_reducible exact ih2 _ _ _ _ _ _ _ _ _ _)
      | (with_reducible exact ih3 _ _ _ _ _ _ _)
      | (with_reducible exact ih4 _ _ _ _ _ _)
      | (with_reducible exact LeO.refl _)
      | (with_reducible exact LeO.none _)
      | (with_reducible refine LeO.ite ?_ ?_)
      | (with_reducible refine LeO.bind ?_ (fun _ => ?_))
      | exact ih0 _ _ _ _ _ _ _ _ _ _ _ _
      | exact ih1 _ _ _ _ _ _ _ _ _ _ _ _ _
      | exact ih2 _ _ _ _ _ _ _ _ _ _
      | exact ih3 _ _ _ _ _ _ _
      | exact ih4 _ _ _ _ _ _
      | exact LeO.none _
      | refine LeO.ite ?_ ?_
      | refine LeO.bind ?_ (fun _ => ?_)
theorem j2_no (k : Nat) (x1 x2 : ByteArray) (x3 x4 : Int) (x13 : ByteArray) (x14 : Int) (x15 : ByteArray) (x16 : Int) (x17 : Bool) : imprimaturlaw20_NameMakes.j2 k x1 x2 x3 x4 x13 x14 x15 x16 x17 true ≠ some true := by
  cases k with
  | zero => rw [imprimaturlaw20_NameMakes.j2]; exact nofun
  | succ k => rw [imprimaturlaw20_NameMakes.j2, if_pos rfl]; exact nofun
theorem j3_no (k : Nat) (x2 : ByteArray) (x3 x4 : Int) (x15 : ByteArray) (x16 : Int) (x17 : Bool) : imprimaturlaw20_NameMakes.j3 k x2 x3 x4 x15 x16 x17 true ≠ some true := by
  cases k with
  | zero => rw [imprimaturlaw20_NameMakes.j3]; exact nofun
  | succ k => rw [imprimaturlaw20_NameMakes.j3, if_pos rfl]; exact nofun
set_option maxHeartbeats 8000000 in
set_option maxRecDepth 100000 in
theorem imprimaturlaw20_NameMakes.calls (k : Nat) (a0 : ByteArray) (a1 : ByteArray) (a2 : ByteArray) (a3 : Int) (a4 : Int) (w : World) (ht : Tabs w) (h : imprimaturlaw20_NameMakes.f k a0 a1 a2 a3 a4 = some true) :
    Calls Tryd.prog 3 #[.string a0, .string a1, .string a2, .int .i64 a3, .int .i64 a4] w fun e w' => e = .returned (.bool true) ∧ Below w.heap.size w w' := by
  have hu30 := Tryd.underlying30
  have HB := Aside0.mk (Below.refl w.heap.size w)
  have HTAB := Aside0.mk ht
  clear ht
  have H : (if 0 ≤ (mn (a0.size : Int) 40) then (if (mn (a0.size : Int) 40) ≤ (a0.size : Int) then (if 0 ≤ (mn (a1.size : Int) 40) then (if (mn (a1.size : Int) 40) ≤ (a1.size : Int) then ((name_Meta.f (a0.extract 0 ((mn (a0.size : Int) 40) : Int).toNat) a3).bind fun bt103 => ((name_Data.f (a1.extract 0 ((mn (a1.size : Int) 40) : Int).toNat)).bind fun bt105 => ((name_Log.f a2 a3 a4).bind fun bt107 => (if a3 ≥ 0 then (imprimaturlaw20_NameMakes.j0 k (a0.extract 0 ((mn (a0.size : Int) 40) : Int).toNat) (a1.extract 0 ((mn (a1.size : Int) 40) : Int).toNat) a2 a3 a4 bt103.1 bt103.2 bt105.1 bt105.2 bt107.1 bt107.2 (decide (a3 ≤ 1000000))) else (imprimaturlaw20_NameMakes.j0 k (a0.extract 0 ((mn (a0.size : Int) 40) : Int).toNat) (a1.extract 0 ((mn (a1.size : Int) 40) : Int).toNat) a2 a3 a4 bt103.1 bt103.2 bt105.1 bt105.2 bt107.1 bt107.2 false))))) else (none)) else (none)) else (none)) else (none)) = some true := h
  clear h
  obtain ⟨ji6, hji6⟩ : ∃ j_ : Int, (mn (a0.size : Int) 40) = j_ := ⟨_, rfl⟩
  replace H : (if 0 ≤ (ji6) then (if (ji6) ≤ (a0.size : Int) then (if 0 ≤ (mn (a1.size : Int) 40) then (if (mn (a1.size : Int) 40) ≤ (a1.size : Int) then ((name_Meta.f (a0.extract 0 ((ji6) : Int).toNat) a3).bind fun bt103 => ((name_Data.f (a1.extract 0 ((mn (a1.size : Int) 40) : Int).toNat)).bind fun bt105 => ((name_Log.f a2 a3 a4).bind fun bt107 => (if a3 ≥ 0 then (imprimaturlaw20_NameMakes.j0 k (a0.extract 0 ((ji6) : Int).toNat) (a1.extract 0 ((mn (a1.size : Int) 40) : Int).toNat) a2 a3 a4 bt103.1 bt103.2 bt105.1 bt105.2 bt107.1 bt107.2 (decide (a3 ≤ 1000000))) else (imprimaturlaw20_NameMakes.j0 k (a0.extract 0 ((ji6) : Int).toNat) (a1.extract 0 ((mn (a1.size : Int) 40) : Int).toNat) a2 a3 a4 bt103.1 bt103.2 bt105.1 bt105.2 bt107.1 bt107.2 false))))) else (none)) else (none)) else (none)) else (none)) = some true := by first | (rw [hji6] at H; exact H) | (simp only [hji6] at H ⊢; exact H)
  (try (have hji6h : ji6 ≤ 40 := by (rw [← hji6]; unfold mn; (repeat' split) <;> omega)))
  (try (have hji6g : ji6 ≤ 64 := by omega))
  (try (have hji6l : 0 ≤ ji6 := by (rw [← hji6]; unfold mn; (repeat' split) <;> omega)))
  (try (have hji6m : 0 ≤ ji6 := by omega))
  have hji6_ : (if 40 < (a0.size : Int) then 40 else (a0.size : Int)) = ji6 := hji6
  by_cases c7 : 0 ≤ (ji6)
  · rw [if_pos c7] at H
    have c7b0 := eq_true c7
    have c7b1 : decide (0 ≤ (ji6)) = true := decide_eq_true c7
    clear c7
    by_cases c8 : (ji6) ≤ (a0.size : Int)
    · rw [if_pos c8] at H
      have c8b0 := eq_true c8
      have c8b1 : decide ((ji6) ≤ (a0.size : Int)) = true := decide_eq_true c8
      clear c8
      obtain ⟨ji9, hji9⟩ : ∃ j_ : Int, (mn (a1.size : Int) 40) = j_ := ⟨_, rfl⟩
      replace H : (if 0 ≤ (ji9) then (if (ji9) ≤ (a1.size : Int) then ((name_Meta.f (a0.extract 0 ((ji6) : Int).toNat) a3).bind fun bt103 => ((name_Data.f (a1.extract 0 ((ji9) : Int).toNat)).bind fun bt105 => ((name_Log.f a2 a3 a4).bind fun bt107 => (if a3 ≥ 0 then (imprimaturlaw20_NameMakes.j0 k (a0.extract 0 ((ji6) : Int).toNat) (a1.extract 0 ((ji9) : Int).toNat) a2 a3 a4 bt103.1 bt103.2 bt105.1 bt105.2 bt107.1 bt107.2 (decide (a3 ≤ 1000000))) else (imprimaturlaw20_NameMakes.j0 k (a0.extract 0 ((ji6) : Int).toNat) (a1.extract 0 ((ji9) : Int).toNat) a2 a3 a4 bt103.1 bt103.2 bt105.1 bt105.2 bt107.1 bt107.2 false))))) else (none)) else (none)) = some true := by first | (rw [hji9] at H; exact H) | (simp only [hji9] at H ⊢; exact H)
      (try (have hji9h : ji9 ≤ 40 := by (rw [← hji9]; unfold mn; (repeat' split) <;> omega)))
      (try (have hji9g : ji9 ≤ 64 := by omega))
      (try (have hji9l : 0 ≤ ji9 := by (rw [← hji9]; unfold mn; (repeat' split) <;> omega)))
      (try (have hji9m : 0 ≤ ji9 := by omega))
      have hji9_ : (if 40 < (a1.size : Int) then 40 else (a1.size : Int)) = ji9 := hji9
      by_cases c10 : 0 ≤ (ji9)
      · rw [if_pos c10] at H
        have c10b0 := eq_true c10
        have c10b1 : decide (0 ≤ (ji9)) = true := decide_eq_true c10
        clear c10
        by_cases c11 : (ji9) ≤ (a1.size : Int)
        · rw [if_pos c11] at H
          have c11b0 := eq_true c11
          have c11b1 : decide ((ji9) ≤ (a1.size : Int)) = true := decide_eq_true c11
          clear c11
          replace H := Option.bind_eq_some_iff.mp H
          obtain ⟨⟨t103, t104⟩, A120, H⟩ := H
          replace H : ((name_Data.f (a1.extract 0 ((ji9) : Int).toNat)).bind fun bt105 => ((name_Log.f a2 a3 a4).bind fun bt107 => (if a3 ≥ 0 then (imprimaturlaw20_NameMakes.j0 k (a0.extract 0 ((ji6) : Int).toNat) (a1.extract 0 ((ji9) : Int).toNat) a2 a3 a4 t103 t104 bt105.1 bt105.2 bt107.1 bt107.2 (decide (a3 ≤ 1000000))) else (imprimaturlaw20_NameMakes.j0 k (a0.extract 0 ((ji6) : Int).toNat) (a1.extract 0 ((ji9) : Int).toNat) a2 a3 a4 t103 t104 bt105.1 bt105.2 bt107.1 bt107.2 false)))) = some true := H
          have A12 := Aside0.mk A120
          clear A120
          replace H := Option.bind_eq_some_iff.mp H
          obtain ⟨⟨t105, t106⟩, A130, H⟩ := H
          replace H : ((name_Log.f a2 a3 a4).bind fun bt107 => (if a3 ≥ 0 then (imprimaturlaw20_NameMakes.j0 k (a0.extract 0 ((ji6) : Int).toNat) (a1.extract 0 ((ji9) : Int).toNat) a2 a3 a4 t103 t104 t105 t106 bt107.1 bt107.2 (decide (a3 ≤ 1000000))) else (imprimaturlaw20_NameMakes.j0 k (a0.extract 0 ((ji6) : Int).toNat) (a1.extract 0 ((ji9) : Int).toNat) a2 a3 a4 t103 t104 t105 t106 bt107.1 bt107.2 false))) = some true := H
          have A13 := Aside0.mk A130
          clear A130
          replace H := Option.bind_eq_some_iff.mp H
          obtain ⟨⟨t107, t108⟩, A140, H⟩ := H
          replace H : (if a3 ≥ 0 then (imprimaturlaw20_NameMakes.j0 k (a0.extract 0 ((ji6) : Int).toNat) (a1.extract 0 ((ji9) : Int).toNat) a2 a3 a4 t103 t104 t105 t106 t107 t108 (decide (a3 ≤ 1000000))) else (imprimaturlaw20_NameMakes.j0 k (a0.extract 0 ((ji6) : Int).toNat) (a1.extract 0 ((ji9) : Int).toNat) a2 a3 a4 t103 t104 t105 t106 t107 t108 false)) = some true := H
          have A14 := Aside0.mk A140
          clear A140
          have HC15 := Aside0.mk H
          clear H
          go_enter Tryd.func3, Tryd.ntmps3
          go_upto_region 5 with (first | (go_at_call 7; (with_reducible refine (name_Meta.calls (a0.extract 0 ((ji6) : Int).toNat) a3 t103 t104 _ (HTAB.out.below (by repeat (first | (with_reducible first | exact HB.out | apply below_alloc | apply pw_below_drewN | apply below_drew1) | exact HB.out))) A12.out).mono ?_); rintro e w16 ⟨rfl, hb⟩; have n0_ := Aside0.mk (below_step (by repeat (first | (with_reducible first | exact HB.out | apply below_alloc | apply pw_below_drewN | apply below_drew1) | exact HB.out)) hb); clear HB; have HB := n0_; clear n0_; (try clear hb); (try clear hb2); (try clear hk); (try clear hi)) | (go_at_call 8; (with_reducible refine (name_Data.calls (a1.extract 0 ((ji9) : Int).toNat) t105 t106 _ A13.out).mono ?_); rintro e w17 ⟨rfl, hb⟩; have n0_ := Aside0.mk (below_step (by repeat (first | (with_reducible first | exact HB.out | apply below_alloc | apply pw_below_drewN | apply below_drew1) | exact HB.out)) hb); clear HB; have HB := n0_; clear n0_; (try clear hb); (try clear hb2); (try clear hk); (try clear hi)) | (go_at_call 9; (with_reducible refine (name_Log.calls a2 a3 a4 t107 t108 _ (HTAB.out.below (by repeat (first | (with_reducible first | exact HB.out | apply below_alloc | apply pw_below_drewN | apply below_drew1) | exact HB.out))) A14.out).mono ?_); rintro e w18 ⟨rfl, hb⟩; have n0_ := Aside0.mk (below_step (by repeat (first | (with_reducible first | exact HB.out | apply below_alloc | apply pw_below_drewN | apply below_drew1) | exact HB.out)) hb); clear HB; have HB := n0_; clear n0_; (try clear hb); (try clear hb2); (try clear hk); (try clear hi)))
          repeat (go_quiet (first | (go_at_call 7; (with_reducible refine (name_Meta.calls (a0.extract 0 ((ji6) : Int).toNat) a3 t103 t104 _ (HTAB.out.below (by repeat (first | (with_reducible first | exact HB.out | apply below_alloc | apply pw_below_drewN | apply below_drew1) | exact HB.out))) A12.out).mono ?_); rintro e w16 ⟨rfl, hb⟩; have n0_ := Aside0.mk (below_step (by repeat (first | (with_reducible first | exact HB.out | apply below_alloc | apply pw_below_drewN | apply below_drew1) | exact HB.out)) hb); clear HB; have HB := n0_; clear n0_; (try clear hb); (try clear hb2); (try clear hk); (try clear hi)) | (go_at_call 8; (with_reducible refine (name_Data.calls (a1.extract 0 ((ji9) : Int).toNat) t105 t106 _ A13.out).mono ?_); rintro e w17 ⟨rfl, hb⟩; have n0_ := Aside0.mk (below_step (by repeat (first | (with_reducible first | exact HB.out | apply below_alloc | apply pw_below_drewN | apply below_drew1) | exact HB.out)) hb); clear HB; have HB := n0_; clear n0_; (try clear hb); (try clear hb2); (try clear hk); (try clear hi)) | (go_at_call 9; (with_reducible refine (name_Log.calls a2 a3 a4 t107 t108 _ (HTAB.out.below (by repeat (first | (with_reducible first | exact HB.out | apply below_alloc | apply pw_below_drewN | apply below_drew1) | exact HB.out))) A14.out).mono ?_); rintro e w18 ⟨rfl, hb⟩; have n0_ := Aside0.mk (below_step (by repeat (first | (with_reducible first | exact HB.out | apply below_alloc | apply pw_below_drewN | apply below_drew1) | exact HB.out)) hb); clear HB; have HB := n0_; clear n0_; (try clear hb); (try clear hb2); (try clear hk); (try clear hi))); go_upto_region 5 with (first | (go_at_call 7; (with_reducible refine (name_Meta.calls (a0.extract 0 ((ji6) : Int).toNat) a3 t103 t104 _ (HTAB.out.below (by repeat (first | (with_reducible first | exact HB.out | apply below_alloc | apply pw_below_drewN | apply below_drew1) | exact HB.out))) A12.out).mono ?_); rintro e w16 ⟨rfl, hb⟩; have n0_ := Aside0.mk (below_step (by repeat (first | (with_reducible first | exact HB.out | apply below_alloc | apply pw_below_drewN | apply below_drew1) | exact HB.out)) hb); clear HB; have HB := n0_; clear n0_; (try clear hb); (try clear hb2); (try clear hk); (try clear hi)) | (go_at_call 8; (with_reducible refine (name_Data.calls (a1.extract 0 ((ji9) : Int).toNat) t105 t106 _ A13.out).mono ?_); rintro e w17 ⟨rfl, hb⟩; have n0_ := Aside0.mk (below_step (by repeat (first | (with_reducible first | exact HB.out | apply below_alloc | apply pw_below_drewN | apply below_drew1) | exact HB.out)) hb); clear HB; have HB := n0_; clear n0_; (try clear hb); (try clear hb2); (try clear hk); (try clear hi)) | (go_at_call 9; (with_reducible refine (name_Log.calls a2 a3 a4 t107 t108 _ (HTAB.out.below (by repeat (first | (with_reducible first | exact HB.out | apply below_alloc | apply pw_below_drewN | apply below_drew1) | exact HB.out))) A14.out).mono ?_); rintro e w18 ⟨rfl, hb⟩; have n0_ := Aside0.mk (below_step (by repeat (first | (with_reducible first | exact HB.out | apply below_alloc | apply pw_below_drewN | apply below_drew1) | exact HB.out)) hb); clear HB; have HB := n0_; clear n0_; (try clear hb); (try clear hb2); (try clear hk); (try clear hi))))
          (try simp only [Act.put, List.setIfInBounds_toArray, List.set_cons_zero, List.set_cons_succ])
          go_cut [17] (fun v17 wc => ∃ (kq : Nat) (x17_14 : Bool), v17 = .bool x17_14 ∧ Aside0 (imprimaturlaw20_NameMakes.j0 kq (a0.extract 0 ((ji6) : Int).toNat) (a1.extract 0 ((ji9) : Int).toNat) a2 a3 a4 t103 t104 t105 t106 t107 t108 x17_14 = some true) ∧ Aside0 (kq ≤ k) ∧ Aside0 (Below w.heap.size w wc))
          case first =>
            have H := HC15.out
            clear HC15
            by_cases c19 : a3 ≥ 0
            · rw [if_pos c19] at H
              have c19b0 : decide (0 ≤ a3) = true := decide_eq_true c19
              clear c19
              (first | rw [c19b0] | (simp only [i64_w, i32_w]; rw [c19b0]) | skip)
              have H' := Aside0.mk H
              clear H
              go_wp2
              repeat (go_quiet (fail); try go_wp2)
              go_meet
              case rel => exact ⟨_, (decide (a3 ≤ 1000000)), (by first | rfl | (simp; done) | (simp [*]; done)), H', ⟨by first | omega | exact Nat.le_refl _⟩, ⟨by repeat (first | (with_reducible first | exact HB.out | apply below_alloc | apply pw_below_drewN | apply below_drew1) | exact HB.out)⟩⟩
            · rw [if_neg c19] at H
              have c19b0 : decide (0 ≤ a3) = false := decide_eq_false c19
              clear c19
              (first | rw [c19b0] | (simp only [i64_w, i32_w]; rw [c19b0]) | skip)
              have H' := Aside0.mk H
              clear H
              go_wp2
              repeat (go_quiet (fail); try go_wp2)
              go_meet
              case rel => exact ⟨_, (false), (by first | rfl | (simp; done) | (simp [*]; done)), H', ⟨by first | omega | exact Nat.le_refl _⟩, ⟨by repeat (first | (with_reducible first | exact HB.out | apply below_alloc | apply pw_below_drewN | apply below_drew1) | exact HB.out)⟩⟩
          case rest =>
            clear HC15
            try clear c1
            try clear p2
            try clear c3
            try clear c7
            try clear c7b0
            try clear c7b1
            try clear c8
            try clear c8b0
            try clear c8b1
            try clear c10
            try clear c10b0
            try clear c10b1
            try clear c11
            try clear c11b0
            try clear c11b1
            try clear c19
            try clear c19b0
            obtain ⟨kq, x17_14, rfl, HA, HJ14, HB⟩ := hcut
            cases kq with
            | zero => exact absurd HA.out (by simp [imprimaturlaw20_NameMakes.j0])
            | succ kj14 =>
              have H := HA.out
              clear HA
              simp only [imprimaturlaw20_NameMakes.j0] at H
              have HC20 := Aside0.mk H
              clear H
              go_upto_region 6 with (fail)
              repeat (go_quiet (fail); go_upto_region 6 with (fail))
              go_cut [18] (fun v18 wc => ∃ (kq : Nat) (x18_19 : Bool), v18 = .bool x18_19 ∧ Aside0 (imprimaturlaw20_NameMakes.j1 kq (a0.extract 0 ((ji6) : Int).toNat) (a1.extract 0 ((ji9) : Int).toNat) a2 a3 a4 t103 t104 t105 t106 t107 t108 x17_14 x18_19 = some true) ∧ Aside0 (kq ≤ kj14) ∧ Aside0 (Below w.heap.size w wc))
              case first =>
                have H := HC20.out
                clear HC20
                by_cases c21 : x17_14 = true
                · subst c21
                  have H1 : ((imprimaturref15_Name.f (a0.extract 0 ((ji6) : Int).toNat)).bind fun t109 => (imprimaturlaw20_NameMakes.j1 kj14 (a0.extract 0 ((ji6) : Int).toNat) (a1.extract 0 ((ji9) : Int).toNat) a2 a3 a4 t103 t104 t105 t106 t107 t108 true t109)) = some true := by rw [if_pos rfl] at H; exact H
                  clear H
                  have H := H1
                  clear H1
                  replace H := Option.bind_eq_some_iff.mp H
                  obtain ⟨t109, A220, H⟩ := H
                  replace H : (imprimaturlaw20_NameMakes.j1 kj14 (a0.extract 0 ((ji6) : Int).toNat) (a1.extract 0 ((ji9) : Int).toNat) a2 a3 a4 t103 t104 t105 t106 t107 t108 true t109) = some true := H
                  have A22 := Aside0.mk A220
                  clear A220
                  have H' := Aside0.mk H
                  clear H
                  go_wp2_with (first | (go_at_call 10; (with_reducible refine (imprimaturref15_Name.calls (a0.extract 0 ((ji6) : Int).toNat) t109 _ A22.out).mono ?_); rintro e w' ⟨rfl, ⟨nd, rfl⟩⟩; (try first | exact ⟨rfl, _, World.drewN_drewN _ _ _⟩ | exact ⟨rfl, _, Eq.trans (World.drewN_drewN _ _ _) (congrArg (World.drewN _) (Nat.add_assoc _ _ _))⟩)))
                  repeat (go_quiet (first | (go_at_call 10; (with_reducible refine (imprimaturref15_Name.calls (a0.extract 0 ((ji6) : Int).toNat) t109 _ A22.out).mono ?_); rintro e w' ⟨rfl, ⟨nd, rfl⟩⟩; (try first | exact ⟨rfl, _, World.drewN_drewN _ _ _⟩ | exact ⟨rfl, _, Eq.trans (World.drewN_drewN _ _ _) (congrArg (World.drewN _) (Nat.add_assoc _ _ _))⟩))); try go_wp2_with (first | (go_at_call 10; (with_reducible refine (imprimaturref15_Name.calls (a0.extract 0 ((ji6) : Int).toNat) t109 _ A22.out).mono ?_); rintro e w' ⟨rfl, ⟨nd, rfl⟩⟩; (try first | exact ⟨rfl, _, World.drewN_drewN _ _ _⟩ | exact ⟨rfl, _, Eq.trans (World.drewN_drewN _ _ _) (congrArg (World.drewN _) (Nat.add_assoc _ _ _))⟩))))
                  go_meet
                  case rel => exact ⟨_, (t109), (by first | rfl | (simp; done) | (simp [*]; done)), H', ⟨by have := HJ14.out; first | omega | exact Nat.le_refl _⟩, ⟨by repeat (first | (with_reducible first | exact HB.out | apply below_alloc | apply pw_below_drewN | apply below_drew1) | exact HB.out)⟩⟩
                · replace c21 := Bool.eq_false_iff.mpr c21
                  subst c21
                  have H1 : (imprimaturlaw20_NameMakes.j1 kj14 (a0.extract 0 ((ji6) : Int).toNat) (a1.extract 0 ((ji9) : Int).toNat) a2 a3 a4 t103 t104 t105 t106 t107 t108 false false) = some true := by rw [if_neg (show ¬ (false = true) by decide)] at H; exact H
                  clear H
                  have H := H1
                  clear H1
                  have H' := Aside0.mk H
                  clear H
                  go_wp2
                  repeat (go_quiet (fail); try go_wp2)
                  go_meet
                  case rel => exact ⟨_, (false), (by first | rfl | (simp; done) | (simp [*]; done)), H', ⟨by have := HJ14.out; first | omega | exact Nat.le_refl _⟩, ⟨by repeat (first | (with_reducible first | exact HB.out | apply below_alloc | apply pw_below_drewN | apply below_drew1) | exact HB.out)⟩⟩
              case rest =>
                clear HC20
                try clear c1
                try clear c2
                try clear p2
                try clear c3
                try clear c7
                try clear c7b0
                try clear c7b1
                try clear c8
                try clear c8b0
                try clear c8b1
                try clear c10
                try clear c10b0
                try clear c10b1
                try clear c11
                try clear c11b0
                try clear c11b1
                try clear c19
                try clear c19b0
                try clear c21
                try clear p2
                obtain ⟨kq, x18_19, rfl, HA, HJ19, HB⟩ := hcut
                cases kq with
                | zero => exact absurd HA.out (by simp [imprimaturlaw20_NameMakes.j1])
                | succ kj19 =>
                  have H := HA.out
                  clear HA
                  simp only [imprimaturlaw20_NameMakes.j1] at H
                  have HC23 := Aside0.mk H
                  clear H
                  go_upto_region 7 with (fail)
                  repeat (go_quiet (fail); go_upto_region 7 with (fail))
                  go_cut [87] (fun v87 wc => ∃ (kq : Nat) (x87_22 : Bool), v87 = .bool x87_22 ∧ Aside0 (imprimaturlaw20_NameMakes.j2 kq (a1.extract 0 ((ji9) : Int).toNat) a2 a3 a4 t105 t106 t107 t108 x17_14 x87_22 = some true) ∧ Aside0 (kq ≤ kj19) ∧ Aside0 (Below w.heap.size w wc))
                  case first =>
                    have H := HC23.out
                    clear HC23
                    by_cases c24 : x18_19 = true
                    · subst c24
                      have H1 : (if t104 = 0 then ((imprimaturref20_Name.f 1 (a0.extract 0 ((ji6) : Int).toNat) (⟨#[]⟩ : ByteArray) a3 0).bind fun t110 => (if t103.toList = t110.toList then ((imprimaturlaw20_alive.f).bind fun t111 => (imprimaturlaw20_NameMakes.j2 kj19 (a1.extract 0 ((ji9) : Int).toNat) a2 a3 a4 t105 t106 t107 t108 x17_14 (!t111))) else (imprimaturlaw20_NameMakes.j2 kj19 (a1.extract 0 ((ji9) : Int).toNat) a2 a3 a4 t105 t106 t107 t108 x17_14 true))) else (imprimaturlaw20_NameMakes.j2 kj19 (a1.extract 0 ((ji9) : Int).toNat) a2 a3 a4 t105 t106 t107 t108 x17_14 true)) = some true := by rw [if_pos rfl] at H; exact H
                      clear H
                      have H := H1
                      clear H1
                      by_cases c25 : t104 = 0
                      · rw [if_pos c25] at H
                        have c25b0 : (t104 == 0) = true := beq_iff_eq.mpr c25
                        have c25b1 : (t104 != 0) = false := bne_eq_false_iff_eq.mpr c25
                        clear c25
                        (first | rw [c25b0] | (simp only [i64_w, i32_w]; rw [c25b0]) | skip)
                        replace H := Option.bind_eq_some_iff.mp H
                        obtain ⟨t110, A260, H⟩ := H
                        replace H : (if t103.toList = t110.toList then ((imprimaturlaw20_alive.f).bind fun t111 => (imprimaturlaw20_NameMakes.j2 kj19 (a1.extract 0 ((ji9) : Int).toNat) a2 a3 a4 t105 t106 t107 t108 x17_14 (!t111))) else (imprimaturlaw20_NameMakes.j2 kj19 (a1.extract 0 ((ji9) : Int).toNat) a2 a3 a4 t105 t106 t107 t108 x17_14 true)) = some true := H
                        have A26 := Aside0.mk A260
                        clear A260
                        by_cases c27 : t103.toList = t110.toList
                        · rw [if_pos c27] at H
                          have c27b0 : (t103.toList == t110.toList) = true := beq_iff_eq.mpr c27
                          have c27b1 : (t103.toList != t110.toList) = false := bne_eq_false_iff_eq.mpr c27
                          clear c27
                          replace H := Option.bind_eq_some_iff.mp H
                          obtain ⟨t111, A280, H⟩ := H
                          replace H : (imprimaturlaw20_NameMakes.j2 kj19 (a1.extract 0 ((ji9) : Int).toNat) a2 a3 a4 t105 t106 t107 t108 x17_14 (!t111)) = some true := H
                          have A28 := Aside0.mk A280
                          clear A280
                          have H' := Aside0.mk H
                          clear H
                          go_wp2_with (first | (go_at_call 11; (with_reducible refine (imprimaturref20_Name.calls 1 (a0.extract 0 ((ji6) : Int).toNat) (⟨#[]⟩ : ByteArray) a3 0 t110 _ (HTAB.out.below (by repeat (first | (with_reducible first | exact HB.out | apply below_alloc | apply pw_below_drewN | apply below_drew1) | exact HB.out))) A26.out).mono ?_); rintro e w29 ⟨rfl, hb⟩; have n0_ := Aside0.mk (below_step (by repeat (first | (with_reducible first | exact HB.out | apply below_alloc | apply pw_below_drewN | apply below_drew1) | exact HB.out)) hb); clear HB; have HB := n0_; clear n0_; (try clear hb); (try clear hb2); (try clear hk); (try clear hi)) | (go_at_call 12; (with_reducible refine (imprimaturlaw20_alive.calls  t111 _ (HTAB.out.below (by repeat (first | (with_reducible first | exact HB.out | apply below_alloc | apply pw_below_drewN | apply below_drew1) | exact HB.out))) A28.out).mono ?_); rintro e w30 ⟨rfl, hb⟩; have n0_ := Aside0.mk (below_step (by repeat (first | (with_reducible first | exact HB.out | apply below_alloc | apply pw_below_drewN | apply below_drew1) | exact HB.out)) hb); clear HB; have HB := n0_; clear n0_; (try clear hb); (try clear hb2); (try clear hk); (try clear hi)))
                          repeat (go_quiet (first | (go_at_call 11; (with_reducible refine (imprimaturref20_Name.calls 1 (a0.extract 0 ((ji6) : Int).toNat) (⟨#[]⟩ : ByteArray) a3 0 t110 _ (HTAB.out.below (by repeat (first | (with_reducible first | exact HB.out | apply below_alloc | apply pw_below_drewN | apply below_drew1) | exact HB.out))) A26.out).mono ?_); rintro e w29 ⟨rfl, hb⟩; have n0_ := Aside0.mk (below_step (by repeat (first | (with_reducible first | exact HB.out | apply below_alloc | apply pw_below_drewN | apply below_drew1) | exact HB.out)) hb); clear HB; have HB := n0_; clear n0_; (try clear hb); (try clear hb2); (try clear hk); (try clear hi)) | (go_at_call 12; (with_reducible refine (imprimaturlaw20_alive.calls  t111 _ (HTAB.out.below (by repeat (first | (with_reducible first | exact HB.out | apply below_alloc | apply pw_below_drewN | apply below_drew1) | exact HB.out))) A28.out).mono ?_); rintro e w30 ⟨rfl, hb⟩; have n0_ := Aside0.mk (below_step (by repeat (first | (with_reducible first | exact HB.out | apply below_alloc | apply pw_below_drewN | apply below_drew1) | exact HB.out)) hb); clear HB; have HB := n0_; clear n0_; (try clear hb); (try clear hb2); (try clear hk); (try clear hi))); try go_wp2_with (first | (go_at_call 11; (with_reducible refine (imprimaturref20_Name.calls 1 (a0.extract 0 ((ji6) : Int).toNat) (⟨#[]⟩ : ByteArray) a3 0 t110 _ (HTAB.out.below (by repeat (first | (with_reducible first | exact HB.out | apply below_alloc | apply pw_below_drewN | apply below_drew1) | exact HB.out))) A26.out).mono ?_); rintro e w29 ⟨rfl, hb⟩; have n0_ := Aside0.mk (below_step (by repeat (first | (with_reducible first | exact HB.out | apply below_alloc | apply pw_below_drewN | apply below_drew1) | exact HB.out)) hb); clear HB; have HB := n0_; clear n0_; (try clear hb); (try clear hb2); (try clear hk); (try clear hi)) | (go_at_call 12; (with_reducible refine (imprimaturlaw20_alive.calls  t111 _ (HTAB.out.below (by repeat (first | (with_reducible first | exact HB.out | apply below_alloc | apply pw_below_drewN | apply below_drew1) | exact HB.out))) A28.out).mono ?_); rintro e w30 ⟨rfl, hb⟩; have n0_ := Aside0.mk (below_step (by repeat (first | (with_reducible first | exact HB.out | apply below_alloc | apply pw_below_drewN | apply below_drew1) | exact HB.out)) hb); clear HB; have HB := n0_; clear n0_; (try clear hb); (try clear hb2); (try clear hk); (try clear hi))))
                          go_meet
                          case rel => exact ⟨_, (!t111), (by first | rfl | (simp; done) | (simp [*]; done)), H', ⟨by have := HJ14.out; have := HJ19.out; first | omega | exact Nat.le_refl _⟩, ⟨by repeat (first | (with_reducible first | exact HB.out | apply below_alloc | apply pw_below_drewN | apply below_drew1) | exact HB.out)⟩⟩
                        · rw [if_neg c27] at H
                          have c27b0 : (t103.toList == t110.toList) = false := beq_eq_false_iff_ne.mpr c27
                          have c27b1 : (t103.toList != t110.toList) = true := bne_iff_ne.mpr c27
                          first | exact absurd H (j2_no _ _ _ _ _ _ _ _ _ _) | exact absurd H (j3_no _ _ _ _ _ _ _)
                      · rw [if_neg c25] at H
                        have c25b0 : (t104 == 0) = false := beq_eq_false_iff_ne.mpr c25
                        have c25b1 : (t104 != 0) = true := bne_iff_ne.mpr c25
                        (first | rw [c25b0] | (simp only [i64_w, i32_w]; rw [c25b0]) | skip)
                        first | exact absurd H (j2_no _ _ _ _ _ _ _ _ _ _) | exact absurd H (j3_no _ _ _ _ _ _ _)
                    · replace c24 := Bool.eq_false_iff.mpr c24
                      subst c24
                      have H1 : (if t104 = 1 then (if t103.toList = ([] : List UInt8) then ((imprimaturlaw20_alive.f).bind fun t112 => (imprimaturlaw20_NameMakes.j2 kj19 (a1.extract 0 ((ji9) : Int).toNat) a2 a3 a4 t105 t106 t107 t108 x17_14 (!t112))) else (imprimaturlaw20_NameMakes.j2 kj19 (a1.extract 0 ((ji9) : Int).toNat) a2 a3 a4 t105 t106 t107 t108 x17_14 true)) else (imprimaturlaw20_NameMakes.j2 kj19 (a1.extract 0 ((ji9) : Int).toNat) a2 a3 a4 t105 t106 t107 t108 x17_14 true)) = some true := by rw [if_neg (show ¬ (false = true) by decide)] at H; exact H
                      clear H
                      have H := H1
                      clear H1
                      by_cases c32 : t104 = 1
                      · rw [if_pos c32] at H
                        have c32b0 : (t104 == 1) = true := beq_iff_eq.mpr c32
                        have c32b1 : (t104 != 1) = false := bne_eq_false_iff_eq.mpr c32
                        clear c32
                        by_cases c33 : t103.toList = ([] : List UInt8)
                        · rw [if_pos c33] at H
                          have c33b0 : (t103.toList == ([] : List UInt8)) = true := beq_iff_eq.mpr c33
                          have c33b1 : (t103.toList != ([] : List UInt8)) = false := bne_eq_false_iff_eq.mpr c33
                          clear c33
                          replace H := Option.bind_eq_some_iff.mp H
                          obtain ⟨t112, A340, H⟩ := H
                          replace H : (imprimaturlaw20_NameMakes.j2 kj19 (a1.extract 0 ((ji9) : Int).toNat) a2 a3 a4 t105 t106 t107 t108 x17_14 (!t112)) = some true := H
                          have A34 := Aside0.mk A340
                          clear A340
                          have H' := Aside0.mk H
                          clear H
                          go_wp2_with (first | (go_at_call 12; (with_reducible refine (imprimaturlaw20_alive.calls  t112 _ (HTAB.out.below (by repeat (first | (with_reducible first | exact HB.out | apply below_alloc | apply pw_below_drewN | apply below_drew1) | exact HB.out))) A34.out).mono ?_); rintro e w35 ⟨rfl, hb⟩; have n0_ := Aside0.mk (below_step (by repeat (first | (with_reducible first | exact HB.out | apply below_alloc | apply pw_below_drewN | apply below_drew1) | exact HB.out)) hb); clear HB; have HB := n0_; clear n0_; (try clear hb); (try clear hb2); (try clear hk); (try clear hi)))
                          repeat (go_quiet (first | (go_at_call 12; (with_reducible refine (imprimaturlaw20_alive.calls  t112 _ (HTAB.out.below (by repeat (first | (with_reducible first | exact HB.out | apply below_alloc | apply pw_below_drewN | apply below_drew1) | exact HB.out))) A34.out).mono ?_); rintro e w35 ⟨rfl, hb⟩; have n0_ := Aside0.mk (below_step (by repeat (first | (with_reducible first | exact HB.out | apply below_alloc | apply pw_below_drewN | apply below_drew1) | exact HB.out)) hb); clear HB; have HB := n0_; clear n0_; (try clear hb); (try clear hb2); (try clear hk); (try clear hi))); try go_wp2_with (first | (go_at_call 12; (with_reducible refine (imprimaturlaw20_alive.calls  t112 _ (HTAB.out.below (by repeat (first | (with_reducible first | exact HB.out | apply below_alloc | apply pw_below_drewN | apply below_drew1) | exact HB.out))) A34.out).mono ?_); rintro e w35 ⟨rfl, hb⟩; have n0_ := Aside0.mk (below_step (by repeat (first | (with_reducible first | exact HB.out | apply below_alloc | apply pw_below_drewN | apply below_drew1) | exact HB.out)) hb); clear HB; have HB := n0_; clear n0_; (try clear hb); (try clear hb2); (try clear hk); (try clear hi))))
                          go_meet
                          case rel => exact ⟨_, (!t112), (by first | rfl | (simp; done) | (simp [*]; done)), H', ⟨by have := HJ14.out; have := HJ19.out; first | omega | exact Nat.le_refl _⟩, ⟨by repeat (first | (with_reducible first | exact HB.out | apply below_alloc | apply pw_below_drewN | apply below_drew1) | exact HB.out)⟩⟩
                        · rw [if_neg c33] at H
                          have c33b0 : (t103.toList == ([] : List UInt8)) = false := beq_eq_false_iff_ne.mpr c33
                          have c33b1 : (t103.toList != ([] : List UInt8)) = true := bne_iff_ne.mpr c33
                          first | exact absurd H (j2_no _ _ _ _ _ _ _ _ _ _) | exact absurd H (j3_no _ _ _ _ _ _ _)
                      · rw [if_neg c32] at H
                        have c32b0 : (t104 == 1) = false := beq_eq_false_iff_ne.mpr c32
                        have c32b1 : (t104 != 1) = true := bne_iff_ne.mpr c32
                        first | exact absurd H (j2_no _ _ _ _ _ _ _ _ _ _) | exact absurd H (j3_no _ _ _ _ _ _ _)
                  case rest =>
                    clear HC23
                    try clear c1
                    try clear c2
                    try clear p2
                    try clear c3
                    try clear c7
                    try clear c7b0
                    try clear c7b1
                    try clear c8
                    try clear c8b0
                    try clear c8b1
                    try clear c10
                    try clear c10b0
                    try clear c10b1
                    try clear c11
                    try clear c11b0
                    try clear c11b1
                    try clear c19
                    try clear c19b0
                    try clear c21
                    try clear c24
                    try clear c25
                    try clear c25b0
                    try clear c25b1
                    try clear c27
                    try clear c27b0
                    try clear c27b1
                    try clear c32
                    try clear c32b0
                    try clear c32b1
                    try clear c33
                    try clear c33b0
                    try clear c33b1
                    try clear p2
                    obtain ⟨kq, x87_22, rfl, HA, HJ22, HB⟩ := hcut
                    cases kq with
                    | zero => exact absurd HA.out (by simp [imprimaturlaw20_NameMakes.j2])
                    | succ kj22 =>
                      have H := HA.out
                      clear HA
                      simp only [imprimaturlaw20_NameMakes.j2] at H
                      by_cases c36 : x87_22 = true
                      · subst c36
                        have H1 : (some false) = some true := by rw [if_pos rfl] at H; exact H
                        clear H
                        have H := H1
                        clear H1
                        first
                        | (exact absurd (Option.some.inj H) (by decide))
                        | (
                           have hR_ := Option.some.inj H
                           go_wp2
                           repeat (go_quiet (fail); try go_wp2)
                           go_ret
                           exact ⟨by first | rfl | (rw [hR_]; done) | (rw [← hR_]; done) | (simp [errW_none, errW_some] <;> rfl) | (simp only [← hji6, ← hji9]; first | rfl | (simp [errW_none, errW_some] <;> rfl)) | (simp [*, errW_none, errW_some] <;> rfl), by repeat (first | (with_reducible first | exact HB.out | apply below_alloc | apply pw_below_drewN | apply below_drew1) | exact HB.out)⟩
                          )
                      · replace c36 := Bool.eq_false_iff.mpr c36
                        subst c36
                        have H1 : (if ((a1.extract 0 ((ji9) : Int).toNat).size : Int) = 32 then (if t106 = 0 then ((imprimaturref20_Name.f 2 (⟨#[]⟩ : ByteArray) (a1.extract 0 ((ji9) : Int).toNat) 0 0).bind fun t113 => (if t105.toList = t113.toList then (imprimaturlaw20_NameMakes.j3 kj22 a2 a3 a4 t107 t108 x17_14 false) else (imprimaturlaw20_NameMakes.j3 kj22 a2 a3 a4 t107 t108 x17_14 true))) else (imprimaturlaw20_NameMakes.j3 kj22 a2 a3 a4 t107 t108 x17_14 true)) else (if t106 = 1 then (imprimaturlaw20_NameMakes.j3 kj22 a2 a3 a4 t107 t108 x17_14 (t105.toList != ([] : List UInt8))) else (imprimaturlaw20_NameMakes.j3 kj22 a2 a3 a4 t107 t108 x17_14 true))) = some true := by rw [if_neg (show ¬ (false = true) by decide)] at H; exact H
                        clear H
                        have H := H1
                        clear H1
                        have HC37 := Aside0.mk H
                        clear H
                        go_upto_region 9 with (fail)
                        repeat (go_quiet (fail); go_upto_region 9 with (fail))
                        go_cut [114] (fun v114 wc => ∃ (kq : Nat) (x114_36 : Bool), v114 = .bool x114_36 ∧ Aside0 (imprimaturlaw20_NameMakes.j3 kq a2 a3 a4 t107 t108 x17_14 x114_36 = some true) ∧ Aside0 (kq ≤ kj22) ∧ Aside0 (Below w.heap.size w wc))
                        case first =>
                          have H := HC37.out
                          clear HC37
                          generalize a1.extract 0 ji9.toNat = U_ at *
                          by_cases c38 : (U_.size : Int) = 32
                          · rw [if_pos c38] at H
                            have c38b0 : ((U_.size : Int) == 32) = true := beq_iff_eq.mpr c38
                            have c38b1 : ((U_.size : Int) != 32) = false := bne_eq_false_iff_eq.mpr c38
                            clear c38
                            (first | rw [c38b0] | (simp only [i64_w, i32_w]; rw [c38b0]) | skip)
                            by_cases c39 : t106 = 0
                            · rw [if_pos c39] at H
                              have c39b0 : (t106 == 0) = true := beq_iff_eq.mpr c39
                              have c39b1 : (t106 != 0) = false := bne_eq_false_iff_eq.mpr c39
                              clear c39
                              replace H := Option.bind_eq_some_iff.mp H
                              obtain ⟨t113, A400, H⟩ := H
                              replace H : (if t105.toList = t113.toList then (imprimaturlaw20_NameMakes.j3 kj22 a2 a3 a4 t107 t108 x17_14 false) else (imprimaturlaw20_NameMakes.j3 kj22 a2 a3 a4 t107 t108 x17_14 true)) = some true := H
                              have A40 := Aside0.mk A400
                              clear A400
                              by_cases c41 : t105.toList = t113.toList
                              · rw [if_pos c41] at H
                                have c41b0 : (t105.toList == t113.toList) = true := beq_iff_eq.mpr c41
                                have c41b1 : (t105.toList != t113.toList) = false := bne_eq_false_iff_eq.mpr c41
                                clear c41
                                have H' := Aside0.mk H
                                clear H
                                go_wp2_with (first | (go_at_call 11; (with_reducible refine (imprimaturref20_Name.calls 2 (⟨#[]⟩ : ByteArray) U_ 0 0 t113 _ (HTAB.out.below (by repeat (first | (with_reducible first | exact HB.out | apply below_alloc | apply pw_below_drewN | apply below_drew1) | exact HB.out))) A40.out).mono ?_); rintro e w42 ⟨rfl, hb⟩; have n0_ := Aside0.mk (below_step (by repeat (first | (with_reducible first | exact HB.out | apply below_alloc | apply pw_below_drewN | apply below_drew1) | exact HB.out)) hb); clear HB; have HB := n0_; clear n0_; (try clear hb); (try clear hb2); (try clear hk); (try clear hi)))
                                repeat (go_quiet (first | (go_at_call 11; (with_reducible refine (imprimaturref20_Name.calls 2 (⟨#[]⟩ : ByteArray) U_ 0 0 t113 _ (HTAB.out.below (by repeat (first | (with_reducible first | exact HB.out | apply below_alloc | apply pw_below_drewN | apply below_drew1) | exact HB.out))) A40.out).mono ?_); rintro e w42 ⟨rfl, hb⟩; have n0_ := Aside0.mk (below_step (by repeat (first | (with_reducible first | exact HB.out | apply below_alloc | apply pw_below_drewN | apply below_drew1) | exact HB.out)) hb); clear HB; have HB := n0_; clear n0_; (try clear hb); (try clear hb2); (try clear hk); (try clear hi))); try go_wp2_with (first | (go_at_call 11; (with_reducible refine (imprimaturref20_Name.calls 2 (⟨#[]⟩ : ByteArray) U_ 0 0 t113 _ (HTAB.out.below (by repeat (first | (with_reducible first | exact HB.out | apply below_alloc | apply pw_below_drewN | apply below_drew1) | exact HB.out))) A40.out).mono ?_); rintro e w42 ⟨rfl, hb⟩; have n0_ := Aside0.mk (below_step (by repeat (first | (with_reducible first | exact HB.out | apply below_alloc | apply pw_below_drewN | apply below_drew1) | exact HB.out)) hb); clear HB; have HB := n0_; clear n0_; (try clear hb); (try clear hb2); (try clear hk); (try clear hi))))
                                go_meet
                                case rel => exact ⟨_, (false), (by first | rfl | (simp; done) | (simp [*]; done)), H', ⟨by have := HJ14.out; have := HJ19.out; have := HJ22.out; first | omega | exact Nat.le_refl _⟩, ⟨by repeat (first | (with_reducible first | exact HB.out | apply below_alloc | apply pw_below_drewN | apply below_drew1) | exact HB.out)⟩⟩
                              · rw [if_neg c41] at H
                                have c41b0 : (t105.toList == t113.toList) = false := beq_eq_false_iff_ne.mpr c41
                                have c41b1 : (t105.toList != t113.toList) = true := bne_iff_ne.mpr c41
                                first | exact absurd H (j2_no _ _ _ _ _ _ _ _ _ _) | exact absurd H (j3_no _ _ _ _ _ _ _)
                            · rw [if_neg c39] at H
                              have c39b0 : (t106 == 0) = false := beq_eq_false_iff_ne.mpr c39
                              have c39b1 : (t106 != 0) = true := bne_iff_ne.mpr c39
                              first | exact absurd H (j2_no _ _ _ _ _ _ _ _ _ _) | exact absurd H (j3_no _ _ _ _ _ _ _)
                          · rw [if_neg c38] at H
                            have c38b0 : ((U_.size : Int) == 32) = false := beq_eq_false_iff_ne.mpr c38
                            have c38b1 : ((U_.size : Int) != 32) = true := bne_iff_ne.mpr c38
                            (first | rw [c38b0] | (simp only [i64_w, i32_w]; rw [c38b0]) | skip)
                            by_cases c44 : t106 = 1
                            · rw [if_pos c44] at H
                              have c44b0 : (t106 == 1) = true := beq_iff_eq.mpr c44
                              have c44b1 : (t106 != 1) = false := bne_eq_false_iff_eq.mpr c44
                              clear c44
                              have H' := Aside0.mk H
                              clear H
                              go_wp2
                              repeat (go_quiet (fail); try go_wp2)
                              go_meet
                              case rel => exact ⟨_, ((t105.toList != ([] : List UInt8))), (by first | rfl | (simp; done) | (simp; cases t105.toList <;> rfl)), H', ⟨by have := HJ14.out; have := HJ19.out; have := HJ22.out; first | omega | exact Nat.le_refl _⟩, ⟨by repeat (first | (with_reducible first | exact HB.out | apply below_alloc | apply pw_below_drewN | apply below_drew1) | exact HB.out)⟩⟩
                            · rw [if_neg c44] at H
                              have c44b0 : (t106 == 1) = false := beq_eq_false_iff_ne.mpr c44
                              have c44b1 : (t106 != 1) = true := bne_iff_ne.mpr c44
                              first | exact absurd H (j2_no _ _ _ _ _ _ _ _ _ _) | exact absurd H (j3_no _ _ _ _ _ _ _)
                        case rest =>
                          clear HC37
                          try clear c1
                          try clear c2
                          try clear p2
                          try clear c3
                          try clear c4
                          try clear c7
                          try clear c7b0
                          try clear c7b1
                          try clear c8
                          try clear c8b0
                          try clear c8b1
                          try clear c10
                          try clear c10b0
                          try clear c10b1
                          try clear c11
                          try clear c11b0
                          try clear c11b1
                          try clear c19
                          try clear c19b0
                          try clear c21
                          try clear c24
                          try clear c25
                          try clear c25b0
                          try clear c25b1
                          try clear c27
                          try clear c27b0
                          try clear c27b1
                          try clear c32
                          try clear c32b0
                          try clear c32b1
                          try clear c33
                          try clear c33b0
                          try clear c33b1
                          try clear c36
                          try clear c38
                          try clear c38b0
                          try clear c38b1
                          try clear c39
                          try clear c39b0
                          try clear c39b1
                          try clear c41
                          try clear c41b0
                          try clear c41b1
                          try clear c44
                          try clear c44b0
                          try clear c44b1
                          try clear p2
                          obtain ⟨kq, x114_36, rfl, HA, HJ36, HB⟩ := hcut
                          cases kq with
                          | zero => exact absurd HA.out (by simp [imprimaturlaw20_NameMakes.j3])
                          | succ kj36 =>
                            have H := HA.out
                            clear HA
                            simp only [imprimaturlaw20_NameMakes.j3] at H
                            by_cases c45 : x114_36 = true
                            · subst c45
                              have H1 : (some false) = some true := by rw [if_pos rfl] at H; exact H
                              clear H
                              have H := H1
                              clear H1
                              first
                              | (exact absurd (Option.some.inj H) (by decide))
                              | (
                                 have hR_ := Option.some.inj H
                                 go_wp2
                                 repeat (go_quiet (fail); try go_wp2)
                                 go_ret
                                 exact ⟨by first | rfl | (rw [hR_]; done) | (rw [← hR_]; done) | (simp [errW_none, errW_some] <;> rfl) | (simp only [← hji6, ← hji9]; first | rfl | (simp [errW_none, errW_some] <;> rfl)) | (simp [*, errW_none, errW_some] <;> rfl), by repeat (first | (with_reducible first | exact HB.out | apply below_alloc | apply pw_below_drewN | apply below_drew1) | exact HB.out)⟩
                                )
                            · replace c45 := Bool.eq_false_iff.mpr c45
                              subst c45
                              have H1 : (if x17_14 = true then (if a4 ≥ 0 then (imprimaturlaw20_NameMakes.j4 kj36 a2 a3 a4 t107 t108 (decide (a4 ≤ 1000000))) else (imprimaturlaw20_NameMakes.j4 kj36 a2 a3 a4 t107 t108 false)) else (imprimaturlaw20_NameMakes.j4 kj36 a2 a3 a4 t107 t108 false)) = some true := by rw [if_neg (show ¬ (false = true) by decide)] at H; exact H
                              clear H
                              have H := H1
                              clear H1
                              have HC46 := Aside0.mk H
                              clear H
                              go_upto_region 11 with (fail)
                              repeat (go_quiet (fail); go_upto_region 11 with (fail))
                              go_cut [17] (fun v17 wc => ∃ (kq : Nat) (x17_45 : Bool), v17 = .bool x17_45 ∧ Aside0 (imprimaturlaw20_NameMakes.j4 kq a2 a3 a4 t107 t108 x17_45 = some true) ∧ Aside0 (kq ≤ kj36) ∧ Aside0 (Below w.heap.size w wc))
                              case first =>
                                have H := HC46.out
                                clear HC46
                                by_cases c47 : x17_14 = true
                                · subst c47
                                  have H1 : (if a4 ≥ 0 then (imprimaturlaw20_NameMakes.j4 kj36 a2 a3 a4 t107 t108 (decide (a4 ≤ 1000000))) else (imprimaturlaw20_NameMakes.j4 kj36 a2 a3 a4 t107 t108 false)) = some true := by rw [if_pos rfl] at H; exact H
                                  clear H
                                  have H := H1
                                  clear H1
                                  by_cases c48 : a4 ≥ 0
                                  · rw [if_pos c48] at H
                                    have c48b0 : decide (0 ≤ a4) = true := decide_eq_true c48
                                    clear c48
                                    (first | rw [c48b0] | (simp only [i64_w, i32_w]; rw [c48b0]) | skip)
                                    have H' := Aside0.mk H
                                    clear H
                                    go_wp2
                                    repeat (go_quiet (fail); try go_wp2)
                                    go_meet
                                    case rel => exact ⟨_, (decide (a4 ≤ 1000000)), (by first | rfl | (simp; done) | (simp [*]; done)), H', ⟨by have := HJ14.out; have := HJ19.out; have := HJ22.out; have := HJ36.out; first | omega | exact Nat.le_refl _⟩, ⟨by repeat (first | (with_reducible first | exact HB.out | apply below_alloc | apply pw_below_drewN | apply below_drew1) | exact HB.out)⟩⟩
                                  · rw [if_neg c48] at H
                                    have c48b0 : decide (0 ≤ a4) = false := decide_eq_false c48
                                    clear c48
                                    (first | rw [c48b0] | (simp only [i64_w, i32_w]; rw [c48b0]) | skip)
                                    have H' := Aside0.mk H
                                    clear H
                                    go_wp2
                                    repeat (go_quiet (fail); try go_wp2)
                                    go_meet
                                    case rel => exact ⟨_, (false), (by first | rfl | (simp; done) | (simp [*]; done)), H', ⟨by have := HJ14.out; have := HJ19.out; have := HJ22.out; have := HJ36.out; first | omega | exact Nat.le_refl _⟩, ⟨by repeat (first | (with_reducible first | exact HB.out | apply below_alloc | apply pw_below_drewN | apply below_drew1) | exact HB.out)⟩⟩
                                · replace c47 := Bool.eq_false_iff.mpr c47
                                  subst c47
                                  have H1 : (imprimaturlaw20_NameMakes.j4 kj36 a2 a3 a4 t107 t108 false) = some true := by rw [if_neg (show ¬ (false = true) by decide)] at H; exact H
                                  clear H
                                  have H := H1
                                  clear H1
                                  have H' := Aside0.mk H
                                  clear H
                                  go_wp2
                                  repeat (go_quiet (fail); try go_wp2)
                                  go_meet
                                  case rel => exact ⟨_, (false), (by first | rfl | (simp; done) | (simp [*]; done)), H', ⟨by have := HJ14.out; have := HJ19.out; have := HJ22.out; have := HJ36.out; first | omega | exact Nat.le_refl _⟩, ⟨by repeat (first | (with_reducible first | exact HB.out | apply below_alloc | apply pw_below_drewN | apply below_drew1) | exact HB.out)⟩⟩
                              case rest =>
                                clear HC46
                                try clear c1
                                try clear c2
                                try clear p2
                                try clear c3
                                try clear c4
                                try clear c7
                                try clear c7b0
                                try clear c7b1
                                try clear c8
                                try clear c8b0
                                try clear c8b1
                                try clear c10
                                try clear c10b0
                                try clear c10b1
                                try clear c11
                                try clear c11b0
                                try clear c11b1
                                try clear c19
                                try clear c19b0
                                try clear c21
                                try clear c24
                                try clear c25
                                try clear c25b0
                                try clear c25b1
                                try clear c27
                                try clear c27b0
                                try clear c27b1
                                try clear c32
                                try clear c32b0
                                try clear c32b1
                                try clear c33
                                try clear c33b0
                                try clear c33b1
                                try clear c36
                                try clear c38
                                try clear c38b0
                                try clear c38b1
                                try clear c39
                                try clear c39b0
                                try clear c39b1
                                try clear c41
                                try clear c41b0
                                try clear c41b1
                                try clear c44
                                try clear c44b0
                                try clear c44b1
                                try clear c45
                                try clear c47
                                try clear c48
                                try clear c48b0
                                try clear p2
                                obtain ⟨kq, x17_45, rfl, HA, HJ45, HB⟩ := hcut
                                cases kq with
                                | zero => exact absurd HA.out (by simp [imprimaturlaw20_NameMakes.j4])
                                | succ kj45 =>
                                  have H := HA.out
                                  clear HA
                                  simp only [imprimaturlaw20_NameMakes.j4] at H
                                  by_cases c49 : a2.toList = ([104, 101, 97, 100] : List UInt8)
                                  · rw [if_pos c49] at H
                                    have c49b0 : (a2.toList == ([104, 101, 97, 100] : List UInt8)) = true := beq_iff_eq.mpr c49
                                    have c49b1 : (a2.toList != ([104, 101, 97, 100] : List UInt8)) = false := bne_eq_false_iff_eq.mpr c49
                                    clear c49
                                    by_cases c50 : x17_45 = true
                                    · subst c50
                                      have H1 : (if a3 = 0 then (if 3 = 0 then (if t108 = 1 then (some (t107.toList == ([] : List UInt8))) else (some false)) else (if a4 = 0 then (if t108 = 0 then ((imprimaturref20_Name.f 3 (⟨#[]⟩ : ByteArray) (⟨#[]⟩ : ByteArray) a3 a4).bind fun t114 => (some (t107.toList == t114.toList))) else (some false)) else (if t108 = 1 then (some (t107.toList == ([] : List UInt8))) else (some false)))) else (if 3 = 0 then (if t108 = 1 then (some (t107.toList == ([] : List UInt8))) else (some false)) else (if t108 = 1 then (some (t107.toList == ([] : List UInt8))) else (some false)))) = some true := by rw [if_pos rfl] at H; exact H
                                      clear H
                                      have H := H1
                                      clear H1
                                      by_cases c51 : a3 = 0
                                      · rw [if_pos c51] at H
                                        have c51b0 : (a3 == 0) = true := beq_iff_eq.mpr c51
                                        have c51b1 : (a3 != 0) = false := bne_eq_false_iff_eq.mpr c51
                                        clear c51
                                        by_cases c52 : 3 = 0
                                        · exact absurd c52 (by decide)
                                        · rw [if_neg c52] at H
                                          have c52b0 : (3 == 0) = false := beq_eq_false_iff_ne.mpr c52
                                          have c52b1 : (3 != 0) = true := bne_iff_ne.mpr c52
                                          by_cases c54 : a4 = 0
                                          · rw [if_pos c54] at H
                                            have c54b0 : (a4 == 0) = true := beq_iff_eq.mpr c54
                                            have c54b1 : (a4 != 0) = false := bne_eq_false_iff_eq.mpr c54
                                            clear c54
                                            by_cases c55 : t108 = 0
                                            · rw [if_pos c55] at H
                                              have c55b0 : (t108 == 0) = true := beq_iff_eq.mpr c55
                                              have c55b1 : (t108 != 0) = false := bne_eq_false_iff_eq.mpr c55
                                              clear c55
                                              replace H := Option.bind_eq_some_iff.mp H
                                              obtain ⟨t114, A560, H⟩ := H
                                              replace H : (some (t107.toList == t114.toList)) = some true := H
                                              have A56 := Aside0.mk A560
                                              clear A560
                                              first
                                              | (exact absurd (Option.some.inj H) (by decide))
                                              | (
                                                 have hR_ := Option.some.inj H
                                                 go_wp2_with (first | (go_at_call 11; (with_reducible refine (imprimaturref20_Name.calls 3 (⟨#[]⟩ : ByteArray) (⟨#[]⟩ : ByteArray) a3 a4 t114 _ (HTAB.out.below (by repeat (first | (with_reducible first | exact HB.out | apply below_alloc | apply pw_below_drewN | apply below_drew1) | exact HB.out))) A56.out).mono ?_); rintro e w57 ⟨rfl, hb⟩; have n0_ := Aside0.mk (below_step (by repeat (first | (with_reducible first | exact HB.out | apply below_alloc | apply pw_below_drewN | apply below_drew1) | exact HB.out)) hb); clear HB; have HB := n0_; clear n0_; (try clear hb); (try clear hb2); (try clear hk); (try clear hi)))
                                                 repeat (go_quiet (first | (go_at_call 11; (with_reducible refine (imprimaturref20_Name.calls 3 (⟨#[]⟩ : ByteArray) (⟨#[]⟩ : ByteArray) a3 a4 t114 _ (HTAB.out.below (by repeat (first | (with_reducible first | exact HB.out | apply below_alloc | apply pw_below_drewN | apply below_drew1) | exact HB.out))) A56.out).mono ?_); rintro e w57 ⟨rfl, hb⟩; have n0_ := Aside0.mk (below_step (by repeat (first | (with_reducible first | exact HB.out | apply below_alloc | apply pw_below_drewN | apply below_drew1) | exact HB.out)) hb); clear HB; have HB := n0_; clear n0_; (try clear hb); (try clear hb2); (try clear hk); (try clear hi))); try go_wp2_with (first | (go_at_call 11; (with_reducible refine (imprimaturref20_Name.calls 3 (⟨#[]⟩ : ByteArray) (⟨#[]⟩ : ByteArray) a3 a4 t114 _ (HTAB.out.below (by repeat (first | (with_reducible first | exact HB.out | apply below_alloc | apply pw_below_drewN | apply below_drew1) | exact HB.out))) A56.out).mono ?_); rintro e w57 ⟨rfl, hb⟩; have n0_ := Aside0.mk (below_step (by repeat (first | (with_reducible first | exact HB.out | apply below_alloc | apply pw_below_drewN | apply below_drew1) | exact HB.out)) hb); clear HB; have HB := n0_; clear n0_; (try clear hb); (try clear hb2); (try clear hk); (try clear hi))))
                                                 go_ret
                                                 exact ⟨by first | rfl | (rw [hR_]; done) | (rw [← hR_]; done) | (simp [errW_none, errW_some] <;> rfl) | (simp only [← hji6, ← hji9]; first | rfl | (simp [errW_none, errW_some] <;> rfl)) | (simp [*, errW_none, errW_some] <;> rfl), by repeat (first | (with_reducible first | exact HB.out | apply below_alloc | apply pw_below_drewN | apply below_drew1) | exact HB.out)⟩
                                                )
                                            · rw [if_neg c55] at H
                                              have c55b0 : (t108 == 0) = false := beq_eq_false_iff_ne.mpr c55
                                              have c55b1 : (t108 != 0) = true := bne_iff_ne.mpr c55
                                              first
                                              | (exact absurd (Option.some.inj H) (by decide))
                                              | (
                                                 have hR_ := Option.some.inj H
                                                 go_wp2
                                                 repeat (go_quiet (fail); try go_wp2)
                                                 go_ret
                                                 exact ⟨by first | rfl | (rw [hR_]; done) | (rw [← hR_]; done) | (simp [errW_none, errW_some] <;> rfl) | (simp only [← hji6, ← hji9]; first | rfl | (simp [errW_none, errW_some] <;> rfl)) | (simp [*, errW_none, errW_some] <;> rfl), by repeat (first | (with_reducible first | exact HB.out | apply below_alloc | apply pw_below_drewN | apply below_drew1) | exact HB.out)⟩
                                                )
                                          · rw [if_neg c54] at H
                                            have c54b0 : (a4 == 0) = false := beq_eq_false_iff_ne.mpr c54
                                            have c54b1 : (a4 != 0) = true := bne_iff_ne.mpr c54
                                            by_cases c58 : t108 = 1
                                            · rw [if_pos c58] at H
                                              have c58b0 : (t108 == 1) = true := beq_iff_eq.mpr c58
                                              have c58b1 : (t108 != 1) = false := bne_eq_false_iff_eq.mpr c58
                                              clear c58
                                              first
                                              | (exact absurd (Option.some.inj H) (by decide))
                                              | (
                                                 have hR_ := Option.some.inj H
                                                 go_wp2
                                                 repeat (go_quiet (fail); try go_wp2)
                                                 go_ret
                                                 exact ⟨by first | rfl | (rw [hR_]; done) | (rw [← hR_]; done) | (simp [errW_none, errW_some] <;> rfl) | (simp only [← hji6, ← hji9]; first | rfl | (simp [errW_none, errW_some] <;> rfl)) | (simp [*, errW_none, errW_some] <;> rfl), by repeat (first | (with_reducible first | exact HB.out | apply below_alloc | apply pw_below_drewN | apply below_drew1) | exact HB.out)⟩
                                                )
                                            · rw [if_neg c58] at H
                                              have c58b0 : (t108 == 1) = false := beq_eq_false_iff_ne.mpr c58
                                              have c58b1 : (t108 != 1) = true := bne_iff_ne.mpr c58
                                              first
                                              | (exact absurd (Option.some.inj H) (by decide))
                                              | (
                                                 have hR_ := Option.some.inj H
                                                 go_wp2
                                                 repeat (go_quiet (fail); try go_wp2)
                                                 go_ret
                                                 exact ⟨by first | rfl | (rw [hR_]; done) | (rw [← hR_]; done) | (simp [errW_none, errW_some] <;> rfl) | (simp only [← hji6, ← hji9]; first | rfl | (simp [errW_none, errW_some] <;> rfl)) | (simp [*, errW_none, errW_some] <;> rfl), by repeat (first | (with_reducible first | exact HB.out | apply below_alloc | apply pw_below_drewN | apply below_drew1) | exact HB.out)⟩
                                                )
                                      · rw [if_neg c51] at H
                                        have c51b0 : (a3 == 0) = false := beq_eq_false_iff_ne.mpr c51
                                        have c51b1 : (a3 != 0) = true := bne_iff_ne.mpr c51
                                        by_cases c59 : 3 = 0
                                        · exact absurd c59 (by decide)
                                        · rw [if_neg c59] at H
                                          have c59b0 : (3 == 0) = false := beq_eq_false_iff_ne.mpr c59
                                          have c59b1 : (3 != 0) = true := bne_iff_ne.mpr c59
                                          by_cases c61 : t108 = 1
                                          · rw [if_pos c61] at H
                                            have c61b0 : (t108 == 1) = true := beq_iff_eq.mpr c61
                                            have c61b1 : (t108 != 1) = false := bne_eq_false_iff_eq.mpr c61
                                            clear c61
                                            first
                                            | (exact absurd (Option.some.inj H) (by decide))
                                            | (
                                               have hR_ := Option.some.inj H
                                               go_wp2
                                               repeat (go_quiet (fail); try go_wp2)
                                               go_ret
                                               exact ⟨by first | rfl | (rw [hR_]; done) | (rw [← hR_]; done) | (simp [errW_none, errW_some] <;> rfl) | (simp only [← hji6, ← hji9]; first | rfl | (simp [errW_none, errW_some] <;> rfl)) | (simp [*, errW_none, errW_some] <;> rfl), by repeat (first | (with_reducible first | exact HB.out | apply below_alloc | apply pw_below_drewN | apply below_drew1) | exact HB.out)⟩
                                              )
                                          · rw [if_neg c61] at H
                                            have c61b0 : (t108 == 1) = false := beq_eq_false_iff_ne.mpr c61
                                            have c61b1 : (t108 != 1) = true := bne_iff_ne.mpr c61
                                            first
                                            | (exact absurd (Option.some.inj H) (by decide))
                                            | (
                                               have hR_ := Option.some.inj H
                                               go_wp2
                                               repeat (go_quiet (fail); try go_wp2)
                                               go_ret
                                               exact ⟨by first | rfl | (rw [hR_]; done) | (rw [← hR_]; done) | (simp [errW_none, errW_some] <;> rfl) | (simp only [← hji6, ← hji9]; first | rfl | (simp [errW_none, errW_some] <;> rfl)) | (simp [*, errW_none, errW_some] <;> rfl), by repeat (first | (with_reducible first | exact HB.out | apply below_alloc | apply pw_below_drewN | apply below_drew1) | exact HB.out)⟩
                                              )
                                    · replace c50 := Bool.eq_false_iff.mpr c50
                                      subst c50
                                      have H1 : (if 3 = 0 then (if t108 = 1 then (some (t107.toList == ([] : List UInt8))) else (some false)) else (if t108 = 1 then (some (t107.toList == ([] : List UInt8))) else (some false))) = some true := by rw [if_neg (show ¬ (false = true) by decide)] at H; exact H
                                      clear H
                                      have H := H1
                                      clear H1
                                      by_cases c62 : 3 = 0
                                      · exact absurd c62 (by decide)
                                      · rw [if_neg c62] at H
                                        have c62b0 : (3 == 0) = false := beq_eq_false_iff_ne.mpr c62
                                        have c62b1 : (3 != 0) = true := bne_iff_ne.mpr c62
                                        by_cases c64 : t108 = 1
                                        · rw [if_pos c64] at H
                                          have c64b0 : (t108 == 1) = true := beq_iff_eq.mpr c64
                                          have c64b1 : (t108 != 1) = false := bne_eq_false_iff_eq.mpr c64
                                          clear c64
                                          first
                                          | (exact absurd (Option.some.inj H) (by decide))
                                          | (
                                             have hR_ := Option.some.inj H
                                             go_wp2
                                             repeat (go_quiet (fail); try go_wp2)
                                             go_ret
                                             exact ⟨by first | rfl | (rw [hR_]; done) | (rw [← hR_]; done) | (simp [errW_none, errW_some] <;> rfl) | (simp only [← hji6, ← hji9]; first | rfl | (simp [errW_none, errW_some] <;> rfl)) | (simp [*, errW_none, errW_some] <;> rfl), by repeat (first | (with_reducible first | exact HB.out | apply below_alloc | apply pw_below_drewN | apply below_drew1) | exact HB.out)⟩
                                            )
                                        · rw [if_neg c64] at H
                                          have c64b0 : (t108 == 1) = false := beq_eq_false_iff_ne.mpr c64
                                          have c64b1 : (t108 != 1) = true := bne_iff_ne.mpr c64
                                          first
                                          | (exact absurd (Option.some.inj H) (by decide))
                                          | (
                                             have hR_ := Option.some.inj H
                                             go_wp2
                                             repeat (go_quiet (fail); try go_wp2)
                                             go_ret
                                             exact ⟨by first | rfl | (rw [hR_]; done) | (rw [← hR_]; done) | (simp [errW_none, errW_some] <;> rfl) | (simp only [← hji6, ← hji9]; first | rfl | (simp [errW_none, errW_some] <;> rfl)) | (simp [*, errW_none, errW_some] <;> rfl), by repeat (first | (with_reducible first | exact HB.out | apply below_alloc | apply pw_below_drewN | apply below_drew1) | exact HB.out)⟩
                                            )
                                  · rw [if_neg c49] at H
                                    have c49b0 : (a2.toList == ([104, 101, 97, 100] : List UInt8)) = false := beq_eq_false_iff_ne.mpr c49
                                    have c49b1 : (a2.toList != ([104, 101, 97, 100] : List UInt8)) = true := bne_iff_ne.mpr c49
                                    by_cases c65 : a2.toList = ([112, 97, 116, 104] : List UInt8)
                                    · rw [if_pos c65] at H
                                      have c65b0 : (a2.toList == ([112, 97, 116, 104] : List UInt8)) = true := beq_iff_eq.mpr c65
                                      have c65b1 : (a2.toList != ([112, 97, 116, 104] : List UInt8)) = false := bne_eq_false_iff_eq.mpr c65
                                      clear c65
                                      by_cases c66 : 4 = 0
                                      · exact absurd c66 (by decide)
                                      · rw [if_neg c66] at H
                                        have c66b0 : (4 == 0) = false := beq_eq_false_iff_ne.mpr c66
                                        have c66b1 : (4 != 0) = true := bne_iff_ne.mpr c66
                                        by_cases c68 : x17_45 = true
                                        · subst c68
                                          have H1 : (if t108 = 0 then ((imprimaturref20_Name.f 4 (⟨#[]⟩ : ByteArray) (⟨#[]⟩ : ByteArray) a3 a4).bind fun t115 => (some (t107.toList == t115.toList))) else (some false)) = some true := by rw [if_pos rfl] at H; exact H
                                          clear H
                                          have H := H1
                                          clear H1
                                          by_cases c69 : t108 = 0
                                          · rw [if_pos c69] at H
                                            have c69b0 : (t108 == 0) = true := beq_iff_eq.mpr c69
                                            have c69b1 : (t108 != 0) = false := bne_eq_false_iff_eq.mpr c69
                                            clear c69
                                            replace H := Option.bind_eq_some_iff.mp H
                                            obtain ⟨t115, A700, H⟩ := H
                                            replace H : (some (t107.toList == t115.toList)) = some true := H
                                            have A70 := Aside0.mk A700
                                            clear A700
                                            first
                                            | (exact absurd (Option.some.inj H) (by decide))
                                            | (
                                               have hR_ := Option.some.inj H
                                               go_wp2_with (first | (go_at_call 11; (with_reducible refine (imprimaturref20_Name.calls 4 (⟨#[]⟩ : ByteArray) (⟨#[]⟩ : ByteArray) a3 a4 t115 _ (HTAB.out.below (by repeat (first | (with_reducible first | exact HB.out | apply below_alloc | apply pw_below_drewN | apply below_drew1) | exact HB.out))) A70.out).mono ?_); rintro e w71 ⟨rfl, hb⟩; have n0_ := Aside0.mk (below_step (by repeat (first | (with_reducible first | exact HB.out | apply below_alloc | apply pw_below_drewN | apply below_drew1) | exact HB.out)) hb); clear HB; have HB := n0_; clear n0_; (try clear hb); (try clear hb2); (try clear hk); (try clear hi)))
                                               repeat (go_quiet (first | (go_at_call 11; (with_reducible refine (imprimaturref20_Name.calls 4 (⟨#[]⟩ : ByteArray) (⟨#[]⟩ : ByteArray) a3 a4 t115 _ (HTAB.out.below (by repeat (first | (with_reducible first | exact HB.out | apply below_alloc | apply pw_below_drewN | apply below_drew1) | exact HB.out))) A70.out).mono ?_); rintro e w71 ⟨rfl, hb⟩; have n0_ := Aside0.mk (below_step (by repeat (first | (with_reducible first | exact HB.out | apply below_alloc | apply pw_below_drewN | apply below_drew1) | exact HB.out)) hb); clear HB; have HB := n0_; clear n0_; (try clear hb); (try clear hb2); (try clear hk); (try clear hi))); try go_wp2_with (first | (go_at_call 11; (with_reducible refine (imprimaturref20_Name.calls 4 (⟨#[]⟩ : ByteArray) (⟨#[]⟩ : ByteArray) a3 a4 t115 _ (HTAB.out.below (by repeat (first | (with_reducible first | exact HB.out | apply below_alloc | apply pw_below_drewN | apply below_drew1) | exact HB.out))) A70.out).mono ?_); rintro e w71 ⟨rfl, hb⟩; have n0_ := Aside0.mk (below_step (by repeat (first | (with_reducible first | exact HB.out | apply below_alloc | apply pw_below_drewN | apply below_drew1) | exact HB.out)) hb); clear HB; have HB := n0_; clear n0_; (try clear hb); (try clear hb2); (try clear hk); (try clear hi))))
                                               go_ret
                                               exact ⟨by first | rfl | (rw [hR_]; done) | (rw [← hR_]; done) | (simp [errW_none, errW_some] <;> rfl) | (simp only [← hji6, ← hji9]; first | rfl | (simp [errW_none, errW_some] <;> rfl)) | (simp [*, errW_none, errW_some] <;> rfl), by repeat (first | (with_reducible first | exact HB.out | apply below_alloc | apply pw_below_drewN | apply below_drew1) | exact HB.out)⟩
                                              )
                                          · rw [if_neg c69] at H
                                            have c69b0 : (t108 == 0) = false := beq_eq_false_iff_ne.mpr c69
                                            have c69b1 : (t108 != 0) = true := bne_iff_ne.mpr c69
                                            first
                                            | (exact absurd (Option.some.inj H) (by decide))
                                            | (
                                               have hR_ := Option.some.inj H
                                               go_wp2
                                               repeat (go_quiet (fail); try go_wp2)
                                               go_ret
                                               exact ⟨by first | rfl | (rw [hR_]; done) | (rw [← hR_]; done) | (simp [errW_none, errW_some] <;> rfl) | (simp only [← hji6, ← hji9]; first | rfl | (simp [errW_none, errW_some] <;> rfl)) | (simp [*, errW_none, errW_some] <;> rfl), by repeat (first | (with_reducible first | exact HB.out | apply below_alloc | apply pw_below_drewN | apply below_drew1) | exact HB.out)⟩
                                              )
                                        · replace c68 := Bool.eq_false_iff.mpr c68
                                          subst c68
                                          have H1 : (if t108 = 1 then (some (t107.toList == ([] : List UInt8))) else (some false)) = some true := by rw [if_neg (show ¬ (false = true) by decide)] at H; exact H
                                          clear H
                                          have H := H1
                                          clear H1
                                          by_cases c72 : t108 = 1
                                          · rw [if_pos c72] at H
                                            have c72b0 : (t108 == 1) = true := beq_iff_eq.mpr c72
                                            have c72b1 : (t108 != 1) = false := bne_eq_false_iff_eq.mpr c72
                                            clear c72
                                            first
                                            | (exact absurd (Option.some.inj H) (by decide))
                                            | (
                                               have hR_ := Option.some.inj H
                                               go_wp2
                                               repeat (go_quiet (fail); try go_wp2)
                                               go_ret
                                               exact ⟨by first | rfl | (rw [hR_]; done) | (rw [← hR_]; done) | (simp [errW_none, errW_some] <;> rfl) | (simp only [← hji6, ← hji9]; first | rfl | (simp [errW_none, errW_some] <;> rfl)) | (simp [*, errW_none, errW_some] <;> rfl), by repeat (first | (with_reducible first | exact HB.out | apply below_alloc | apply pw_below_drewN | apply below_drew1) | exact HB.out)⟩
                                              )
                                          · rw [if_neg c72] at H
                                            have c72b0 : (t108 == 1) = false := beq_eq_false_iff_ne.mpr c72
                                            have c72b1 : (t108 != 1) = true := bne_iff_ne.mpr c72
                                            first
                                            | (exact absurd (Option.some.inj H) (by decide))
                                            | (
                                               have hR_ := Option.some.inj H
                                               go_wp2
                                               repeat (go_quiet (fail); try go_wp2)
                                               go_ret
                                               exact ⟨by first | rfl | (rw [hR_]; done) | (rw [← hR_]; done) | (simp [errW_none, errW_some] <;> rfl) | (simp only [← hji6, ← hji9]; first | rfl | (simp [errW_none, errW_some] <;> rfl)) | (simp [*, errW_none, errW_some] <;> rfl), by repeat (first | (with_reducible first | exact HB.out | apply below_alloc | apply pw_below_drewN | apply below_drew1) | exact HB.out)⟩
                                              )
                                    · rw [if_neg c65] at H
                                      have c65b0 : (a2.toList == ([112, 97, 116, 104] : List UInt8)) = false := beq_eq_false_iff_ne.mpr c65
                                      have c65b1 : (a2.toList != ([112, 97, 116, 104] : List UInt8)) = true := bne_iff_ne.mpr c65
                                      by_cases c73 : a2.toList = ([115, 116, 101, 112] : List UInt8)
                                      · rw [if_pos c73] at H
                                        have c73b0 : (a2.toList == ([115, 116, 101, 112] : List UInt8)) = true := beq_iff_eq.mpr c73
                                        have c73b1 : (a2.toList != ([115, 116, 101, 112] : List UInt8)) = false := bne_eq_false_iff_eq.mpr c73
                                        clear c73
                                        by_cases c74 : 5 = 0
                                        · exact absurd c74 (by decide)
                                        · rw [if_neg c74] at H
                                          have c74b0 : (5 == 0) = false := beq_eq_false_iff_ne.mpr c74
                                          have c74b1 : (5 != 0) = true := bne_iff_ne.mpr c74
                                          by_cases c76 : x17_45 = true
                                          · subst c76
                                            have H1 : (if t108 = 0 then ((imprimaturref20_Name.f 5 (⟨#[]⟩ : ByteArray) (⟨#[]⟩ : ByteArray) a3 a4).bind fun t116 => (some (t107.toList == t116.toList))) else (some false)) = some true := by rw [if_pos rfl] at H; exact H
                                            clear H
                                            have H := H1
                                            clear H1
                                            by_cases c77 : t108 = 0
                                            · rw [if_pos c77] at H
                                              have c77b0 : (t108 == 0) = true := beq_iff_eq.mpr c77
                                              have c77b1 : (t108 != 0) = false := bne_eq_false_iff_eq.mpr c77
                                              clear c77
                                              replace H := Option.bind_eq_some_iff.mp H
                                              obtain ⟨t116, A780, H⟩ := H
                                              replace H : (some (t107.toList == t116.toList)) = some true := H
                                              have A78 := Aside0.mk A780
                                              clear A780
                                              first
                                              | (exact absurd (Option.some.inj H) (by decide))
                                              | (
                                                 have hR_ := Option.some.inj H
                                                 go_wp2_with (first | (go_at_call 11; (with_reducible refine (imprimaturref20_Name.calls 5 (⟨#[]⟩ : ByteArray) (⟨#[]⟩ : ByteArray) a3 a4 t116 _ (HTAB.out.below (by repeat (first | (with_reducible first | exact HB.out | apply below_alloc | apply pw_below_drewN | apply below_drew1) | exact HB.out))) A78.out).mono ?_); rintro e w79 ⟨rfl, hb⟩; have n0_ := Aside0.mk (below_step (by repeat (first | (with_reducible first | exact HB.out | apply below_alloc | apply pw_below_drewN | apply below_drew1) | exact HB.out)) hb); clear HB; have HB := n0_; clear n0_; (try clear hb); (try clear hb2); (try clear hk); (try clear hi)))
                                                 repeat (go_quiet (first | (go_at_call 11; (with_reducible refine (imprimaturref20_Name.calls 5 (⟨#[]⟩ : ByteArray) (⟨#[]⟩ : ByteArray) a3 a4 t116 _ (HTAB.out.below (by repeat (first | (with_reducible first | exact HB.out | apply below_alloc | apply pw_below_drewN | apply below_drew1) | exact HB.out))) A78.out).mono ?_); rintro e w79 ⟨rfl, hb⟩; have n0_ := Aside0.mk (below_step (by repeat (first | (with_reducible first | exact HB.out | apply below_alloc | apply pw_below_drewN | apply below_drew1) | exact HB.out)) hb); clear HB; have HB := n0_; clear n0_; (try clear hb); (try clear hb2); (try clear hk); (try clear hi))); try go_wp2_with (first | (go_at_call 11; (with_reducible refine (imprimaturref20_Name.calls 5 (⟨#[]⟩ : ByteArray) (⟨#[]⟩ : ByteArray) a3 a4 t116 _ (HTAB.out.below (by repeat (first | (with_reducible first | exact HB.out | apply below_alloc | apply pw_below_drewN | apply below_drew1) | exact HB.out))) A78.out).mono ?_); rintro e w79 ⟨rfl, hb⟩; have n0_ := Aside0.mk (below_step (by repeat (first | (with_reducible first | exact HB.out | apply below_alloc | apply pw_below_drewN | apply below_drew1) | exact HB.out)) hb); clear HB; have HB := n0_; clear n0_; (try clear hb); (try clear hb2); (try clear hk); (try clear hi))))
                                                 go_ret
                                                 exact ⟨by first | rfl | (rw [hR_]; done) | (rw [← hR_]; done) | (simp [errW_none, errW_some] <;> rfl) | (simp only [← hji6, ← hji9]; first | rfl | (simp [errW_none, errW_some] <;> rfl)) | (simp [*, errW_none, errW_some] <;> rfl), by repeat (first | (with_reducible first | exact HB.out | apply below_alloc | apply pw_below_drewN | apply below_drew1) | exact HB.out)⟩
                                                )
                                            · rw [if_neg c77] at H
                                              have c77b0 : (t108 == 0) = false := beq_eq_false_iff_ne.mpr c77
                                              have c77b1 : (t108 != 0) = true := bne_iff_ne.mpr c77
                                              first
                                              | (exact absurd (Option.some.inj H) (by decide))
                                              | (
                                                 have hR_ := Option.some.inj H
                                                 go_wp2
                                                 repeat (go_quiet (fail); try go_wp2)
                                                 go_ret
                                                 exact ⟨by first | rfl | (rw [hR_]; done) | (rw [← hR_]; done) | (simp [errW_none, errW_some] <;> rfl) | (simp only [← hji6, ← hji9]; first | rfl | (simp [errW_none, errW_some] <;> rfl)) | (simp [*, errW_none, errW_some] <;> rfl), by repeat (first | (with_reducible first | exact HB.out | apply below_alloc | apply pw_below_drewN | apply below_drew1) | exact HB.out)⟩
                                                )
                                          · replace c76 := Bool.eq_false_iff.mpr c76
                                            subst c76
                                            have H1 : (if t108 = 1 then (some (t107.toList == ([] : List UInt8))) else (some false)) = some true := by rw [if_neg (show ¬ (false = true) by decide)] at H; exact H
                                            clear H
                                            have H := H1
                                            clear H1
                                            by_cases c80 : t108 = 1
                                            · rw [if_pos c80] at H
                                              have c80b0 : (t108 == 1) = true := beq_iff_eq.mpr c80
                                              have c80b1 : (t108 != 1) = false := bne_eq_false_iff_eq.mpr c80
                                              clear c80
                                              first
                                              | (exact absurd (Option.some.inj H) (by decide))
                                              | (
                                                 have hR_ := Option.some.inj H
                                                 go_wp2
                                                 repeat (go_quiet (fail); try go_wp2)
                                                 go_ret
                                                 exact ⟨by first | rfl | (rw [hR_]; done) | (rw [← hR_]; done) | (simp [errW_none, errW_some] <;> rfl) | (simp only [← hji6, ← hji9]; first | rfl | (simp [errW_none, errW_some] <;> rfl)) | (simp [*, errW_none, errW_some] <;> rfl), by repeat (first | (with_reducible first | exact HB.out | apply below_alloc | apply pw_below_drewN | apply below_drew1) | exact HB.out)⟩
                                                )
                                            · rw [if_neg c80] at H
                                              have c80b0 : (t108 == 1) = false := beq_eq_false_iff_ne.mpr c80
                                              have c80b1 : (t108 != 1) = true := bne_iff_ne.mpr c80
                                              first
                                              | (exact absurd (Option.some.inj H) (by decide))
                                              | (
                                                 have hR_ := Option.some.inj H
                                                 go_wp2
                                                 repeat (go_quiet (fail); try go_wp2)
                                                 go_ret
                                                 exact ⟨by first | rfl | (rw [hR_]; done) | (rw [← hR_]; done) | (simp [errW_none, errW_some] <;> rfl) | (simp only [← hji6, ← hji9]; first | rfl | (simp [errW_none, errW_some] <;> rfl)) | (simp [*, errW_none, errW_some] <;> rfl), by repeat (first | (with_reducible first | exact HB.out | apply below_alloc | apply pw_below_drewN | apply below_drew1) | exact HB.out)⟩
                                                )
                                      · rw [if_neg c73] at H
                                        have c73b0 : (a2.toList == ([115, 116, 101, 112] : List UInt8)) = false := beq_eq_false_iff_ne.mpr c73
                                        have c73b1 : (a2.toList != ([115, 116, 101, 112] : List UInt8)) = true := bne_iff_ne.mpr c73
                                        by_cases c81 : a2.toList = ([108, 101, 97, 102] : List UInt8)
                                        · rw [if_pos c81] at H
                                          have c81b0 : (a2.toList == ([108, 101, 97, 102] : List UInt8)) = true := beq_iff_eq.mpr c81
                                          have c81b1 : (a2.toList != ([108, 101, 97, 102] : List UInt8)) = false := bne_eq_false_iff_eq.mpr c81
                                          clear c81
                                          by_cases c82 : x17_45 = true
                                          · subst c82
                                            have H1 : (if 6 = 0 then (if t108 = 1 then (some (t107.toList == ([] : List UInt8))) else (some false)) else (if a4 = 0 then (if t108 = 0 then ((imprimaturref20_Name.f 6 (⟨#[]⟩ : ByteArray) (⟨#[]⟩ : ByteArray) a3 a4).bind fun t117 => (some (t107.toList == t117.toList))) else (some false)) else (if t108 = 1 then (some (t107.toList == ([] : List UInt8))) else (some false)))) = some true := by rw [if_pos rfl] at H; exact H
                                            clear H
                                            have H := H1
                                            clear H1
                                            by_cases c83 : 6 = 0
                                            · exact absurd c83 (by decide)
                                            · rw [if_neg c83] at H
                                              have c83b0 : (6 == 0) = false := beq_eq_false_iff_ne.mpr c83
                                              have c83b1 : (6 != 0) = true := bne_iff_ne.mpr c83
                                              by_cases c85 : a4 = 0
                                              · rw [if_pos c85] at H
                                                have c85b0 : (a4 == 0) = true := beq_iff_eq.mpr c85
                                                have c85b1 : (a4 != 0) = false := bne_eq_false_iff_eq.mpr c85
                                                clear c85
                                                by_cases c86 : t108 = 0
                                                · rw [if_pos c86] at H
                                                  have c86b0 : (t108 == 0) = true := beq_iff_eq.mpr c86
                                                  have c86b1 : (t108 != 0) = false := bne_eq_false_iff_eq.mpr c86
                                                  clear c86
                                                  replace H := Option.bind_eq_some_iff.mp H
                                                  obtain ⟨t117, A870, H⟩ := H
                                                  replace H : (some (t107.toList == t117.toList)) = some true := H
                                                  have A87 := Aside0.mk A870
                                                  clear A870
                                                  first
                                                  | (exact absurd (Option.some.inj H) (by decide))
                                                  | (
                                                     have hR_ := Option.some.inj H
                                                     go_wp2_with (first | (go_at_call 11; (with_reducible refine (imprimaturref20_Name.calls 6 (⟨#[]⟩ : ByteArray) (⟨#[]⟩ : ByteArray) a3 a4 t117 _ (HTAB.out.below (by repeat (first | (with_reducible first | exact HB.out | apply below_alloc | apply pw_below_drewN | apply below_drew1) | exact HB.out))) A87.out).mono ?_); rintro e w88 ⟨rfl, hb⟩; have n0_ := Aside0.mk (below_step (by repeat (first | (with_reducible first | exact HB.out | apply below_alloc | apply pw_below_drewN | apply below_drew1) | exact HB.out)) hb); clear HB; have HB := n0_; clear n0_; (try clear hb); (try clear hb2); (try clear hk); (try clear hi)))
                                                     repeat (go_quiet (first | (go_at_call 11; (with_reducible refine (imprimaturref20_Name.calls 6 (⟨#[]⟩ : ByteArray) (⟨#[]⟩ : ByteArray) a3 a4 t117 _ (HTAB.out.below (by repeat (first | (with_reducible first | exact HB.out | apply below_alloc | apply pw_below_drewN | apply below_drew1) | exact HB.out))) A87.out).mono ?_); rintro e w88 ⟨rfl, hb⟩; have n0_ := Aside0.mk (below_step (by repeat (first | (with_reducible first | exact HB.out | apply below_alloc | apply pw_below_drewN | apply below_drew1) | exact HB.out)) hb); clear HB; have HB := n0_; clear n0_; (try clear hb); (try clear hb2); (try clear hk); (try clear hi))); try go_wp2_with (first | (go_at_call 11; (with_reducible refine (imprimaturref20_Name.calls 6 (⟨#[]⟩ : ByteArray) (⟨#[]⟩ : ByteArray) a3 a4 t117 _ (HTAB.out.below (by repeat (first | (with_reducible first | exact HB.out | apply below_alloc | apply pw_below_drewN | apply below_drew1) | exact HB.out))) A87.out).mono ?_); rintro e w88 ⟨rfl, hb⟩; have n0_ := Aside0.mk (below_step (by repeat (first | (with_reducible first | exact HB.out | apply below_alloc | apply pw_below_drewN | apply below_drew1) | exact HB.out)) hb); clear HB; have HB := n0_; clear n0_; (try clear hb); (try clear hb2); (try clear hk); (try clear hi))))
                                                     go_ret
                                                     exact ⟨by first | rfl | (rw [hR_]; done) | (rw [← hR_]; done) | (simp [errW_none, errW_some] <;> rfl) | (simp only [← hji6, ← hji9]; first | rfl | (simp [errW_none, errW_some] <;> rfl)) | (simp [*, errW_none, errW_some] <;> rfl), by repeat (first | (with_reducible first | exact HB.out | apply below_alloc | apply pw_below_drewN | apply below_drew1) | exact HB.out)⟩
                                                    )
                                                · rw [if_neg c86] at H
                                                  have c86b0 : (t108 == 0) = false := beq_eq_false_iff_ne.mpr c86
                                                  have c86b1 : (t108 != 0) = true := bne_iff_ne.mpr c86
                                                  first
                                                  | (exact absurd (Option.some.inj H) (by decide))
                                                  | (
                                                     have hR_ := Option.some.inj H
                                                     go_wp2
                                                     repeat (go_quiet (fail); try go_wp2)
                                                     go_ret
                                                     exact ⟨by first | rfl | (rw [hR_]; done) | (rw [← hR_]; done) | (simp [errW_none, errW_some] <;> rfl) | (simp only [← hji6, ← hji9]; first | rfl | (simp [errW_none, errW_some] <;> rfl)) | (simp [*, errW_none, errW_some] <;> rfl), by repeat (first | (with_reducible first | exact HB.out | apply below_alloc | apply pw_below_drewN | apply below_drew1) | exact HB.out)⟩
                                                    )
                                              · rw [if_neg c85] at H
                                                have c85b0 : (a4 == 0) = false := beq_eq_false_iff_ne.mpr c85
                                                have c85b1 : (a4 != 0) = true := bne_iff_ne.mpr c85
                                                by_cases c89 : t108 = 1
                                                · rw [if_pos c89] at H
                                                  have c89b0 : (t108 == 1) = true := beq_iff_eq.mpr c89
                                                  have c89b1 : (t108 != 1) = false := bne_eq_false_iff_eq.mpr c89
                                                  clear c89
                                                  first
                                                  | (exact absurd (Option.some.inj H) (by decide))
                                                  | (
                                                     have hR_ := Option.some.inj H
                                                     go_wp2
                                                     repeat (go_quiet (fail); try go_wp2)
                                                     go_ret
                                                     exact ⟨by first | rfl | (rw [hR_]; done) | (rw [← hR_]; done) | (simp [errW_none, errW_some] <;> rfl) | (simp only [← hji6, ← hji9]; first | rfl | (simp [errW_none, errW_some] <;> rfl)) | (simp [*, errW_none, errW_some] <;> rfl), by repeat (first | (with_reducible first | exact HB.out | apply below_alloc | apply pw_below_drewN | apply below_drew1) | exact HB.out)⟩
                                                    )
                                                · rw [if_neg c89] at H
                                                  have c89b0 : (t108 == 1) = false := beq_eq_false_iff_ne.mpr c89
                                                  have c89b1 : (t108 != 1) = true := bne_iff_ne.mpr c89
                                                  first
                                                  | (exact absurd (Option.some.inj H) (by decide))
                                                  | (
                                                     have hR_ := Option.some.inj H
                                                     go_wp2
                                                     repeat (go_quiet (fail); try go_wp2)
                                                     go_ret
                                                     exact ⟨by first | rfl | (rw [hR_]; done) | (rw [← hR_]; done) | (simp [errW_none, errW_some] <;> rfl) | (simp only [← hji6, ← hji9]; first | rfl | (simp [errW_none, errW_some] <;> rfl)) | (simp [*, errW_none, errW_some] <;> rfl), by repeat (first | (with_reducible first | exact HB.out | apply below_alloc | apply pw_below_drewN | apply below_drew1) | exact HB.out)⟩
                                                    )
                                          · replace c82 := Bool.eq_false_iff.mpr c82
                                            subst c82
                                            have H1 : (if 6 = 0 then (if t108 = 1 then (some (t107.toList == ([] : List UInt8))) else (some false)) else (if t108 = 1 then (some (t107.toList == ([] : List UInt8))) else (some false))) = some true := by rw [if_neg (show ¬ (false = true) by decide)] at H; exact H
                                            clear H
                                            have H := H1
                                            clear H1
                                            by_cases c90 : 6 = 0
                                            · exact absurd c90 (by decide)
                                            · rw [if_neg c90] at H
                                              have c90b0 : (6 == 0) = false := beq_eq_false_iff_ne.mpr c90
                                              have c90b1 : (6 != 0) = true := bne_iff_ne.mpr c90
                                              by_cases c92 : t108 = 1
                                              · rw [if_pos c92] at H
                                                have c92b0 : (t108 == 1) = true := beq_iff_eq.mpr c92
                                                have c92b1 : (t108 != 1) = false := bne_eq_false_iff_eq.mpr c92
                                                clear c92
                                                first
                                                | (exact absurd (Option.some.inj H) (by decide))
                                                | (
                                                   have hR_ := Option.some.inj H
                                                   go_wp2
                                                   repeat (go_quiet (fail); try go_wp2)
                                                   go_ret
                                                   exact ⟨by first | rfl | (rw [hR_]; done) | (rw [← hR_]; done) | (simp [errW_none, errW_some] <;> rfl) | (simp only [← hji6, ← hji9]; first | rfl | (simp [errW_none, errW_some] <;> rfl)) | (simp [*, errW_none, errW_some] <;> rfl), by repeat (first | (with_reducible first | exact HB.out | apply below_alloc | apply pw_below_drewN | apply below_drew1) | exact HB.out)⟩
                                                  )
                                              · rw [if_neg c92] at H
                                                have c92b0 : (t108 == 1) = false := beq_eq_false_iff_ne.mpr c92
                                                have c92b1 : (t108 != 1) = true := bne_iff_ne.mpr c92
                                                first
                                                | (exact absurd (Option.some.inj H) (by decide))
                                                | (
                                                   have hR_ := Option.some.inj H
                                                   go_wp2
                                                   repeat (go_quiet (fail); try go_wp2)
                                                   go_ret
                                                   exact ⟨by first | rfl | (rw [hR_]; done) | (rw [← hR_]; done) | (simp [errW_none, errW_some] <;> rfl) | (simp only [← hji6, ← hji9]; first | rfl | (simp [errW_none, errW_some] <;> rfl)) | (simp [*, errW_none, errW_some] <;> rfl), by repeat (first | (with_reducible first | exact HB.out | apply below_alloc | apply pw_below_drewN | apply below_drew1) | exact HB.out)⟩
                                                  )
                                        · rw [if_neg c81] at H
                                          have c81b0 : (a2.toList == ([108, 101, 97, 102] : List UInt8)) = false := beq_eq_false_iff_ne.mpr c81
                                          have c81b1 : (a2.toList != ([108, 101, 97, 102] : List UInt8)) = true := bne_iff_ne.mpr c81
                                          by_cases c93 : 0 = 0
                                          · first | rw [if_pos c93] at H | rw [if_pos True.intro] at H
                                            have c93b0 : (0 == 0) = true := beq_iff_eq.mpr c93
                                            have c93b1 : (0 != 0) = false := bne_eq_false_iff_eq.mpr c93
                                            clear c93
                                            by_cases c94 : t108 = 1
                                            · rw [if_pos c94] at H
                                              have c94b0 : (t108 == 1) = true := beq_iff_eq.mpr c94
                                              have c94b1 : (t108 != 1) = false := bne_eq_false_iff_eq.mpr c94
                                              clear c94
                                              first
                                              | (exact absurd (Option.some.inj H) (by decide))
                                              | (
                                                 have hR_ := Option.some.inj H
                                                 go_wp2
                                                 repeat (go_quiet (fail); try go_wp2)
                                                 go_ret
                                                 exact ⟨by first | rfl | (rw [hR_]; done) | (rw [← hR_]; done) | (simp [errW_none, errW_some] <;> rfl) | (simp only [← hji6, ← hji9]; first | rfl | (simp [errW_none, errW_some] <;> rfl)) | (simp [*, errW_none, errW_some] <;> rfl), by repeat (first | (with_reducible first | exact HB.out | apply below_alloc | apply pw_below_drewN | apply below_drew1) | exact HB.out)⟩
                                                )
                                            · rw [if_neg c94] at H
                                              have c94b0 : (t108 == 1) = false := beq_eq_false_iff_ne.mpr c94
                                              have c94b1 : (t108 != 1) = true := bne_iff_ne.mpr c94
                                              first
                                              | (exact absurd (Option.some.inj H) (by decide))
                                              | (
                                                 have hR_ := Option.some.inj H
                                                 go_wp2
                                                 repeat (go_quiet (fail); try go_wp2)
                                                 go_ret
                                                 exact ⟨by first | rfl | (rw [hR_]; done) | (rw [← hR_]; done) | (simp [errW_none, errW_some] <;> rfl) | (simp only [← hji6, ← hji9]; first | rfl | (simp [errW_none, errW_some] <;> rfl)) | (simp [*, errW_none, errW_some] <;> rfl), by repeat (first | (with_reducible first | exact HB.out | apply below_alloc | apply pw_below_drewN | apply below_drew1) | exact HB.out)⟩
                                                )
                                          · exact absurd rfl c93
        · rw [if_neg c11] at H
          exact absurd H (by simp)
      · rw [if_neg c10] at H
        exact absurd H (by simp)
    · rw [if_neg c8] at H
      exact absurd H (by simp)
  · rw [if_neg c7] at H
    exact absurd H (by simp)

/-- THE ONE PURE STATEMENT of imprimaturlaw20_NameMakes: yours. -/
def imprimaturlaw20_NameMakes.Pure : Prop := ∀ (a0 : ByteArray) (a1 : ByteArray) (a2 : ByteArray) (a3 : Int) (a4 : Int), a0.size ≤ 140737488351232 → a1.size ≤ 140737488351232 → a2.size ≤ 140737488351232 → (Lit.int .i64 a3).wf = true → (Lit.int .i64 a4).wf = true → ∃ k, imprimaturlaw20_NameMakes.f k a0 a1 a2 a3 a4 = some true
theorem imprimaturlaw20_NameMakes.walk (P : imprimaturlaw20_NameMakes.Pure) (a0 : ByteArray) (a1 : ByteArray) (a2 : ByteArray) (a3 : Int) (a4 : Int) (w : World) (ht : Tabs w) (w0 : a0.size ≤ 140737488351232) (w1 : a1.size ≤ 140737488351232) (w2 : a2.size ≤ 140737488351232) (w3 : (Lit.int .i64 a3).wf = true) (w4 : (Lit.int .i64 a4).wf = true) :
    Calls Tryd.prog 3 #[.string a0, .string a1, .string a2, .int .i64 a3, .int .i64 a4] w fun e w' => e = .returned (.bool true) ∧ Below w.heap.size w w' := by
  obtain ⟨k, h⟩ := P a0 a1 a2 a3 a4 w0 w1 w2 w3 w4
  refine (imprimaturlaw20_NameMakes.calls k a0 a1 a2 a3 a4 w ht h).mono ?_
  rintro e w' ⟨rfl, hd⟩
  exact ⟨rfl, hd⟩

end Go.Proofs.YtmgkgjacnbeboaaDoor.M
