/- The names' contracts as the printed texts spell them: the program's Meta, Data, Log, the reference's Name of a role, its Name. -/
import Derived.Test.YtmgkgjacnbeboaaDoorD1
import Derived.Test.YtmgkgjacnbeboaaDoorH4
set_option linter.unusedVariables false
set_option linter.unusedSimpArgs false
namespace Go.Proofs.YtmgkgjacnbeboaaDoor.D
open Go.RowKit S E Y
theorem itoa_short (n : Int) (h : Nm.within n = true) : (mkB (Lib.itoa n)).size ≤ 7 := by rw [mkB_size]; exact itoa_len n h
theorem l4 : (⟨#[109, 101, 116, 97, 47]⟩ : ByteArray).size = 5 := rfl
theorem l1 : (⟨#[47]⟩ : ByteArray).size = 1 := rfl
theorem l9 : (⟨#[108, 111, 103, 47, 112, 97, 116, 104, 47]⟩ : ByteArray).size = 9 := rfl
theorem l9' : (⟨#[108, 111, 103, 47, 115, 116, 101, 112, 47]⟩ : ByteArray).size = 9 := rfl
theorem two_ (x y : List UInt8) : Lib.join [x, y] [47] = x ++ 47 :: y := by rw [Nm.join_cc, Lib.join_one]
theorem three_ (x y z : List UInt8) : Lib.join [x, y, z] [47] = x ++ 47 :: (y ++ 47 :: z) := by rw [Nm.join_cc, two_]
theorem four_ (x y z u : List UInt8) : Lib.join [x, y, z, u] [47] = x ++ 47 :: (y ++ 47 :: (z ++ 47 :: u)) := by rw [Nm.join_cc, three_]
/-- The reference's Name is the name of what is asked for. -/
theorem rname_f (k0 : Int) (r s : ByteArray) (a b : Int) (k : Nat) (hr : r.size ≤ 1000) (hs : s.size ≤ 1000) (ha : Nm.within a = true) (hb : Nm.within b = true) (hk : s.size < k) :
    imprimaturref20_Name.f k k0 r s a b = some (mkB (Nm.nmS (k0, r.data.toList, s.data.toList, a, b))) := by
  have ra := within_range ha
  have rb := within_range hb
  have la := itoa_short a ha
  have lb := itoa_short b hb
  have ia : strconv_Itoa.f a = some (mkB (Lib.itoa a)) := by unfold strconv_Itoa.f; exact if_pos ⟨by omega, by omega⟩
  have ib : strconv_Itoa.f b = some (mkB (Lib.itoa b)) := by unfold strconv_Itoa.f; exact if_pos ⟨by omega, by omega⟩
  have hl : (Nm.parts (k0, r.data.toList, s.data.toList, a, b)) = if k0 = 1 then [Nm.META, r.data.toList, Lib.itoa a] else if k0 = 2 then [Nm.DATA, S.hexs s.data.toList] else if k0 = 3 then [Nm.LOG, Nm.HEAD] else if k0 = 4 then [Nm.LOG, Nm.PATH, Lib.itoa a, Lib.itoa b] else if k0 = 5 then [Nm.LOG, Nm.STEP, Lib.itoa a, Lib.itoa b] else [Nm.LOG, Nm.LEAF, Lib.itoa a] := rfl
  have hx : (mkB (hexs s.data.toList)).size ≤ 2000 := by rw [mkB_size, hexs_length, size_list]; omega
  unfold imprimaturref20_Name.f Nm.nmS
  rw [ia, ib, Option.bind_some, Option.bind_some, hl]
  clear ia ib hl
  generalize Lib.itoa a = A at *
  generalize Lib.itoa b = B at *
  by_cases h1 : k0 = 1
  · rw [if_pos h1, if_pos h1, if_pos (by omega), if_pos (by rw [ByteArray.size_append, l4]; omega), if_pos (by rw [ByteArray.size_append, ByteArray.size_append, l4, l1]; omega), three_]
    refine congrArg some ?_
    apply ByteArray.ext; simp [mkB, ByteArray.data_append, Nm.META]
  · rw [if_neg h1, if_neg h1]
    by_cases h2 : k0 = 2
    · rw [if_pos h2, if_pos h2, rhex_f s (by omega) k hk, Option.bind_some, if_pos (by omega), two_]
      refine congrArg some ?_
      apply ByteArray.ext; simp [mkB, ByteArray.data_append, Nm.DATA]
    · rw [if_neg h2, if_neg h2]
      by_cases h3 : k0 = 3
      · rw [if_pos h3, if_pos h3]; rfl
      · rw [if_neg h3, if_neg h3]
        by_cases h4 : k0 = 4
        · rw [if_pos h4, if_pos h4, if_pos (by omega), if_pos (by rw [ByteArray.size_append, l9]; omega), if_pos (by rw [ByteArray.size_append, ByteArray.size_append, l9, l1]; omega), four_]
          refine congrArg some ?_
          apply ByteArray.ext; simp [mkB, ByteArray.data_append, Nm.LOG, Nm.PATH]
        · rw [if_neg h4, if_neg h4]
          by_cases h5 : k0 = 5
          · rw [if_pos h5, if_pos h5, if_pos (by omega), if_pos (by rw [ByteArray.size_append, l9']; omega), if_pos (by rw [ByteArray.size_append, ByteArray.size_append, l9', l1]; omega), four_]
            refine congrArg some ?_
            apply ByteArray.ext; simp [mkB, ByteArray.data_append, Nm.LOG, Nm.STEP]
          · rw [if_neg h5, if_neg h5, if_pos (by omega), three_]
            refine congrArg some ?_
            apply ByteArray.ext; simp [mkB, ByteArray.data_append, Nm.LOG, Nm.LEAF]
end Go.Proofs.YtmgkgjacnbeboaaDoor.D
namespace Go.Proofs.YtmgkgjacnbeboaaDoor.E
open Go.RowKit Go.Lib Go.Shelf Go.Proofs.YtmgkgjacnbeboaaDoorW.PrintWords Go.Proofs.YtmgkgjacnbeboaaDoorW.PrintLast Go.Proofs.YtmgkgjacnbeboaaDoorW.PrintMore
open S (mkB)
attribute [local irreducible] Nm.nameOk Nm.within Lib.itoa Lib.mapD Lib.join S.hexs Nm.kd KD Nm.metaN Nm.dataN Nm.logN Nm.nmS
def imprimaturref20_Name.f (a0_0 : Int) (a0_1 : ByteArray) (a0_2 : ByteArray) (a0_3 : Int) (a0_4 : Int) : Option ByteArray :=
  if a0_1.size ≤ 1000 ∧ a0_2.size ≤ 1000 ∧ Nm.within a0_3 = true ∧ Nm.within a0_4 = true then some (mkB (Nm.nmS (a0_0, a0_1.data.toList, a0_2.data.toList, a0_3, a0_4))) else none
theorem imprimaturref20_Name.calls (a0_0 : Int) (a0_1 : ByteArray) (a0_2 : ByteArray) (a0_3 : Int) (a0_4 : Int) (r : ByteArray) (w : World) (ht : Tabs w) (h : imprimaturref20_Name.f a0_0 a0_1 a0_2 a0_3 a0_4 = some r) :
    Calls Tryd.prog 11 #[.agg #[.int .i64 a0_0, .string a0_1, .string a0_2, .int .i64 a0_3, .int .i64 a0_4]] w fun e w' => e = .returned (.string r) ∧ Below w.heap.size w w' := by
  unfold imprimaturref20_Name.f at h
  split at h
  · rename_i c
    exact Y.imprimaturref20_Name.calls (a0_2.size + 1) a0_0 a0_1 a0_2 a0_3 a0_4 r w ht ((D.rname_f a0_0 a0_1 a0_2 a0_3 a0_4 _ c.1 c.2.1 c.2.2.1 c.2.2.2 (by omega)).trans h)
  · cases h
def imprimaturref15_Name.f (a0 : ByteArray) : Option Bool := if a0.size ≤ 1000 then some (Nm.nameOk a0.data.toList) else none
theorem imprimaturref15_Name.calls (a0 : ByteArray) (r : Bool) (w : World) (h : imprimaturref15_Name.f a0 = some r) :
    Calls Tryd.prog 10 #[.string a0] w fun e w' => e = .returned (.bool r) ∧ Drawn0 w w' := by
  unfold imprimaturref15_Name.f at h
  split at h
  · rename_i c
    exact Y.imprimaturref15_Name.calls (a0.size + 1) a0 r w ((D.name_f a0 c _ (by omega)).trans h)
  · cases h
def name_Meta.f (a0 : ByteArray) (a1 : Int) : Option (ByteArray × Int) := if a0.size < 35184372088832 then some (mkB (Nm.metaN a0.data.toList a1).1, (Nm.metaN a0.data.toList a1).2) else none
theorem name_Meta.calls (a0 : ByteArray) (a1 : Int) (r1 : ByteArray) (r2 : Int) (w : World) (ht : Tabs w) (h : name_Meta.f a0 a1 = some (r1, r2)) :
    Calls Tryd.prog 7 #[.string a0, .int .i64 a1] w fun e w' => e = .returned (.tuple #[.string r1, .int .i64 r2]) ∧ Below w.heap.size w w' := by
  unfold name_Meta.f at h
  split at h
  · rename_i c
    have h1 := congrArg Prod.fst (Option.some.inj h)
    have h2 := congrArg Prod.snd (Option.some.inj h)
    simp only at h1 h2
    rw [← h1, ← h2]
    exact Meta_any a0 a1 w c ht
  · cases h
def name_Data.f (a0 : ByteArray) : Option (ByteArray × Int) := if a0.size < 35184372088832 then some (mkB (Nm.dataN a0.data.toList).1, (Nm.dataN a0.data.toList).2) else none
theorem name_Data.calls (a0 : ByteArray) (r1 : ByteArray) (r2 : Int) (w : World) (h : name_Data.f a0 = some (r1, r2)) :
    Calls Tryd.prog 8 #[.string a0] w fun e w' => e = .returned (.tuple #[.string r1, .int .i64 r2]) ∧ Below w.heap.size w w' := by
  unfold name_Data.f at h
  split at h
  · rename_i c
    have h1 := congrArg Prod.fst (Option.some.inj h)
    have h2 := congrArg Prod.snd (Option.some.inj h)
    simp only at h1 h2
    rw [← h1, ← h2]
    exact Data_any a0 w c
  · cases h
theorem kd_long (l : List UInt8) (h : 4 < l.length) : Nm.kd l = none := by
  unfold Nm.kd
  rw [if_neg (fun e => by rw [e] at h; simp [Nm.HEAD] at h), if_neg (fun e => by rw [e] at h; simp [Nm.PATH] at h), if_neg (fun e => by rw [e] at h; simp [Nm.STEP] at h), if_neg (fun e => by rw [e] at h; simp [Nm.LEAF] at h)]
def name_Log.f (a0 : ByteArray) (a1 a2 : Int) : Option (ByteArray × Int) := if a0.size ≤ 9223372036854775807 then some (mkB (Nm.logN a0.data.toList a1 a2).1, (Nm.logN a0.data.toList a1 a2).2) else none
theorem name_Log.calls (a0 : ByteArray) (a1 a2 : Int) (r1 : ByteArray) (r2 : Int) (w : World) (ht : Tabs w) (h : name_Log.f a0 a1 a2 = some (r1, r2)) :
    Calls Tryd.prog 9 #[.string a0, .int .i64 a1, .int .i64 a2] w fun e w' => e = .returned (.tuple #[.string r1, .int .i64 r2]) ∧ Below w.heap.size w w' := by
  unfold name_Log.f at h
  split at h
  · rename_i c
    have h1 := congrArg Prod.fst (Option.some.inj h)
    have h2 := congrArg Prod.snd (Option.some.inj h)
    simp only at h1 h2
    rw [← h1, ← h2]
    by_cases hl : a0.size ≤ 1000
    · exact Log_any a0 a1 a2 w hl ht
    · have hn : Nm.kd a0.data.toList = none := kd_long _ (by rw [S.size_list]; omega)
      have e : Nm.logN a0.data.toList a1 a2 = ([], 1) := by unfold Nm.logN; rw [hn]
      rw [e]; exact Log_none a0 a1 a2 w c hn
  · cases h
end Go.Proofs.YtmgkgjacnbeboaaDoor.E
