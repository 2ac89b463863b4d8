/- The contracts of the functions that were walked by hand (glob's Right, Path, Match, the law's alive) and of the library's, as the printed texts spell them. -/
import Derived.Test.YteignlfpjmfleaaDoorGa
import Derived.Test.YteignlfpjmfleaaDoorX0
set_option linter.unusedVariables false
set_option linter.unusedSimpArgs false
namespace Go.Proofs.YteignlfpjmfleaaDoor.E
open Go.RowKit Go.Lib Go.Shelf Go.Proofs.YteignlfpjmfleaaDoorW.PrintWords Go.Proofs.YteignlfpjmfleaaDoorW.PrintLast Go.Proofs.YteignlfpjmfleaaDoorW.PrintMore
theorem reads_len {α : Type} {R : α → List Value → Prop} {z : Nat} {w : World} {A : Option Addr} {n m : Nat} {ps : List α} (e : n = m) (h : ReadsRow R z w A n ps) : ReadsRow R z w A m ps := e ▸ h
def glob_Right.f (a0 : ByteArray) : Option Bool := if a0.size < 4294967281 then some (G.right true a0.data.toList) else none
theorem glob_Right.calls (a0 : ByteArray) (r : Bool) (w : World) (h : glob_Right.f a0 = some r) :
    Calls Tryd.prog 11 #[.string a0] w fun e w' => e = .returned (.bool r) ∧ Below w.heap.size w w' := by
  unfold glob_Right.f at h
  split at h
  · obtain rfl := Option.some.inj h
    exact Right_any a0 w (by assumption)
  · cases h
def glob_Path.f (a0 : ByteArray) : Option Bool := if a0.size < 4294967281 then some (G.right false a0.data.toList) else none
theorem glob_Path.calls (a0 : ByteArray) (r : Bool) (w : World) (h : glob_Path.f a0 = some r) :
    Calls Tryd.prog 12 #[.string a0] w fun e w' => e = .returned (.bool r) ∧ Below w.heap.size w w' := by
  unfold glob_Path.f at h
  split at h
  · obtain rfl := Option.some.inj h
    exact Path_any a0 w (by assumption)
  · cases h
def glob_Match.f (a0 a1 : ByteArray) : Option Bool := if a0.size < 4294967281 ∧ a1.size < 4294967281 then some (may a0.data.toList a1.data.toList) else none
theorem glob_Match.calls (a0 a1 : ByteArray) (r : Bool) (w : World) (h : glob_Match.f a0 a1 = some r) :
    Calls Tryd.prog 13 #[.string a0, .string a1] w fun e w' => e = .returned (.bool r) ∧ Below w.heap.size w w' := by
  unfold glob_Match.f at h
  split at h
  · rename_i hs
    obtain rfl := Option.some.inj h
    exact Match_any a0 a1 w hs.1 hs.2
  · cases h
/-- Any over a row that some slice holds. -/
theorem any_held (s : ByteArray) (A : Option Addr) (c : Nat) (zs : List ByteArray) (w : World) (hr : Kd.C Kd.string w A zs.length zs) (hs : s.size < 4294967281) (hzs : ∀ z ∈ zs, z.size < 4294967281) :
    Calls Tryd.prog 10 #[.string s, .slice A zs.length c] w (AnyOut w (G.which (dat zs) s.data.toList)) := by
  exact Any_any s A zs.length c zs w hs hzs rfl (Kd.C_max hr) hr
def glob_Any.f (a0 : ByteArray) (l1 : List ByteArray) : Option (Int × Int) := if a0.size < 4294967281 ∧ l1.all (fun z => decide (z.size < 4294967281)) = true then some (G.which (dat l1) a0.data.toList) else none
theorem glob_Any.calls (a0 : ByteArray) (A1 : Option Addr) (c1 : Nat) (l1 : List ByteArray) (r0 r1 : Int) (w : World) (hr1 : Kd.C Kd.string w A1 l1.length l1) (hc1 : l1.length ≤ c1) (h : glob_Any.f a0 l1 = some (r0, r1)) :
    Calls Tryd.prog 10 #[.string a0, .slice A1 l1.length c1] w fun e w' => e = .returned (.tuple #[.int .i64 r0, .int .i64 r1]) ∧ Below w.heap.size w w' := by
  unfold glob_Any.f at h
  split at h
  · rename_i hs
    have hh := Option.some.inj h
    have := any_held a0 A1 c1 l1 w hr1 hs.1 (fun z hz => by simpa using List.all_eq_true.1 hs.2 z hz)
    rw [hh] at this
    exact this
  · cases h
def imprimaturlaw13_alive.f : Option Bool := some true
theorem imprimaturlaw13_alive.calls (r : Bool) (w : World) (h : imprimaturlaw13_alive.f = some r) :
    Calls Tryd.prog 14 #[] w fun e w' => e = .returned (.bool r) ∧ Below w.heap.size w w' := by
  obtain rfl := Option.some.inj h
  exact alive_any w
/-- Is a text at hand that holds one byte? -/
def strings_Contains.f (a0 a1 : ByteArray) : Option Bool := if a1 = ⟨#[47]⟩ then some (decide (0 ≤ Lib.indexByte a0.data.toList 47)) else none
theorem strings_Contains.calls (a0 a1 : ByteArray) (r : Bool) (w : World) (h : strings_Contains.f a0 a1 = some r) :
    Calls Tryd.prog 15 #[.string a0, .string a1] w fun e w' => e = .returned (.bool r) ∧ Drawn0 w w' := by
  unfold strings_Contains.f at h
  split at h
  · rename_i hs
    subst hs
    obtain rfl := Option.some.inj h
    exact (Tryd.strings_Contains_one a0 47 w).mono fun e w' ⟨h1, h2⟩ => ⟨h1, h2 ▸ Drawn0.refl _⟩
  · cases h
def strings_Count.f (a0 a1 : ByteArray) : Option Int := if a1 = ⟨#[47]⟩ then some (Lib.countByte a0.data.toList 47) else none
theorem strings_Count.calls (a0 a1 : ByteArray) (r : Int) (w : World) (h : strings_Count.f a0 a1 = some r) :
    Calls Tryd.prog 17 #[.string a0, .string a1] w fun e w' => e = .returned (.int .i64 r) ∧ Drawn0 w w' := by
  unfold strings_Count.f at h
  split at h
  · rename_i hs
    subst hs
    obtain rfl := Option.some.inj h
    exact (Tryd.strings_Count_one a0 47 w).mono fun e w' ⟨h1, h2⟩ => ⟨h1, h2 ▸ Drawn0.refl _⟩
  · cases h
def strings_HasPrefix.f (a0 a1 : ByteArray) : Option Bool := some (Lib.hasPrefix a0.data.toList a1.data.toList)
theorem strings_HasPrefix.calls (a0 a1 : ByteArray) (r : Bool) (w : World) (h : strings_HasPrefix.f a0 a1 = some r) :
    Calls Tryd.prog 19 #[.string a0, .string a1] w fun e w' => e = .returned (.bool r) ∧ Drawn0 w w' := by
  obtain rfl := Option.some.inj h
  exact (Tryd.strings_HasPrefix a0 a1 w).mono fun e w' ⟨h1, h2⟩ => ⟨h1, h2 ▸ Drawn0.refl _⟩
def strings_HasSuffix.f (a0 a1 : ByteArray) : Option Bool := if a0.size ≤ 9223372036854775807 then some (Lib.hasSuffix a0.data.toList a1.data.toList) else none
theorem strings_HasSuffix.calls (a0 a1 : ByteArray) (r : Bool) (w : World) (h : strings_HasSuffix.f a0 a1 = some r) :
    Calls Tryd.prog 20 #[.string a0, .string a1] w fun e w' => e = .returned (.bool r) ∧ Drawn0 w w' := by
  unfold strings_HasSuffix.f at h
  split at h
  · obtain rfl := Option.some.inj h
    exact (Tryd.strings_HasSuffix a0 a1 w (by assumption)).mono fun e w' ⟨h1, h2⟩ => ⟨h1, h2 ▸ Drawn0.refl _⟩
  · cases h
def strings_Repeat.f (a0 : ByteArray) (a1 : Int) : Option ByteArray := if 0 ≤ a1 ∧ a1 ≤ 9223372036854775807 ∧ a0.size * a1.toNat ≤ 140737488355328 then some ⟨(Lib.repeatL a0.data.toList a1.toNat).toArray⟩ else none
theorem strings_Repeat.calls (a0 : ByteArray) (a1 : Int) (r : ByteArray) (w : World) (h : strings_Repeat.f a0 a1 = some r) :
    Calls Tryd.prog 16 #[.string a0, .int .i64 a1] w fun e w' => e = .returned (.string r) ∧ Below w.heap.size w w' := by
  unfold strings_Repeat.f at h
  split at h
  · rename_i hs
    obtain rfl := Option.some.inj h
    have := Tryd.strings_Repeat a0 a1.toNat w (by omega) hs.2.2
    rwa [Int.toNat_of_nonneg hs.1] at this
  · cases h
def ascii (s : ByteArray) : Bool := s.data.toList.all (fun b => decide (b.toNat < 128))
def strings_ContainsAny.f (a0 a1 : ByteArray) : Option Bool := if a0.size < 4294967281 ∧ a1.size < 4294967281 ∧ ascii a0 = true ∧ ascii a1 = true then some (Lib.containsAny a0.data.toList a1.data.toList) else none
theorem ascii_at {s : ByteArray} (h : ascii s = true) (j : Nat) (b : UInt8) (hb : s.data.toList[j]? = some b) : b.toNat < 128 := by
  have := List.all_eq_true.1 h b (List.mem_of_getElem? hb)
  simpa using this
theorem strings_ContainsAny.calls (a0 a1 : ByteArray) (r : Bool) (w : World) (h : strings_ContainsAny.f a0 a1 = some r) :
    Calls Tryd.prog 18 #[.string a0, .string a1] w fun e w' => e = .returned (.bool r) ∧ Below w.heap.size w w' := by
  unfold strings_ContainsAny.f at h
  split at h
  · rename_i hs
    obtain rfl := Option.some.inj h
    exact Tryd.strings_ContainsAny_laid a0 a1 w hs.1 hs.2.1 (ascii_at hs.2.2.1) (ascii_at hs.2.2.2)
  · cases h
end Go.Proofs.YteignlfpjmfleaaDoor.E
