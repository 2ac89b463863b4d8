/- The tables, out of a law's condition on laid variables. -/
import Derived.Test.YtgcflmhlegagbaaGreatDoorQ4
import Derived.Test.YtgcflmhlegagbaaGreatDoorRows
import Derived.Lib.LaidU8T
import Derived.Lib.LaidTab
import Derived.Deep.DeepLaidRun
section
set_option linter.unusedVariables false
namespace Go.Proofs.YtgcflmhlegagbaaGreatDoor.E
open Go.RowKit Go.Lib Go.Shelf
def ren8 : Ren := ⟨fun x => x, fun x => if x = 119 then 164 else if x = 138 then 166 else if x = 139 then 167 else x, fun x => x - 2⟩
theorem u8types : U8Types Tryz.prog ren8 := ⟨by kernel_rfl, by kernel_rfl, by kernel_rfl, by kernel_rfl⟩
theorem u8extra : U8Extra Tryz.prog ren8 := ⟨by kernel_rfl, by kernel_rfl, by kernel_rfl, by kernel_rfl, by kernel_rfl, by kernel_rfl, by kernel_rfl⟩
theorem keys_data : (Rows.laid_imprimatur_sha256_keys : DataW Unit) = Lib.tabData .u32 (Sh.kw.map Int.ofNat) := by kernel_rfl
theorem first_data : (Rows.laid_unicode_utf8_first : DataW Unit) = firstData := by kernel_rfl
theorem accept_data : (Rows.laid_unicode_utf8_acceptRanges : DataW Unit) = acceptData := by kernel_rfl
theorem kw_length : Sh.kw.length = 64 := by kernel_rfl
theorem tabs_of {l : List (String × DataW Unit)} {W : World} (hL : laidMet Tryz.prog l W) (h1 : ("imprimatur/sha256.keys", Rows.laid_imprimatur_sha256_keys) ∈ l) (h2 : ("unicode/utf8.first", Rows.laid_unicode_utf8_first) ∈ l) (h3 : ("unicode/utf8.acceptRanges", Rows.laid_unicode_utf8_acceptRanges) ∈ l) : Tabs W := by
  rw [keys_data] at h1
  rw [first_data] at h2
  rw [accept_data] at h3
  refine ⟨?_, utf8Tabs_of_readsT u8types u8extra (Lib.laidMet.reads hL h2) (Lib.laidMet.reads hL h3)⟩
  have hg3 : Tryz.prog.globalNamed "imprimatur/sha256.keys" = some 3 := by kernel_rfl
  have hT : Lib.TabIs Tryz.prog W "imprimatur/sha256.keys" .u32 (Sh.kw.map Int.ofNat) := by
    obtain ⟨g, t, cs, fuel, p, hg, hty, hvar, hd⟩ := Lib.laidMet.reads hL h1
    obtain rfl : 3 = g := Option.some.inj (hg3.symm.trans hg)
    obtain rfl : 176 = t := Option.some.inj ((show (Tryz.prog.globals[3]?).map (·.type) = some 176 by kernel_rfl).symm.trans hty)
    unfold Lib.TabIs
    rw [hvar, ← Lib.cells_of_tab (n := 64) (e := 144) (by kernel_rfl) (by kernel_rfl) (by kernel_rfl) (by kernel_rfl) hd]
  have hc : ∀ j, j < 64 → W.cell? ⟨3, j, none⟩ = some (.int .u32 (Sh.kw.getD j 0 : Nat)) := by
    intro j hj
    have := hT.cell hg3 j (by rw [List.length_map, kw_length]; exact hj)
    rw [this, List.getD_eq_getElem?_getD, List.getElem?_map, List.getD_eq_getElem?_getD, List.getElem?_eq_getElem (show j < Sh.kw.length by rw [kw_length]; exact hj)]
    rfl
  exact ⟨World.block_lt_of_cell? W _ (hc 0 (by decide)), hc⟩
/-- A table's cells, for a witness' world. -/
def litsOf : DataW Unit → List Value
  | .agg l => l.filterMap fun d => match d with | .lit (.int k z) => some (.int k z) | _ => none
  | _ => []
end Go.Proofs.YtgcflmhlegagbaaGreatDoor.E
end
