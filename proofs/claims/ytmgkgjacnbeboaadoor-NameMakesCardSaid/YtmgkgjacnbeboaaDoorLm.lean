/- NameMakes: the walk under the condition on laid variables. -/
import Derived.Test.YtmgkgjacnbeboaaDoorLd
import Derived.Test.YtmgkgjacnbeboaaDoorPureNameMakes
set_option linter.unusedVariables false
namespace Go.Proofs.YtmgkgjacnbeboaaDoor.E
open Go.RowKit Go.Lib
theorem makes_laid {w : World} (hL : laidMetH Tryd.prog Rows.nameMakesRow.laid w) (a0 : ByteArray) (w0 : a0.size ≤ 140737488351232) (a1 : ByteArray) (w1 : a1.size ≤ 140737488351232) (a2 : ByteArray) (w2 : a2.size ≤ 140737488351232) (a3 : Int) (w3 : (Lit.int .i64 a3).wf = true) (a4 : Int) (w4 : (Lit.int .i64 a4).wf = true) :
    Calls Tryd.prog 3 #[.string a0, .string a1, .string a2, .int .i64 a3, .int .i64 a4] w fun e w' => e = .returned (.bool true) ∧ Below w.heap.size w w' :=
  M.imprimaturlaw20_NameMakes.walk Pure.NameMakes a0 a1 a2 a3 a4 w
    (tabs_of (l := Rows.nameMakesRow.laid) hL (by simp [Rows.nameMakesRow]) (by simp [Rows.nameMakesRow]) (by simp [Rows.nameMakesRow])) w0 w1 w2 w3 w4
end Go.Proofs.YtmgkgjacnbeboaaDoor.E
