-- Written by a program of this session (wip/tools/xprint.py).
import Derived.Test.YtmgkgjacnbeboaaDoorProg
import Derived.Below
import Derived.Deep.Draws
import Derived.Deep.AppendLies
import Derived.Maps.AppendAt
import Derived.OwnWalk
import Derived.Laws.BytesArg
import Derived.Laws.MakeOwn
import Derived.Laws.OwnMore
import Derived.Deep.OwnRows
import Derived.Tactics
import Derived.Lib.ConvBytes
import Derived.Laws.Slices
import Derived.WalkKit
import Derived.KernelRfl
import Derived.RowKit3
import Derived.Deep.LoopGhost
import Derived.Deep.QuietTactic
import Derived.BigQuiet
import Derived.WideLaws
import Derived.Deep.DeepCutAuto
import Derived.Deep.CutBlock
import Derived.Deep.RegionHeld3
import Derived.Laws.Rows
import Derived.Lib.AppendStr
import Derived.ArgAppend
import Derived.Laws.IdiomCopy
import Derived.OrdersHeld
import Derived.Laws.BitsLemmas
import Derived.RowKit
import Derived.Test.YtmgkgjacnbeboaaDoorWWords
import Derived.Test.YtmgkgjacnbeboaaDoorWLast
import Derived.Test.YtmgkgjacnbeboaaDoorWTab
import Derived.Test.YtmgkgjacnbeboaaDoorWFour
import Derived.Test.YtmgkgjacnbeboaaDoorWQPut
import Derived.Test.YtmgkgjacnbeboaaDoorWApart
import Derived.Test.YtmgkgjacnbeboaaDoorWArr
import Derived.Test.YtmgkgjacnbeboaaDoorWZeros
import Derived.Test.YtmgkgjacnbeboaaDoorWFoot
import Derived.Test.YtmgkgjacnbeboaaDoorWKept
import Derived.Test.YtmgkgjacnbeboaaDoorWShare
import Derived.Test.YtmgkgjacnbeboaaDoorWN
import Derived.Test.YtmgkgjacnbeboaaDoorWFootNe
import Derived.Test.YtmgkgjacnbeboaaDoorWAt
import Derived.Test.YtmgkgjacnbeboaaDoorWEqStruct
import Derived.Test.YtmgkgjacnbeboaaDoorWRepsOne
import Derived.Test.YtmgkgjacnbeboaaDoorWInv
import Derived.Test.YtmgkgjacnbeboaaDoorWInvWords
import Derived.Test.YtmgkgjacnbeboaaDoorWGuard
import Derived.Test.YtmgkgjacnbeboaaDoorWNEv
import Derived.Test.YtmgkgjacnbeboaaDoorWMore
namespace Go.Proofs.YtmgkgjacnbeboaaDoor.Y
open Go.RowKit Go.Proofs.YtmgkgjacnbeboaaDoorW.PrintWords Go.Proofs.YtmgkgjacnbeboaaDoorW.PrintLast Go.Proofs.YtmgkgjacnbeboaaDoorW.PrintMore
attribute [local go_sem] max2_int min2_int max_two min_two max_three min_three max_four min_four   -- for this text's walks alone
set_option linter.unusedVariables false
set_option linter.unusedSimpArgs false



def errW : Option Int → Value
  | none => .nilIface
  | some c => .iface 0 (.int .i64 c)
theorem errW_none : errW none = .nilIface := rfl
theorem errW_some (c : Int) : errW (some c) = .iface 0 (.int .i64 c) := rfl

theorem info5 : (Tryd.prog.info? 5).map (fun i => (i.zero, i.size, i.bytes)) = some (some (.int .u8 0), 1, 1) := by kernel_rfl
theorem info9 : (Tryd.prog.info? 9).map (fun i => (i.zero, i.size, i.bytes)) = some (some (.string ⟨#[]⟩), 1, 16) := by kernel_rfl
-- the values' own types

end Go.Proofs.YtmgkgjacnbeboaaDoor.Y
