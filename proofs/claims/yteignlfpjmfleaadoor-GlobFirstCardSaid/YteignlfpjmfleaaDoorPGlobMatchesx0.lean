-- PRINTED BY print.sh 35421559b90ae4d0a3588c463048766b98c2df88dd9212a6774a882060cdf62d: not written by this session
import Derived.Test.YteignlfpjmfleaaDoorProg
import Derived.Below
import Derived.Deep.Draws
import Derived.Deep.AppendLies
import Derived.Maps.AppendAt
import Derived.OwnWalk
import Derived.Laws.BytesArg
import Derived.Laws.MakeOwn
import Derived.Laws.OwnMore
import Derived.Deep.OwnRows
import Derived.Tactics
import Derived.Lib.ConvBytes
import Derived.Laws.Slices
import Derived.WalkKit
import Derived.KernelRfl
import Derived.RowKit3
import Derived.Deep.LoopGhost
import Derived.Deep.QuietTactic
import Derived.BigQuiet
import Derived.WideLaws
import Derived.Deep.DeepCutAuto
import Derived.Deep.CutBlock
import Derived.Deep.RegionHeld3
import Derived.Laws.Rows
import Derived.Lib.AppendStr
import Derived.ArgAppend
import Derived.Laws.IdiomCopy
import Derived.OrdersHeld
import Derived.Laws.BitsLemmas
import Derived.RowKit
import Derived.Test.YteignlfpjmfleaaDoorWWords
import Derived.Test.YteignlfpjmfleaaDoorWLast
import Derived.Test.YteignlfpjmfleaaDoorWTab
import Derived.Test.YteignlfpjmfleaaDoorWFour
import Derived.Test.YteignlfpjmfleaaDoorWQPut
import Derived.Test.YteignlfpjmfleaaDoorWApart
import Derived.Test.YteignlfpjmfleaaDoorWArr
import Derived.Test.YteignlfpjmfleaaDoorWZeros
import Derived.Test.YteignlfpjmfleaaDoorWFoot
import Derived.Test.YteignlfpjmfleaaDoorWKept
import Derived.Test.YteignlfpjmfleaaDoorWShare
import Derived.Test.YteignlfpjmfleaaDoorWN
import Derived.Test.YteignlfpjmfleaaDoorWFootNe
import Derived.Test.YteignlfpjmfleaaDoorWAt
import Derived.Test.YteignlfpjmfleaaDoorWEqStruct
import Derived.Test.YteignlfpjmfleaaDoorWRepsOne
import Derived.Test.YteignlfpjmfleaaDoorWInv
import Derived.Test.YteignlfpjmfleaaDoorWInvWords
import Derived.Test.YteignlfpjmfleaaDoorWGuard
import Derived.Test.YteignlfpjmfleaaDoorWNEv
import Derived.Test.YteignlfpjmfleaaDoorWMore
namespace Go.Proofs.YteignlfpjmfleaaDoor.PGlobMatches
open Go.RowKit Go.Proofs.YteignlfpjmfleaaDoorW.PrintWords Go.Proofs.YteignlfpjmfleaaDoorW.PrintLast Go.Proofs.YteignlfpjmfleaaDoorW.PrintMore
attribute [local go_sem] max2_int min2_int max_two min_two max_three min_three max_four min_four   -- for this text's walks alone
set_option linter.unusedVariables false
set_option linter.unusedSimpArgs false



def errW : Option Int → Value
  | none => .nilIface
  | some c => .iface 0 (.int .i64 c)
theorem errW_none : errW none = .nilIface := rfl
theorem errW_some (c : Int) : errW (some c) = .iface 0 (.int .i64 c) := rfl

theorem info4 : (Tryd.prog.info? 4).map (fun i => (i.zero, i.size, i.bytes)) = some (some (.bool false), 1, 1) := by kernel_rfl
theorem info9 : (Tryd.prog.info? 9).map (fun i => (i.zero, i.size, i.bytes)) = some (some (.string ⟨#[]⟩), 1, 16) := by kernel_rfl
-- the values' own types

end Go.Proofs.YteignlfpjmfleaaDoor.PGlobMatches
