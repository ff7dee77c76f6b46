-- Written by this session's own program (wip/tools/myprint.py), which runs the kit's print over functions proved by hand.
import Derived.Test.YtjihlabmddfjhaaProg
import Derived.Below
import Derived.Deep.Draws
import Derived.Deep.AppendLies
import Derived.Maps.AppendAt
import Derived.OwnWalk
import Derived.Laws.BytesArg
import Derived.Laws.MakeOwn
import Derived.Laws.OwnMore
import Derived.Deep.OwnRows
import Derived.Tactics
import Derived.Lib.ConvBytes
import Derived.Laws.Slices
import Derived.WalkKit
import Derived.KernelRfl
import Derived.RowKit3
import Derived.Deep.LoopGhost
import Derived.Deep.QuietTactic
import Derived.BigQuiet
import Derived.WideLaws
import Derived.Deep.DeepCutAuto
import Derived.Deep.CutBlock
import Derived.Deep.RegionHeld3
import Derived.Laws.Rows
import Derived.Lib.AppendStr
import Derived.ArgAppend
import Derived.Laws.IdiomCopy
import Derived.OrdersHeld
import Derived.Laws.BitsLemmas
import Derived.RowKit
import Derived.Test.YtjihlabmddfjhaaWWords
import Derived.Test.YtjihlabmddfjhaaWLast
import Derived.Test.YtjihlabmddfjhaaWTab
import Derived.Test.YtjihlabmddfjhaaWFour
import Derived.Test.YtjihlabmddfjhaaWQPut
import Derived.Test.YtjihlabmddfjhaaWApart
import Derived.Test.YtjihlabmddfjhaaWArr
import Derived.Test.YtjihlabmddfjhaaWZeros
import Derived.Test.YtjihlabmddfjhaaWFoot
import Derived.Test.YtjihlabmddfjhaaWKept
import Derived.Test.YtjihlabmddfjhaaWShare
import Derived.Test.YtjihlabmddfjhaaWN
import Derived.Test.YtjihlabmddfjhaaWFootNe
import Derived.Test.YtjihlabmddfjhaaWAt
import Derived.Test.YtjihlabmddfjhaaWEqStruct
import Derived.Test.YtjihlabmddfjhaaWRepsOne
import Derived.Test.YtjihlabmddfjhaaWInv
import Derived.Test.YtjihlabmddfjhaaWInvWords
import Derived.Test.YtjihlabmddfjhaaWGuard
import Derived.Test.YtjihlabmddfjhaaWNEv
import Derived.Test.YtjihlabmddfjhaaWMore
namespace Go.Proofs.Ytjihlabmddfjhaa.PBase
open Go.RowKit Go.Proofs.YtjihlabmddfjhaaW.PrintWords Go.Proofs.YtjihlabmddfjhaaW.PrintLast Go.Proofs.YtjihlabmddfjhaaW.PrintMore
attribute [local go_sem] max2_int min2_int max_two min_two max_three min_three max_four min_four   -- for this text's walks alone
set_option linter.unusedVariables false
set_option linter.unusedSimpArgs false



def errW : Option Int → Value
  | none => .nilIface
  | some c => .iface 0 (.int .i64 c)
theorem errW_none : errW none = .nilIface := rfl
theorem errW_some (c : Int) : errW (some c) = .iface 0 (.int .i64 c) := rfl

theorem info5 : (Try.prog.info? 5).map (fun i => (i.zero, i.size, i.bytes)) = some (some (.int .u8 0), 1, 1) := by kernel_rfl
-- the values' own types

end Go.Proofs.Ytjihlabmddfjhaa.PBase
