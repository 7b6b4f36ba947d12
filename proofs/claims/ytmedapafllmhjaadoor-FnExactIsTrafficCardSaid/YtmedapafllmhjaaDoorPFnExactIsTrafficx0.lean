/- Lean functions of the Go functions that the law FnExactIsTraffic reaches, and the proofs that the calls come to what they say (made by program). -/
import Derived.Test.YtmedapafllmhjaaDoorProg
import Derived.Below
import Derived.Deep.Draws
import Derived.Deep.AppendLies
import Derived.Maps.AppendAt
import Derived.OwnWalk
import Derived.Laws.BytesArg
import Derived.Laws.MakeOwn
import Derived.Laws.OwnMore
import Derived.Deep.OwnRows
import Derived.Tactics
import Derived.Lib.ConvBytes
import Derived.Laws.Slices
import Derived.WalkKit
import Derived.KernelRfl
import Derived.RowKit3
import Derived.Deep.LoopGhost
import Derived.Deep.QuietTactic
import Derived.BigQuiet
import Derived.WideLaws
import Derived.Deep.DeepCutAuto
import Derived.Deep.CutBlock
import Derived.Deep.RegionHeld3
import Derived.Laws.Rows
import Derived.Lib.AppendStr
import Derived.ArgAppend
import Derived.Laws.IdiomCopy
import Derived.OrdersHeld
import Derived.Laws.BitsLemmas
import Derived.RowKit
import Derived.Lib.SliceRun
import Derived.Shelf.Abstract
import Derived.Test.YtmedapafllmhjaaDoorWWords
import Derived.Test.YtmedapafllmhjaaDoorWLast
import Derived.Test.YtmedapafllmhjaaDoorWTab
import Derived.Test.YtmedapafllmhjaaDoorWFour
import Derived.Test.YtmedapafllmhjaaDoorWQPut
import Derived.Test.YtmedapafllmhjaaDoorWApart
import Derived.Test.YtmedapafllmhjaaDoorWArr
import Derived.Test.YtmedapafllmhjaaDoorWZeros
import Derived.Test.YtmedapafllmhjaaDoorWFoot
import Derived.Test.YtmedapafllmhjaaDoorWKept
import Derived.Test.YtmedapafllmhjaaDoorWShare
import Derived.Test.YtmedapafllmhjaaDoorWN
import Derived.Test.YtmedapafllmhjaaDoorWFootNe
import Derived.Test.YtmedapafllmhjaaDoorWAt
import Derived.Test.YtmedapafllmhjaaDoorWEqStruct
import Derived.Test.YtmedapafllmhjaaDoorWRepsOne
import Derived.Test.YtmedapafllmhjaaDoorWInv
import Derived.Test.YtmedapafllmhjaaDoorWInvWords
import Derived.Test.YtmedapafllmhjaaDoorWGuard
import Derived.Test.YtmedapafllmhjaaDoorWNEv
import Derived.Test.YtmedapafllmhjaaDoorWMore
namespace Go.Proofs.YtmedapafllmhjaaDoor.PFnExactIsTraffic
open Go.RowKit Go.Proofs.YtmedapafllmhjaaDoorW.PrintWords Go.Proofs.YtmedapafllmhjaaDoorW.PrintLast Go.Proofs.YtmedapafllmhjaaDoorW.PrintMore
attribute [local go_sem] max2_int min2_int max_two min_two max_three min_three max_four min_four   -- for this text's walks alone
set_option linter.unusedVariables false
set_option linter.unusedSimpArgs false



def errW : Option Int → Value
  | none => .nilIface
  | some c => .iface 0 (.int .i64 c)
theorem errW_none : errW none = .nilIface := rfl
theorem errW_some (c : Int) : errW (some c) = .iface 0 (.int .i64 c) := rfl

-- the values' own types

end Go.Proofs.YtmedapafllmhjaaDoor.PFnExactIsTraffic
