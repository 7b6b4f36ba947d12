/- Lean functions of the Go functions that the law FnExactBlendAmounts reaches, and the proofs that the calls come to what they say (made by program). -/
import Derived.Test.YtpgjoagbmljmnaaProg
import Derived.Below
import Derived.Deep.Draws
import Derived.Deep.AppendLies
import Derived.Maps.AppendAt
import Derived.OwnWalk
import Derived.Laws.BytesArg
import Derived.Laws.MakeOwn
import Derived.Laws.OwnMore
import Derived.Deep.OwnRows
import Derived.Tactics
import Derived.Lib.ConvBytes
import Derived.Laws.Slices
import Derived.WalkKit
import Derived.KernelRfl
import Derived.RowKit3
import Derived.Deep.LoopGhost
import Derived.Deep.QuietTactic
import Derived.BigQuiet
import Derived.WideLaws
import Derived.Deep.DeepCutAuto
import Derived.Deep.CutBlock
import Derived.Deep.RegionHeld3
import Derived.Laws.Rows
import Derived.Lib.AppendStr
import Derived.ArgAppend
import Derived.Laws.IdiomCopy
import Derived.OrdersHeld
import Derived.Laws.BitsLemmas
import Derived.RowKit
import Derived.Lib.SliceRun
import Derived.Shelf.Abstract
import Derived.Test.YtpgjoagbmljmnaaWWords
import Derived.Test.YtpgjoagbmljmnaaWLast
import Derived.Test.YtpgjoagbmljmnaaWTab
import Derived.Test.YtpgjoagbmljmnaaWFour
import Derived.Test.YtpgjoagbmljmnaaWQPut
import Derived.Test.YtpgjoagbmljmnaaWApart
import Derived.Test.YtpgjoagbmljmnaaWArr
import Derived.Test.YtpgjoagbmljmnaaWZeros
import Derived.Test.YtpgjoagbmljmnaaWFoot
import Derived.Test.YtpgjoagbmljmnaaWKept
import Derived.Test.YtpgjoagbmljmnaaWShare
import Derived.Test.YtpgjoagbmljmnaaWN
import Derived.Test.YtpgjoagbmljmnaaWFootNe
import Derived.Test.YtpgjoagbmljmnaaWAt
import Derived.Test.YtpgjoagbmljmnaaWEqStruct
import Derived.Test.YtpgjoagbmljmnaaWRepsOne
import Derived.Test.YtpgjoagbmljmnaaWInv
import Derived.Test.YtpgjoagbmljmnaaWInvWords
import Derived.Test.YtpgjoagbmljmnaaWGuard
import Derived.Test.YtpgjoagbmljmnaaWNEv
import Derived.Test.YtpgjoagbmljmnaaWMore
namespace Go.Proofs.Ytpgjoagbmljmnaa.PFnExactBlendAmounts
open Go.RowKit Go.Proofs.YtpgjoagbmljmnaaW.PrintWords Go.Proofs.YtpgjoagbmljmnaaW.PrintLast Go.Proofs.YtpgjoagbmljmnaaW.PrintMore
attribute [local go_sem] max2_int min2_int max_two min_two max_three min_three max_four min_four   -- for this text's walks alone
set_option linter.unusedVariables false
set_option linter.unusedSimpArgs false



def errW : Option Int → Value
  | none => .nilIface
  | some c => .iface 0 (.int .i64 c)
theorem errW_none : errW none = .nilIface := rfl
theorem errW_some (c : Int) : errW (some c) = .iface 0 (.int .i64 c) := rfl

theorem info3 : (Try.prog.info? 3).map (fun i => (i.zero, i.size, i.bytes)) = some (some (.int .i64 0), 1, 8) := by kernel_rfl
-- the values' own types

end Go.Proofs.Ytpgjoagbmljmnaa.PFnExactBlendAmounts
