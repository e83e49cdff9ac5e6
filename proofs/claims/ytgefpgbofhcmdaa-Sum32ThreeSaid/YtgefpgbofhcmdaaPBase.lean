-- Written by wip/myprint.py of this session, over the kit's print.py: a Lean function for each Go function, and the proof that the code comes to it.
import Derived.Test.YtgefpgbofhcmdaaProg
import Derived.Below
import Derived.Deep.Draws
import Derived.Deep.AppendLies
import Derived.Maps.AppendAt
import Derived.OwnWalk
import Derived.Laws.BytesArg
import Derived.Laws.MakeOwn
import Derived.Laws.OwnMore
import Derived.Deep.OwnRows
import Derived.Tactics
import Derived.Lib.ConvBytes
import Derived.Laws.Slices
import Derived.WalkKit
import Derived.KernelRfl
import Derived.RowKit3
import Derived.Deep.LoopGhost
import Derived.Deep.QuietTactic
import Derived.BigQuiet
import Derived.WideLaws
import Derived.Deep.DeepCutAuto
import Derived.Deep.CutBlock
import Derived.Deep.RegionHeld3
import Derived.Laws.Rows
import Derived.Lib.AppendStr
import Derived.ArgAppend
import Derived.Laws.IdiomCopy
import Derived.OrdersHeld
import Derived.Laws.BitsLemmas
import Derived.RowKit
import Derived.Test.YtgefpgbofhcmdaaWWords
import Derived.Test.YtgefpgbofhcmdaaWLast
import Derived.Test.YtgefpgbofhcmdaaWTab
import Derived.Test.YtgefpgbofhcmdaaWFour
import Derived.Test.YtgefpgbofhcmdaaWQPut
import Derived.Test.YtgefpgbofhcmdaaWApart
import Derived.Test.YtgefpgbofhcmdaaWArr
import Derived.Test.YtgefpgbofhcmdaaWZeros
import Derived.Test.YtgefpgbofhcmdaaWFoot
import Derived.Test.YtgefpgbofhcmdaaWKept
import Derived.Test.YtgefpgbofhcmdaaWShare
import Derived.Test.YtgefpgbofhcmdaaWN
import Derived.Test.YtgefpgbofhcmdaaWFootNe
import Derived.Test.YtgefpgbofhcmdaaWAt
import Derived.Test.YtgefpgbofhcmdaaWEqStruct
import Derived.Test.YtgefpgbofhcmdaaWRepsOne
import Derived.Test.YtgefpgbofhcmdaaWInv
import Derived.Test.YtgefpgbofhcmdaaWInvWords
import Derived.Test.YtgefpgbofhcmdaaWGuard
import Derived.Test.YtgefpgbofhcmdaaWNEv
import Derived.Test.YtgefpgbofhcmdaaWMore
namespace Go.Proofs.Ytgefpgbofhcmdaa.P
open Go.RowKit Go.Proofs.YtgefpgbofhcmdaaW.PrintWords Go.Proofs.YtgefpgbofhcmdaaW.PrintLast Go.Proofs.YtgefpgbofhcmdaaW.PrintMore
attribute [local go_sem] max2_int min2_int max_two min_two max_three min_three max_four min_four   -- for this text's walks alone
set_option linter.unusedVariables false
set_option linter.unusedSimpArgs false



def errW : Option Int → Value
  | none => .nilIface
  | some c => .iface 0 (.int .i64 c)
theorem errW_none : errW none = .nilIface := rfl
theorem errW_some (c : Int) : errW (some c) = .iface 0 (.int .i64 c) := rfl

theorem info5 : (Try.prog.info? 5).map (fun i => (i.zero, i.size, i.bytes)) = some (some (.int .u8 0), 1, 1) := by kernel_rfl
-- the values' own types

end Go.Proofs.Ytgefpgbofhcmdaa.P
