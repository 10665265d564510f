-- Written by a program of this session (wip/xp.py), out of the translation. Not trusted: Lean checks it.
import Derived.Test.YtphmplmeofledaaProg
import Derived.Below
import Derived.Deep.Draws
import Derived.Deep.AppendLies
import Derived.Maps.AppendAt
import Derived.OwnWalk
import Derived.Laws.BytesArg
import Derived.Laws.MakeOwn
import Derived.Laws.OwnMore
import Derived.Deep.OwnRows
import Derived.Tactics
import Derived.Lib.ConvBytes
import Derived.Laws.Slices
import Derived.WalkKit
import Derived.KernelRfl
import Derived.RowKit3
import Derived.Deep.LoopGhost
import Derived.Deep.QuietTactic
import Derived.BigQuiet
import Derived.WideLaws
import Derived.Deep.DeepCutAuto
import Derived.Deep.CutBlock
import Derived.Deep.RegionHeld3
import Derived.Laws.Rows
import Derived.Lib.AppendStr
import Derived.ArgAppend
import Derived.Laws.IdiomCopy
import Derived.OrdersHeld
import Derived.Laws.BitsLemmas
import Derived.RowKit
import Derived.Test.YtphmplmeofledaaWWords
import Derived.Test.YtphmplmeofledaaWLast
import Derived.Test.YtphmplmeofledaaWTab
import Derived.Test.YtphmplmeofledaaWFour
import Derived.Test.YtphmplmeofledaaWQPut
import Derived.Test.YtphmplmeofledaaWApart
import Derived.Test.YtphmplmeofledaaWArr
import Derived.Test.YtphmplmeofledaaWZeros
import Derived.Test.YtphmplmeofledaaWFoot
import Derived.Test.YtphmplmeofledaaWKept
import Derived.Test.YtphmplmeofledaaWShare
import Derived.Test.YtphmplmeofledaaWN
import Derived.Test.YtphmplmeofledaaWFootNe
import Derived.Test.YtphmplmeofledaaWAt
import Derived.Test.YtphmplmeofledaaWEqStruct
import Derived.Test.YtphmplmeofledaaWRepsOne
import Derived.Test.YtphmplmeofledaaWInv
import Derived.Test.YtphmplmeofledaaWInvWords
import Derived.Test.YtphmplmeofledaaWGuard
import Derived.Test.YtphmplmeofledaaWNEv
import Derived.Test.YtphmplmeofledaaWMore
namespace Go.Proofs.Ytphmplmeofledaa.P
open Go.RowKit Go.Proofs.YtphmplmeofledaaW.PrintWords Go.Proofs.YtphmplmeofledaaW.PrintLast Go.Proofs.YtphmplmeofledaaW.PrintMore
attribute [local go_sem] max2_int min2_int max_two min_two max_three min_three max_four min_four   -- for this text's walks alone
set_option linter.unusedVariables false
set_option linter.unusedSimpArgs false



def errW : Option Int → Value
  | none => .nilIface
  | some c => .iface 0 (.int .i64 c)
theorem errW_none : errW none = .nilIface := rfl
theorem errW_some (c : Int) : errW (some c) = .iface 0 (.int .i64 c) := rfl

theorem info3 : (Try.prog.info? 3).map (fun i => (i.zero, i.size, i.bytes)) = some (some (.int .i64 0), 1, 8) := by kernel_rfl
-- the values' own types

end Go.Proofs.Ytphmplmeofledaa.P
