-- Written by programs of this session (wip/prune.py, wip/xp.py), out of the translation and the printed words; what the law does not reach is left out. Not trusted: Lean checks it.
import Derived.Test.YtinbfclfglogmaaZXCausalPastPx0
import Derived.Test.YtinbfclfglogmaaZXCausalPastPx2
section
namespace Go.Proofs.Ytinbfclfglogmaa.P
open Go.RowKit Go.Proofs.YtinbfclfglogmaaW.PrintWords Go.Proofs.YtinbfclfglogmaaW.PrintLast Go.Proofs.YtinbfclfglogmaaW.PrintMore
attribute [local go_sem] max2_int min2_int max_two min_two max_three min_three max_four min_four   -- for this text's walks alone
set_option linter.unusedVariables false
set_option linter.unusedSimpArgs false
def impl_GoodEvents.f (a0 : Int) (l1 : List (S65)) : Option (Bool) := (impl_areEvents.f a0 l1).bind fun t101 => (some t101)
end Go.Proofs.Ytinbfclfglogmaa.P
end
