-- Written by programs of this session (wip/prune.py, wip/xp.py), out of the translation and the printed words; what the law does not reach is left out. Not trusted: Lean checks it.
import Derived.Test.YtinbfclfglogmaaZFnClocksPx0
import Derived.Test.YtinbfclfglogmaaZFnClocksPx2
section
namespace Go.Proofs.Ytinbfclfglogmaa.P
open Go.RowKit Go.Proofs.YtinbfclfglogmaaW.PrintWords Go.Proofs.YtinbfclfglogmaaW.PrintLast Go.Proofs.YtinbfclfglogmaaW.PrintMore
attribute [local go_sem] max2_int min2_int max_two min_two max_three min_three max_four min_four   -- for this text's walks alone
set_option linter.unusedVariables false
set_option linter.unusedSimpArgs false
def spec_l7There.f (k : Nat) (a0 : Int) (l1 : List (S65)) (a2 : Int) : Option (Bool) := (spec_GoodEvents.f k a0 l1).bind fun t101 => (if t101 = true then (if a2 ≥ 0 then (some (decide (a2 < (l1.length : Int)))) else (some false)) else (some false))
end Go.Proofs.Ytinbfclfglogmaa.P
end
