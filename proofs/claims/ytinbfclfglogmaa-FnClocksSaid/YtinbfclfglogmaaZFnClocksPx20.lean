-- Written by programs of this session (wip/prune.py, wip/xp.py), out of the translation and the printed words; what the law does not reach is left out. Not trusted: Lean checks it.
import Derived.Test.YtinbfclfglogmaaZFnClocksPx0
import Derived.Test.YtinbfclfglogmaaZFnClocksPx10
import Derived.Test.YtinbfclfglogmaaZFnClocksPx4
section
namespace Go.Proofs.Ytinbfclfglogmaa.P
open Go.RowKit Go.Proofs.YtinbfclfglogmaaW.PrintWords Go.Proofs.YtinbfclfglogmaaW.PrintLast Go.Proofs.YtinbfclfglogmaaW.PrintMore
attribute [local go_sem] max2_int min2_int max_two min_two max_three min_three max_four min_four   -- for this text's walks alone
set_option linter.unusedVariables false
set_option linter.unusedSimpArgs false
def spec_l1Has.l0 : Nat → Int → List Int → Int → Int → Option (Bool)
 | 0, _, _, _, _ => none
 | k + 1, x1, x7, x8, x9 => if x9 < x8 then (if 0 ≤ x9 then (if x9 < (x7.length : Int) then (if (rd x7 x9) = x1 then (some true) else (spec_l1Has.l0 k x1 x7 x8 (wrap64 (x9 + 1)))) else (none)) else (none)) else (some false)
def spec_l1Has.f (k : Nat) (l0 : List Int) (a1 : Int) : Option (Bool) := spec_l1Has.l0 k a1 l0 (l0.length : Int) 0
def spec_HappensBefore.j0 : Nat → List (S65) → Int → Int → Bool → Option (Bool × Bool)
 | 0, _, _, _, _ => none
 | k + 1, x1, x2, x3, x21 => if x21 = true then (some (false, false)) else ((spec_l7Pasts.f k x1).bind fun t103 => (if 0 ≤ x3 then (if x3 < (t103.length : Int) then ((spec_l1Has.f k (rd_L1 t103 x3) x2).bind fun t107 => (some (t107, true))) else (none)) else (none)))
def spec_HappensBefore.f (k : Nat) (a0 : Int) (l1 : List (S65)) (a2 : Int) (a3 : Int) : Option (Bool × Bool) := (spec_l7There.f k a0 l1 a2).bind fun t101 => (if t101 = true then ((spec_l7There.f k a0 l1 a3).bind fun t102 => (spec_HappensBefore.j0 k l1 a2 a3 (!t102))) else (spec_HappensBefore.j0 k l1 a2 a3 true))
end Go.Proofs.Ytinbfclfglogmaa.P
end
