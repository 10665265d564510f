-- Written by programs of this session (wip/prune.py, wip/xp.py), out of the translation and the printed words; what the law does not reach is left out. Not trusted: Lean checks it.
import Derived.Test.YtomdjipejoafgaaZXCommittedInPx0
import Derived.Test.YtomdjipejoafgaaZXCommittedInPx2
import Derived.Test.YtomdjipejoafgaaZXCommittedInPxe67
import Derived.Test.YtomdjipejoafgaaZXCommittedInPxok
section
namespace Go.Proofs.Ytomdjipejoafgaa.P
open Go.RowKit Go.Proofs.YtomdjipejoafgaaW.PrintWords Go.Proofs.YtomdjipejoafgaaW.PrintLast Go.Proofs.YtomdjipejoafgaaW.PrintMore
attribute [local go_sem] max2_int min2_int max_two min_two max_three min_three max_four min_four   -- for this text's walks alone
set_option linter.unusedVariables false
set_option linter.unusedSimpArgs false
attribute [local go_sem high] eqA67
mutual
def spec_LogsMatch.j0 : Nat → List (S67) → List (S67) → Bool → Option (Bool × Bool)
 | 0, _, _, _ => none
 | k + 1, x0, x1, x16 => if x16 = true then (some (false, false)) else (spec_LogsMatch.l0 k x0 x1 0 (x0.length : Int) 0)
def spec_LogsMatch.l0 : Nat → List (S67) → List (S67) → Int → Int → Int → Option (Bool × Bool)
 | 0, _, _, _, _, _ => none
 | k + 1, x0, x1, x6, x18, x19 => if x19 < x18 then (if x19 < (x1.length : Int) then (if 0 ≤ x19 then (if x19 < (x0.length : Int) then (if ((rd_T67 x0 x19).f0) = ((rd_T67 x1 x19).f0) then (spec_LogsMatch.l0 k x0 x1 (wrap64 (x19 + 1)) x18 (wrap64 (x19 + 1))) else (spec_LogsMatch.l0 k x0 x1 x6 x18 (wrap64 (x19 + 1)))) else (none)) else (none)) else (spec_LogsMatch.l0 k x0 x1 x6 x18 (wrap64 (x19 + 1)))) else (spec_LogsMatch.l1 k x0 x1 x6 0)
def spec_LogsMatch.l1 : Nat → List (S67) → List (S67) → Int → Int → Option (Bool × Bool)
 | 0, _, _, _, _ => none
 | k + 1, x0, x1, x6, x8 => if x8 < x6 then (if 0 ≤ x8 then (if x8 < (x0.length : Int) then (if x8 < (x1.length : Int) then (if (!(((rd_T67 x0 x8).f0) == ((rd_T67 x1 x8).f0)) || (!(((rd_T67 x0 x8).f1) == ((rd_T67 x1 x8).f1)))) = true then (some (false, true)) else (spec_LogsMatch.l1 k x0 x1 x6 (wrap64 (x8 + 1)))) else (none)) else (none)) else (none)) else (some (true, true))
end
def spec_LogsMatch.f (k : Nat) (l0 : List (S67)) (l1 : List (S67)) : Option (Bool × Bool) := (spec_l10Log.f k l0 100).bind fun t101 => (if t101 = true then ((spec_l10Log.f k l1 100).bind fun t102 => (spec_LogsMatch.j0 k l0 l1 (!t102))) else (spec_LogsMatch.j0 k l0 l1 true))
end Go.Proofs.Ytomdjipejoafgaa.P
end
