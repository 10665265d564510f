-- Written by programs of this session (wip/prune.py, wip/xp.py), out of the translation and the printed words; what the law does not reach is left out. Not trusted: Lean checks it.
import Derived.Test.YtfdgmknjmljhbaaZXShareOfPx0
import Derived.Test.YtfdgmknjmljhbaaZXShareOfPx2
import Derived.Test.YtfdgmknjmljhbaaZXShareOfPx1
import Derived.Test.YtfdgmknjmljhbaaZXShareOfPxe92
section
namespace Go.Proofs.Ytfdgmknjmljhbaa.P
open Go.RowKit Go.Proofs.YtfdgmknjmljhbaaW.PrintWords Go.Proofs.YtfdgmknjmljhbaaW.PrintLast Go.Proofs.YtfdgmknjmljhbaaW.PrintMore
attribute [local go_sem] max2_int min2_int max_two min_two max_three min_three max_four min_four   -- for this text's walks alone
set_option linter.unusedVariables false
set_option linter.unusedSimpArgs false
def spec_CommittedRows.T3 : Bool × List (List Nat × List Nat) := (true, [([], []), ([], []), ([1], [1]), ([], []), ([3], [3]), ([2, 4], [2, 4]), ([5], [5]), ([6], [6]), ([], []), ([8], [8]), ([7, 9], [7, 9]), ([0, 10], [0, 10]), ([11, 11, 0, 1, 2, 3, 4, 5, 6, 7, 8, 9, 10, 11], [11]), ([12, 0, 1, 2, 3, 4, 5, 6, 7, 8, 9, 10, 11, 12], [])])
def spec_CommittedRows.B3 : List Nat := [0, 0, 2, 0, 8, 30, 62, 126, 0, 256, 1022, 2047, 4095, 8191]
theorem spec_CommittedRows.tab3 : rtab .any (opsOf Try.f39 3) = spec_CommittedRows.T3 := by kernel_rfl
theorem spec_CommittedRows.bits3 : waitsOk spec_CommittedRows.T3.2 spec_CommittedRows.B3 = true := by kernel_rfl
end Go.Proofs.Ytfdgmknjmljhbaa.P
end
