-- Written by programs of this session (wip/prune.py, wip/xp.py), out of the translation and the printed words; what the law does not reach is left out. Not trusted: Lean checks it.
import Derived.Test.YtfdgmknjmljhbaaZXCommittedRowsPx0
import Derived.Test.YtfdgmknjmljhbaaZXCommittedRowsPx1
import Derived.Test.YtfdgmknjmljhbaaZXCommittedRowsPx6
import Derived.Test.YtfdgmknjmljhbaaZXCommittedRowsPx7
import Derived.Test.YtfdgmknjmljhbaaZXCommittedRowsPx8
import Derived.Test.YtfdgmknjmljhbaaZXCommittedRowsPx9
import Derived.Test.YtfdgmknjmljhbaaZXCommittedRowsPxok
section
namespace Go.Proofs.Ytfdgmknjmljhbaa.P
open Go.RowKit Go.Proofs.YtfdgmknjmljhbaaW.PrintWords Go.Proofs.YtfdgmknjmljhbaaW.PrintLast Go.Proofs.YtfdgmknjmljhbaaW.PrintMore
attribute [local go_sem] max2_int min2_int max_two min_two max_three min_three max_four min_four   -- for this text's walks alone
set_option linter.unusedVariables false
set_option linter.unusedSimpArgs false
def impl_LagIn.T3 : Bool × List (List Nat × List Nat) := (true, [([], []), ([0], [0]), ([], []), ([2], [2]), ([1, 3], [1, 3]), ([4], [4]), ([5], [5]), ([6], [6]), ([], []), ([], []), ([8, 9], [8, 9]), ([7, 10], [7, 10]), ([11, 10, 0, 1, 2, 3, 4, 5, 6, 7, 8, 9, 10, 11], [11]), ([12, 0, 1, 2, 3, 4, 5, 6, 7, 8, 9, 10, 11, 12], [])])
def impl_LagIn.B3 : List Nat := [0, 1, 0, 4, 15, 31, 63, 127, 0, 0, 768, 2047, 4095, 8191]
theorem impl_LagIn.tab3 : rtab .any (opsOf Try.f30 3) = impl_LagIn.T3 := by kernel_rfl
theorem impl_LagIn.bits3 : waitsOk impl_LagIn.T3.2 impl_LagIn.B3 = true := by kernel_rfl
end Go.Proofs.Ytfdgmknjmljhbaa.P
end
