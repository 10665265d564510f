-- Written by programs of this session (wip/prune.py, wip/xp.py), out of the translation and the printed words; what the law does not reach is left out. Not trusted: Lean checks it.
import Derived.Test.YtfdgmknjmljhbaaZXNewGroupPx0
import Derived.Test.YtfdgmknjmljhbaaZXNewGroupPx1
section
namespace Go.Proofs.Ytfdgmknjmljhbaa.P
open Go.RowKit Go.Proofs.YtfdgmknjmljhbaaW.PrintWords Go.Proofs.YtfdgmknjmljhbaaW.PrintLast Go.Proofs.YtfdgmknjmljhbaaW.PrintMore
attribute [local go_sem] max2_int min2_int max_two min_two max_three min_three max_four min_four   -- for this text's walks alone
set_option linter.unusedVariables false
set_option linter.unusedSimpArgs false
def impl_newReaders.T6 : Bool × List (List Nat × List Nat) := (true, [([], []), ([0], [0]), ([], []), ([2], [2]), ([3, 3], [3]), ([4], [4]), ([5], [5]), ([1, 6], [1, 6]), ([0, 1, 2, 3, 4, 5, 6, 7], []), ([8, 7, 7, 0, 1, 2, 3, 4, 5, 6, 7], [7, 8])])
def impl_newReaders.B6 : List Nat := [0, 1, 0, 4, 12, 28, 60, 127, 255, 511]
theorem impl_newReaders.tab6 : rtab .any (opsOf Try.f48 6) = impl_newReaders.T6 := by kernel_rfl
theorem impl_newReaders.bits6 : waitsOk impl_newReaders.T6.2 impl_newReaders.B6 = true := by kernel_rfl
end Go.Proofs.Ytfdgmknjmljhbaa.P
end
