-- Written by programs of this session (wip/prune.py, wip/xp.py), out of the translation and the printed words; what the law does not reach is left out. Not trusted: Lean checks it.
import Derived.Test.YtinbfclfglogmaaZXCausalPastPx0
import Derived.Test.YtinbfclfglogmaaZXCausalPastPx1
import Derived.Test.YtinbfclfglogmaaZXCausalPastPx2
import Derived.Test.YtinbfclfglogmaaZXCausalPastPx4
section
namespace Go.Proofs.Ytinbfclfglogmaa.P
open Go.RowKit Go.Proofs.YtinbfclfglogmaaW.PrintWords Go.Proofs.YtinbfclfglogmaaW.PrintLast Go.Proofs.YtinbfclfglogmaaW.PrintMore
attribute [local go_sem] max2_int min2_int max_two min_two max_three min_three max_four min_four   -- for this text's walks alone
set_option linter.unusedVariables false
set_option linter.unusedSimpArgs false
def impl_HappensBefore.j0 : Nat → Int → List (S65) → Int → Int → Bool → Option (Bool × Bool)
  | 0, _, _, _, _, _ => none
  | k + 1, x0, x1, x2, x3, x29 => if x29 = true then (some (false, false)) else ((impl_vectors.f k x0 x1).bind fun t104 => ((impl_isAhead.f x1 t104 x2 x3).bind fun t107 => (some (t107, true))))
def impl_HappensBefore.f (k : Nat) (a0 : Int) (l1 : List (S65)) (a2 : Int) (a3 : Int) : Option (Bool × Bool) := (impl_areEvents.f a0 l1).bind fun t101 => (if t101 = true then ((impl_in.f a2 0 (wrap64 ((l1.length : Int) - 1))).bind fun t102 => (if t102 = true then ((impl_in.f a3 0 (wrap64 ((l1.length : Int) - 1))).bind fun t103 => (impl_HappensBefore.j0 k a0 l1 a2 a3 (!t103))) else (impl_HappensBefore.j0 k a0 l1 a2 a3 true))) else (impl_HappensBefore.j0 k a0 l1 a2 a3 true))
theorem impl_HappensBefore.mono_l : ∀ k, (∀ y0 y1 y2 y3 y4, LeO (impl_HappensBefore.j0 k y0 y1 y2 y3 y4) (impl_HappensBefore.j0 (k + 1) y0 y1 y2 y3 y4))
  | 0 => fun _ _ _ _ _ r h => by simp [impl_HappensBefore.j0] at h
  | k + 1 => by
    have ih0 := impl_HappensBefore.mono_l k
    · intro y0 y1 y2 y3 y4
      unfold impl_HappensBefore.j0
      repeat' first
      | (with_reducible exact ih0 _ _ _ _ _)
      | (with_reducible exact impl_vectors.mono _ _ _)
      | (with_reducible exact LeO.refl _)
      | (with_reducible exact LeO.none _)
      | (with_reducible refine LeO.ite ?_ ?_)
      | (with_reducible refine LeO.bind ?_ (fun _ => ?_))
      | exact ih0 _ _ _ _ _
      | exact impl_vectors.mono _ _ _
      | exact LeO.none _
      | refine LeO.ite ?_ ?_
      | refine LeO.bind ?_ (fun _ => ?_)
theorem impl_HappensBefore.mono : ∀ a0 a1 a2 a3 k, LeO (impl_HappensBefore.f k a0 a1 a2 a3) (impl_HappensBefore.f (k + 1) a0 a1 a2 a3) := by
  intro a0 a1 a2 a3 k
  have ih0 := impl_HappensBefore.mono_l k
  unfold impl_HappensBefore.f
  repeat' first
      | (with_reducible exact ih0 _ _ _ _ _)
      | (with_reducible exact impl_vectors.mono _ _ _)
      | (with_reducible exact LeO.refl _)
      | (with_reducible exact LeO.none _)
      | (with_reducible refine LeO.ite ?_ ?_)
      | (with_reducible refine LeO.bind ?_ (fun _ => ?_))
      | exact ih0 _ _ _ _ _
      | exact impl_vectors.mono _ _ _
      | exact LeO.none _
      | refine LeO.ite ?_ ?_
      | refine LeO.bind ?_ (fun _ => ?_)
end Go.Proofs.Ytinbfclfglogmaa.P
end
