-- Written by programs of this session (wip/prune.py, wip/xp.py), out of the translation and the printed words; what the law does not reach is left out. Not trusted: Lean checks it.
import Derived.Test.YtinbfclfglogmaaZXCausalPastPx0
import Derived.Test.YtinbfclfglogmaaZXCausalPastPx2
import Derived.Test.YtinbfclfglogmaaZXCausalPastPx4
section
namespace Go.Proofs.Ytinbfclfglogmaa.P
open Go.RowKit Go.Proofs.YtinbfclfglogmaaW.PrintWords Go.Proofs.YtinbfclfglogmaaW.PrintLast Go.Proofs.YtinbfclfglogmaaW.PrintMore
attribute [local go_sem] max2_int min2_int max_two min_two max_three min_three max_four min_four   -- for this text's walks alone
set_option linter.unusedVariables false
set_option linter.unusedSimpArgs false
def spec_Concurrent.l0 : Nat → List (List Int) → Int → Int → Int → Option (Int × Bool)
  | 0, _, _, _, _ => none
  | k + 1, x6, x7, x16, x17 => if x17 < x16 then (if 0 ≤ x17 then (if x17 < (x6.length : Int) then (spec_Concurrent.l0 k x6 (wrap64 (x7 + (wrap64 (x17 - ((rd_L1 x6 x17).length : Int))))) x16 (wrap64 (x17 + 1))) else (none)) else (none)) else (some (x7, true))
def spec_Concurrent.f (k : Nat) (a0 : Int) (l1 : List (S65)) : Option (Int × Bool) := (spec_GoodEvents.f k a0 l1).bind fun t101 => (if t101 = true then ((spec_l7Pasts.f k l1).bind fun t102 => (spec_Concurrent.l0 k t102 0 (l1.length : Int) 0)) else (some (0, false)))
theorem spec_Concurrent.mono_l : ∀ k, (∀ y0 y1 y2 y3, LeO (spec_Concurrent.l0 k y0 y1 y2 y3) (spec_Concurrent.l0 (k + 1) y0 y1 y2 y3))
  | 0 => fun _ _ _ _ r h => by simp [spec_Concurrent.l0] at h
  | k + 1 => by
    have ih0 := spec_Concurrent.mono_l k
    · intro y0 y1 y2 y3
      unfold spec_Concurrent.l0
      repeat' first
      | (with_reducible exact ih0 _ _ _ _)
      | (with_reducible exact spec_GoodEvents.mono _ _ _)
      | (with_reducible exact spec_l7Pasts.mono _ _)
      | (with_reducible exact LeO.refl _)
      | (with_reducible exact LeO.none _)
      | (with_reducible refine LeO.ite ?_ ?_)
      | (with_reducible refine LeO.bind ?_ (fun _ => ?_))
      | exact ih0 _ _ _ _
      | exact spec_GoodEvents.mono _ _ _
      | exact spec_l7Pasts.mono _ _
      | exact LeO.none _
      | refine LeO.ite ?_ ?_
      | refine LeO.bind ?_ (fun _ => ?_)
theorem spec_Concurrent.mono : ∀ a0 a1 k, LeO (spec_Concurrent.f k a0 a1) (spec_Concurrent.f (k + 1) a0 a1) := by
  intro a0 a1 k
  have ih0 := spec_Concurrent.mono_l k
  unfold spec_Concurrent.f
  repeat' first
      | (with_reducible exact ih0 _ _ _ _)
      | (with_reducible exact spec_GoodEvents.mono _ _ _)
      | (with_reducible exact spec_l7Pasts.mono _ _)
      | (with_reducible exact LeO.refl _)
      | (with_reducible exact LeO.none _)
      | (with_reducible refine LeO.ite ?_ ?_)
      | (with_reducible refine LeO.bind ?_ (fun _ => ?_))
      | exact ih0 _ _ _ _
      | exact spec_GoodEvents.mono _ _ _
      | exact spec_l7Pasts.mono _ _
      | exact LeO.none _
      | refine LeO.ite ?_ ?_
      | refine LeO.bind ?_ (fun _ => ?_)
mutual
def impl_Concurrent.l0 : Nat → List (S65) → List (List Int) → Int → Int → Int → Option (Int × Bool)
  | 0, _, _, _, _, _ => none
  | k + 1, x1, x6, x7, x18, x19 => if x19 < x18 then (impl_Concurrent.l1 k x1 x6 x7 x19 x18 x19 x19 0) else (some (x7, true))
def impl_Concurrent.l1 : Nat → List (S65) → List (List Int) → Int → Int → Int → Int → Int → Int → Option (Int × Bool)
  | 0, _, _, _, _, _, _, _, _ => none
  | k + 1, x1, x6, x7, x8, x18, x19, x22, x23 => if x23 < x22 then ((impl_isAhead.f x1 x6 x23 x8).bind fun t105 => (if t105 = true then (impl_Concurrent.l1 k x1 x6 x7 x8 x18 x19 x22 (wrap64 (x23 + 1))) else (impl_Concurrent.l1 k x1 x6 (wrap64 (x7 + 1)) x8 x18 x19 x22 (wrap64 (x23 + 1))))) else (impl_Concurrent.l0 k x1 x6 x7 x18 (wrap64 (x19 + 1)))
end
def impl_Concurrent.f (k : Nat) (a0 : Int) (l1 : List (S65)) : Option (Int × Bool) := (impl_areEvents.f a0 l1).bind fun t101 => (if t101 = true then ((impl_vectors.f k a0 l1).bind fun t102 => (impl_Concurrent.l0 k l1 t102 0 (l1.length : Int) 0)) else (some (0, false)))
theorem impl_Concurrent.mono_l : ∀ k, (∀ y0 y1 y2 y3 y4, LeO (impl_Concurrent.l0 k y0 y1 y2 y3 y4) (impl_Concurrent.l0 (k + 1) y0 y1 y2 y3 y4)) ∧ (∀ y0 y1 y2 y3 y4 y5 y6 y7, LeO (impl_Concurrent.l1 k y0 y1 y2 y3 y4 y5 y6 y7) (impl_Concurrent.l1 (k + 1) y0 y1 y2 y3 y4 y5 y6 y7))
  | 0 => ⟨fun _ _ _ _ _ r h => by simp [impl_Concurrent.l0] at h, fun _ _ _ _ _ _ _ _ r h => by simp [impl_Concurrent.l1] at h⟩
  | k + 1 => by
    obtain ⟨ih0, ih1⟩ := impl_Concurrent.mono_l k
    refine ⟨?_, ?_⟩
    · intro y0 y1 y2 y3 y4
      unfold impl_Concurrent.l0
      repeat' first
      | (with_reducible exact ih0 _ _ _ _ _)
      | (with_reducible exact ih1 _ _ _ _ _ _ _ _)
      | (with_reducible exact impl_vectors.mono _ _ _)
      | (with_reducible exact LeO.refl _)
      | (with_reducible exact LeO.none _)
      | (with_reducible refine LeO.ite ?_ ?_)
      | (with_reducible refine LeO.bind ?_ (fun _ => ?_))
      | exact ih0 _ _ _ _ _
      | exact ih1 _ _ _ _ _ _ _ _
      | exact impl_vectors.mono _ _ _
      | exact LeO.none _
      | refine LeO.ite ?_ ?_
      | refine LeO.bind ?_ (fun _ => ?_)
    · intro y0 y1 y2 y3 y4 y5 y6 y7
      unfold impl_Concurrent.l1
      repeat' first
      | (with_reducible exact ih0 _ _ _ _ _)
      | (with_reducible exact ih1 _ _ _ _ _ _ _ _)
      | (with_reducible exact impl_vectors.mono _ _ _)
      | (with_reducible exact LeO.refl _)
      | (with_reducible exact LeO.none _)
      | (with_reducible refine LeO.ite ?_ ?_)
      | (with_reducible refine LeO.bind ?_ (fun _ => ?_))
      | exact ih0 _ _ _ _ _
      | exact ih1 _ _ _ _ _ _ _ _
      | exact impl_vectors.mono _ _ _
      | exact LeO.none _
      | refine LeO.ite ?_ ?_
      | refine LeO.bind ?_ (fun _ => ?_)
theorem impl_Concurrent.mono : ∀ a0 a1 k, LeO (impl_Concurrent.f k a0 a1) (impl_Concurrent.f (k + 1) a0 a1) := by
  intro a0 a1 k
  obtain ⟨ih0, ih1⟩ := impl_Concurrent.mono_l k
  unfold impl_Concurrent.f
  repeat' first
      | (with_reducible exact ih0 _ _ _ _ _)
      | (with_reducible exact ih1 _ _ _ _ _ _ _ _)
      | (with_reducible exact impl_vectors.mono _ _ _)
      | (with_reducible exact LeO.refl _)
      | (with_reducible exact LeO.none _)
      | (with_reducible refine LeO.ite ?_ ?_)
      | (with_reducible refine LeO.bind ?_ (fun _ => ?_))
      | exact ih0 _ _ _ _ _
      | exact ih1 _ _ _ _ _ _ _ _
      | exact impl_vectors.mono _ _ _
      | exact LeO.none _
      | refine LeO.ite ?_ ?_
      | refine LeO.bind ?_ (fun _ => ?_)
end Go.Proofs.Ytinbfclfglogmaa.P
end
