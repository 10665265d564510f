-- Written by programs of this session (wip/prune.py, wip/xp.py), out of the translation and the printed words; what the law does not reach is left out. Not trusted: Lean checks it.
import Derived.Test.YtinbfclfglogmaaZXCausalPastPx0
import Derived.Test.YtinbfclfglogmaaZXCausalPastPx2
import Derived.Test.YtinbfclfglogmaaZXCausalPastPx3
section
namespace Go.Proofs.Ytinbfclfglogmaa.P
open Go.RowKit Go.Proofs.YtinbfclfglogmaaW.PrintWords Go.Proofs.YtinbfclfglogmaaW.PrintLast Go.Proofs.YtinbfclfglogmaaW.PrintMore
attribute [local go_sem] max2_int min2_int max_two min_two max_three min_three max_four min_four   -- for this text's walks alone
set_option linter.unusedVariables false
set_option linter.unusedSimpArgs false
mutual
def spec_ScalarClocks.l0 : Nat → List (S65) → List Int → Int → Int → Option (List Int × Bool)
  | 0, _, _, _, _ => none
  | k + 1, x1, x6, x16, x17 => if x17 < x16 then ((spec_l7Causes.f k x1 x17).bind fun t102 => (spec_ScalarClocks.l1 k x1 x6 0 x16 x17 t102 (t102.length : Int) 0)) else (some (x6, true))
def spec_ScalarClocks.l1 : Nat → List (S65) → List Int → Int → Int → Int → List Int → Int → Int → Option (List Int × Bool)
  | 0, _, _, _, _, _, _, _, _ => none
  | k + 1, x1, x6, x8, x16, x17, x22, x23, x24 => if x24 < x23 then (if 0 ≤ x24 then (if x24 < (x22.length : Int) then (if 0 ≤ (rd x22 x24) then (if (rd x22 x24) < (x6.length : Int) then (if (rd x6 (rd x22 x24)) > x8 then (spec_ScalarClocks.l1 k x1 x6 (rd x6 (rd x22 x24)) x16 x17 x22 x23 (wrap64 (x24 + 1))) else (spec_ScalarClocks.l1 k x1 x6 x8 x16 x17 x22 x23 (wrap64 (x24 + 1)))) else (none)) else (none)) else (none)) else (none)) else (if x6.length < 17592186044416 then (spec_ScalarClocks.l0 k x1 (x6 ++ [wrap64 (x8 + 1)]) x16 (wrap64 (x17 + 1))) else (none))
end
def spec_ScalarClocks.f (k : Nat) (a0 : Int) (l1 : List (S65)) : Option (List Int × Bool) := (spec_GoodEvents.f k a0 l1).bind fun t101 => (if t101 = true then (spec_ScalarClocks.l0 k l1 ([] : List Int) (l1.length : Int) 0) else (some (([] : List Int), false)))
theorem spec_ScalarClocks.mono_l : ∀ k, (∀ y0 y1 y2 y3, LeO (spec_ScalarClocks.l0 k y0 y1 y2 y3) (spec_ScalarClocks.l0 (k + 1) y0 y1 y2 y3)) ∧ (∀ y0 y1 y2 y3 y4 y5 y6 y7, LeO (spec_ScalarClocks.l1 k y0 y1 y2 y3 y4 y5 y6 y7) (spec_ScalarClocks.l1 (k + 1) y0 y1 y2 y3 y4 y5 y6 y7))
  | 0 => ⟨fun _ _ _ _ r h => by simp [spec_ScalarClocks.l0] at h, fun _ _ _ _ _ _ _ _ r h => by simp [spec_ScalarClocks.l1] at h⟩
  | k + 1 => by
    obtain ⟨ih0, ih1⟩ := spec_ScalarClocks.mono_l k
    refine ⟨?_, ?_⟩
    · intro y0 y1 y2 y3
      unfold spec_ScalarClocks.l0
      repeat' first
      | (with_reducible exact ih0 _ _ _ _)
      | (with_reducible exact ih1 _ _ _ _ _ _ _ _)
      | (with_reducible exact spec_GoodEvents.mono _ _ _)
      | (with_reducible exact spec_l7Causes.mono _ _ _)
      | (with_reducible exact LeO.refl _)
      | (with_reducible exact LeO.none _)
      | (with_reducible refine LeO.ite ?_ ?_)
      | (with_reducible refine LeO.bind ?_ (fun _ => ?_))
      | exact ih0 _ _ _ _
      | exact ih1 _ _ _ _ _ _ _ _
      | exact spec_GoodEvents.mono _ _ _
      | exact spec_l7Causes.mono _ _ _
      | exact LeO.none _
      | refine LeO.ite ?_ ?_
      | refine LeO.bind ?_ (fun _ => ?_)
    · intro y0 y1 y2 y3 y4 y5 y6 y7
      unfold spec_ScalarClocks.l1
      repeat' first
      | (with_reducible exact ih0 _ _ _ _)
      | (with_reducible exact ih1 _ _ _ _ _ _ _ _)
      | (with_reducible exact spec_GoodEvents.mono _ _ _)
      | (with_reducible exact spec_l7Causes.mono _ _ _)
      | (with_reducible exact LeO.refl _)
      | (with_reducible exact LeO.none _)
      | (with_reducible refine LeO.ite ?_ ?_)
      | (with_reducible refine LeO.bind ?_ (fun _ => ?_))
      | exact ih0 _ _ _ _
      | exact ih1 _ _ _ _ _ _ _ _
      | exact spec_GoodEvents.mono _ _ _
      | exact spec_l7Causes.mono _ _ _
      | exact LeO.none _
      | refine LeO.ite ?_ ?_
      | refine LeO.bind ?_ (fun _ => ?_)
theorem spec_ScalarClocks.mono : ∀ a0 a1 k, LeO (spec_ScalarClocks.f k a0 a1) (spec_ScalarClocks.f (k + 1) a0 a1) := by
  intro a0 a1 k
  obtain ⟨ih0, ih1⟩ := spec_ScalarClocks.mono_l k
  unfold spec_ScalarClocks.f
  repeat' first
      | (with_reducible exact ih0 _ _ _ _)
      | (with_reducible exact ih1 _ _ _ _ _ _ _ _)
      | (with_reducible exact spec_GoodEvents.mono _ _ _)
      | (with_reducible exact spec_l7Causes.mono _ _ _)
      | (with_reducible exact LeO.refl _)
      | (with_reducible exact LeO.none _)
      | (with_reducible refine LeO.ite ?_ ?_)
      | (with_reducible refine LeO.bind ?_ (fun _ => ?_))
      | exact ih0 _ _ _ _
      | exact ih1 _ _ _ _ _ _ _ _
      | exact spec_GoodEvents.mono _ _ _
      | exact spec_l7Causes.mono _ _ _
      | exact LeO.none _
      | refine LeO.ite ?_ ?_
      | refine LeO.bind ?_ (fun _ => ?_)
mutual
def impl_ScalarClocks.l0 : Nat → List (S65) → List Int → Int → Int → Option (List Int × Bool)
  | 0, _, _, _, _ => none
  | k + 1, x1, x6, x17, x18 => if x18 < x17 then ((impl_causes.f k x1 x18).bind fun t105 => (impl_ScalarClocks.l1 k x1 x6 0 x17 x18 t105 (t105.length : Int) 0)) else (some (x6, true))
def impl_ScalarClocks.l1 : Nat → List (S65) → List Int → Int → Int → Int → List Int → Int → Int → Option (List Int × Bool)
  | 0, _, _, _, _, _, _, _, _ => none
  | k + 1, x1, x6, x8, x17, x18, x23, x24, x25 => if x25 < x24 then (if 0 ≤ x25 then (if x25 < (x23.length : Int) then (if 0 ≤ (rd x23 x25) then (if (rd x23 x25) < (x6.length : Int) then (impl_ScalarClocks.l1 k x1 x6 (mx x8 (rd x6 (rd x23 x25))) x17 x18 x23 x24 (wrap64 (x25 + 1))) else (none)) else (none)) else (none)) else (none)) else (if x6.length < 17592186044416 then (impl_ScalarClocks.l0 k x1 (x6 ++ [wrap64 (x8 + 1)]) x17 (wrap64 (x18 + 1))) else (none))
end
def impl_ScalarClocks.f (k : Nat) (a0 : Int) (l1 : List (S65)) : Option (List Int × Bool) := (impl_areEvents.f a0 l1).bind fun t101 => (if t101 = true then (impl_ScalarClocks.l0 k l1 (([] : List Int)) (l1.length : Int) 0) else (some (([] : List Int), false)))
theorem impl_ScalarClocks.mono_l : ∀ k, (∀ y0 y1 y2 y3, LeO (impl_ScalarClocks.l0 k y0 y1 y2 y3) (impl_ScalarClocks.l0 (k + 1) y0 y1 y2 y3)) ∧ (∀ y0 y1 y2 y3 y4 y5 y6 y7, LeO (impl_ScalarClocks.l1 k y0 y1 y2 y3 y4 y5 y6 y7) (impl_ScalarClocks.l1 (k + 1) y0 y1 y2 y3 y4 y5 y6 y7))
  | 0 => ⟨fun _ _ _ _ r h => by simp [impl_ScalarClocks.l0] at h, fun _ _ _ _ _ _ _ _ r h => by simp [impl_ScalarClocks.l1] at h⟩
  | k + 1 => by
    obtain ⟨ih0, ih1⟩ := impl_ScalarClocks.mono_l k
    refine ⟨?_, ?_⟩
    · intro y0 y1 y2 y3
      unfold impl_ScalarClocks.l0
      repeat' first
      | (with_reducible exact ih0 _ _ _ _)
      | (with_reducible exact ih1 _ _ _ _ _ _ _ _)
      | (with_reducible exact impl_causes.mono _ _ _)
      | (with_reducible exact LeO.refl _)
      | (with_reducible exact LeO.none _)
      | (with_reducible refine LeO.ite ?_ ?_)
      | (with_reducible refine LeO.bind ?_ (fun _ => ?_))
      | exact ih0 _ _ _ _
      | exact ih1 _ _ _ _ _ _ _ _
      | exact impl_causes.mono _ _ _
      | exact LeO.none _
      | refine LeO.ite ?_ ?_
      | refine LeO.bind ?_ (fun _ => ?_)
    · intro y0 y1 y2 y3 y4 y5 y6 y7
      unfold impl_ScalarClocks.l1
      repeat' first
      | (with_reducible exact ih0 _ _ _ _)
      | (with_reducible exact ih1 _ _ _ _ _ _ _ _)
      | (with_reducible exact impl_causes.mono _ _ _)
      | (with_reducible exact LeO.refl _)
      | (with_reducible exact LeO.none _)
      | (with_reducible refine LeO.ite ?_ ?_)
      | (with_reducible refine LeO.bind ?_ (fun _ => ?_))
      | exact ih0 _ _ _ _
      | exact ih1 _ _ _ _ _ _ _ _
      | exact impl_causes.mono _ _ _
      | exact LeO.none _
      | refine LeO.ite ?_ ?_
      | refine LeO.bind ?_ (fun _ => ?_)
theorem impl_ScalarClocks.mono : ∀ a0 a1 k, LeO (impl_ScalarClocks.f k a0 a1) (impl_ScalarClocks.f (k + 1) a0 a1) := by
  intro a0 a1 k
  obtain ⟨ih0, ih1⟩ := impl_ScalarClocks.mono_l k
  unfold impl_ScalarClocks.f
  repeat' first
      | (with_reducible exact ih0 _ _ _ _)
      | (with_reducible exact ih1 _ _ _ _ _ _ _ _)
      | (with_reducible exact impl_causes.mono _ _ _)
      | (with_reducible exact LeO.refl _)
      | (with_reducible exact LeO.none _)
      | (with_reducible refine LeO.ite ?_ ?_)
      | (with_reducible refine LeO.bind ?_ (fun _ => ?_))
      | exact ih0 _ _ _ _
      | exact ih1 _ _ _ _ _ _ _ _
      | exact impl_causes.mono _ _ _
      | exact LeO.none _
      | refine LeO.ite ?_ ?_
      | refine LeO.bind ?_ (fun _ => ?_)
end Go.Proofs.Ytinbfclfglogmaa.P
end
