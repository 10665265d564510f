-- Written by programs of this session (wip/prune.py, wip/xp.py), out of the translation and the printed words; what the law does not reach is left out. Not trusted: Lean checks it.
import Derived.Test.YtmkiffemanmgcaaZXGoodControlPx0
import Derived.Test.YtmkiffemanmgcaaZXGoodControlPx1
import Derived.Test.YtmkiffemanmgcaaZXGoodControlPx2
import Derived.Test.YtmkiffemanmgcaaZXGoodControlPx3
section
namespace Go.Proofs.Ytmkiffemanmgcaa.P
open Go.RowKit Go.Proofs.YtmkiffemanmgcaaW.PrintWords Go.Proofs.YtmkiffemanmgcaaW.PrintLast Go.Proofs.YtmkiffemanmgcaaW.PrintMore
attribute [local go_sem] max2_int min2_int max_two min_two max_three min_three max_four min_four   -- for this text's walks alone
set_option linter.unusedVariables false
set_option linter.unusedSimpArgs false
def impl_Control_ledBy.l0 : Nat → Int → List Int → List (S85) → Int → Int → Option (List Int)
  | 0, _, _, _, _, _ => none
  | k + 1, x1, x5, x10, x11, x12 => if x12 < x11 then (if 0 ≤ x12 then (if x12 < (x10.length : Int) then (if ((rd_T85 x10 x12).f2) = x1 then (if x5.length < 17592186044416 then (impl_Control_ledBy.l0 k x1 (x5 ++ [x12]) x10 x11 (wrap64 (x12 + 1))) else (none)) else (impl_Control_ledBy.l0 k x1 x5 x10 x11 (wrap64 (x12 + 1)))) else (none)) else (none)) else (some x5)
def impl_Control_ledBy.f (k : Nat) (l0_0 : List (S67)) (l0_1 : List (S85)) (a0_2 : Int) (a1 : Int) : Option (List Int) := impl_Control_ledBy.l0 k a1 (([] : List Int)) l0_1 (l0_1.length : Int) 0
theorem impl_Control_ledBy.mono_l : ∀ k, (∀ y0 y1 y2 y3 y4, LeO (impl_Control_ledBy.l0 k y0 y1 y2 y3 y4) (impl_Control_ledBy.l0 (k + 1) y0 y1 y2 y3 y4))
  | 0 => fun _ _ _ _ _ r h => by simp [impl_Control_ledBy.l0] at h
  | k + 1 => by
    have ih0 := impl_Control_ledBy.mono_l k
    · intro y0 y1 y2 y3 y4
      unfold impl_Control_ledBy.l0
      repeat' first
      | (with_reducible exact ih0 _ _ _ _ _)
      | (with_reducible exact LeO.refl _)
      | (with_reducible exact LeO.none _)
      | (with_reducible refine LeO.ite ?_ ?_)
      | (with_reducible refine LeO.bind ?_ (fun _ => ?_))
      | exact ih0 _ _ _ _ _
      | exact LeO.none _
      | refine LeO.ite ?_ ?_
      | refine LeO.bind ?_ (fun _ => ?_)
theorem impl_Control_ledBy.mono : ∀ a0 a1 a2 a3 k, LeO (impl_Control_ledBy.f k a0 a1 a2 a3) (impl_Control_ledBy.f (k + 1) a0 a1 a2 a3) := by
  intro a0 a1 a2 a3 k
  have ih0 := impl_Control_ledBy.mono_l k
  unfold impl_Control_ledBy.f
  repeat' first
      | (with_reducible exact ih0 _ _ _ _ _)
      | (with_reducible exact LeO.refl _)
      | (with_reducible exact LeO.none _)
      | (with_reducible refine LeO.ite ?_ ?_)
      | (with_reducible refine LeO.bind ?_ (fun _ => ?_))
      | exact ih0 _ _ _ _ _
      | exact LeO.none _
      | refine LeO.ite ?_ ?_
      | refine LeO.bind ?_ (fun _ => ?_)
def impl_LeadsIn.f (k : Nat) (l0_0 : List (S67)) (l0_1 : List (S85)) (a0_2 : Int) (a1 : Int) : Option (List Int × Bool) := (impl_isControl.f k l0_0 l0_1 a0_2).bind fun t102 => (if t102 = true then ((impl_in.f a1 0 (wrap64 ((l0_0.length : Int) - 1))).bind fun t103 => (if t103 = true then ((impl_Control_ledBy.f k l0_0 l0_1 a0_2 a1).bind fun t104 => (some (t104, true))) else (some (([] : List Int), false)))) else (some (([] : List Int), false)))
theorem impl_LeadsIn.mono : ∀ a0 a1 a2 a3 k, LeO (impl_LeadsIn.f k a0 a1 a2 a3) (impl_LeadsIn.f (k + 1) a0 a1 a2 a3) := by
  intro a0 a1 a2 a3 k
  unfold impl_LeadsIn.f
  repeat' first
      | (with_reducible exact impl_Control_ledBy.mono _ _ _ _ _)
      | (with_reducible exact impl_isControl.mono _ _ _ _)
      | (with_reducible exact LeO.refl _)
      | (with_reducible exact LeO.none _)
      | (with_reducible refine LeO.ite ?_ ?_)
      | (with_reducible refine LeO.bind ?_ (fun _ => ?_))
      | exact impl_Control_ledBy.mono _ _ _ _ _
      | exact impl_isControl.mono _ _ _ _
      | exact LeO.none _
      | refine LeO.ite ?_ ?_
      | refine LeO.bind ?_ (fun _ => ?_)
def spec_OfflineParts.l0 : Nat → List Int → List (S85) → Int → Int → Option (List Int × Bool)
  | 0, _, _, _, _ => none
  | k + 1, x4, x11, x12, x13 => if x13 < x12 then (if 0 ≤ x13 then (if x13 < (x11.length : Int) then (if ((rd_T85 x11 x13).f2) = (-1) then (if x4.length < 17592186044416 then (spec_OfflineParts.l0 k (x4 ++ [x13]) x11 x12 (wrap64 (x13 + 1))) else (none)) else (spec_OfflineParts.l0 k x4 x11 x12 (wrap64 (x13 + 1)))) else (none)) else (none)) else (some (x4, true))
def spec_OfflineParts.f (k : Nat) (l0_0 : List (S67)) (l0_1 : List (S85)) (a0_2 : Int) : Option (List Int × Bool) := (spec_GoodControl.f k l0_0 l0_1 a0_2).bind fun t102 => (if t102 = true then (spec_OfflineParts.l0 k ([] : List Int) l0_1 (l0_1.length : Int) 0) else (some (([] : List Int), false)))
theorem spec_OfflineParts.mono_l : ∀ k, (∀ y0 y1 y2 y3, LeO (spec_OfflineParts.l0 k y0 y1 y2 y3) (spec_OfflineParts.l0 (k + 1) y0 y1 y2 y3))
  | 0 => fun _ _ _ _ r h => by simp [spec_OfflineParts.l0] at h
  | k + 1 => by
    have ih0 := spec_OfflineParts.mono_l k
    · intro y0 y1 y2 y3
      unfold spec_OfflineParts.l0
      repeat' first
      | (with_reducible exact ih0 _ _ _ _)
      | (with_reducible exact spec_GoodControl.mono _ _ _ _)
      | (with_reducible exact LeO.refl _)
      | (with_reducible exact LeO.none _)
      | (with_reducible refine LeO.ite ?_ ?_)
      | (with_reducible refine LeO.bind ?_ (fun _ => ?_))
      | exact ih0 _ _ _ _
      | exact spec_GoodControl.mono _ _ _ _
      | exact LeO.none _
      | refine LeO.ite ?_ ?_
      | refine LeO.bind ?_ (fun _ => ?_)
theorem spec_OfflineParts.mono : ∀ a0 a1 a2 k, LeO (spec_OfflineParts.f k a0 a1 a2) (spec_OfflineParts.f (k + 1) a0 a1 a2) := by
  intro a0 a1 a2 k
  have ih0 := spec_OfflineParts.mono_l k
  unfold spec_OfflineParts.f
  repeat' first
      | (with_reducible exact ih0 _ _ _ _)
      | (with_reducible exact spec_GoodControl.mono _ _ _ _)
      | (with_reducible exact LeO.refl _)
      | (with_reducible exact LeO.none _)
      | (with_reducible refine LeO.ite ?_ ?_)
      | (with_reducible refine LeO.bind ?_ (fun _ => ?_))
      | exact ih0 _ _ _ _
      | exact spec_GoodControl.mono _ _ _ _
      | exact LeO.none _
      | refine LeO.ite ?_ ?_
      | refine LeO.bind ?_ (fun _ => ?_)
def impl_OfflineParts.f (k : Nat) (l0_0 : List (S67)) (l0_1 : List (S85)) (a0_2 : Int) : Option (List Int × Bool) := (impl_isControl.f k l0_0 l0_1 a0_2).bind fun t102 => (if t102 = true then ((impl_Control_ledBy.f k l0_0 l0_1 a0_2 (-1)).bind fun t103 => (some (t103, true))) else (some (([] : List Int), false)))
theorem impl_OfflineParts.mono : ∀ a0 a1 a2 k, LeO (impl_OfflineParts.f k a0 a1 a2) (impl_OfflineParts.f (k + 1) a0 a1 a2) := by
  intro a0 a1 a2 k
  unfold impl_OfflineParts.f
  repeat' first
      | (with_reducible exact impl_Control_ledBy.mono _ _ _ _ _)
      | (with_reducible exact impl_isControl.mono _ _ _ _)
      | (with_reducible exact LeO.refl _)
      | (with_reducible exact LeO.none _)
      | (with_reducible refine LeO.ite ?_ ?_)
      | (with_reducible refine LeO.bind ?_ (fun _ => ?_))
      | exact impl_Control_ledBy.mono _ _ _ _ _
      | exact impl_isControl.mono _ _ _ _
      | exact LeO.none _
      | refine LeO.ite ?_ ?_
      | refine LeO.bind ?_ (fun _ => ?_)
def laws_szChan.f (a0_0 : Int) (a0_1 : Int) (l0_2 : List Int) (a1 : Int) : Option (Int) := (laws_szIntS.f l0_2 a1).bind fun t102 => (if t102 < 0 then (some (-1)) else (some t102))
def laws_szChanS.l0 : Nat → List (S116) → Int → Int → Option (Int)
  | 0, _, _, _ => none
  | k + 1, x0, x1, x5 => if x5 < (x0.length : Int) then (if 0 ≤ x5 then ((laws_szChan.f ((rd_T116 x0 x5).f0) ((rd_T116 x0 x5).f1) ((rd_T116 x0 x5).f2) x1).bind fun t102 => (if t102 < 0 then (some (-1)) else (laws_szChanS.l0 k x0 t102 (wrap64 (x5 + 1))))) else (none)) else (some x1)
def laws_szChanS.f (k : Nat) (l0 : List (S116)) (a1 : Int) : Option (Int) := if (wrap64 (a1 - (l0.length : Int))) < 0 then (some (-1)) else (laws_szChanS.l0 k l0 (wrap64 (a1 - (l0.length : Int))) 0)
theorem laws_szChanS.mono_l : ∀ k, (∀ y0 y1 y2, LeO (laws_szChanS.l0 k y0 y1 y2) (laws_szChanS.l0 (k + 1) y0 y1 y2))
  | 0 => fun _ _ _ r h => by simp [laws_szChanS.l0] at h
  | k + 1 => by
    have ih0 := laws_szChanS.mono_l k
    · intro y0 y1 y2
      unfold laws_szChanS.l0
      repeat' first
      | (with_reducible exact ih0 _ _ _)
      | (with_reducible exact LeO.refl _)
      | (with_reducible exact LeO.none _)
      | (with_reducible refine LeO.ite ?_ ?_)
      | (with_reducible refine LeO.bind ?_ (fun _ => ?_))
      | exact ih0 _ _ _
      | exact LeO.none _
      | refine LeO.ite ?_ ?_
      | refine LeO.bind ?_ (fun _ => ?_)
theorem laws_szChanS.mono : ∀ a0 a1 k, LeO (laws_szChanS.f k a0 a1) (laws_szChanS.f (k + 1) a0 a1) := by
  intro a0 a1 k
  have ih0 := laws_szChanS.mono_l k
  unfold laws_szChanS.f
  repeat' first
      | (with_reducible exact ih0 _ _ _)
      | (with_reducible exact LeO.refl _)
      | (with_reducible exact LeO.none _)
      | (with_reducible refine LeO.ite ?_ ?_)
      | (with_reducible refine LeO.bind ?_ (fun _ => ?_))
      | exact ih0 _ _ _
      | exact LeO.none _
      | refine LeO.ite ?_ ?_
      | refine LeO.bind ?_ (fun _ => ?_)
end Go.Proofs.Ytmkiffemanmgcaa.P
end
