-- Written by programs of this session (wip/prune.py, wip/xp.py), out of the translation and the printed words; what the law does not reach is left out. Not trusted: Lean checks it.
import Derived.Test.YtmkiffemanmgcaaZXGoodControlPx0
import Derived.Test.YtmkiffemanmgcaaZXGoodControlPx1
import Derived.Test.YtmkiffemanmgcaaZXGoodControlPx2
import Derived.Test.YtmkiffemanmgcaaZXGoodControlPx9
section
namespace Go.Proofs.Ytmkiffemanmgcaa.P
open Go.RowKit Go.Proofs.YtmkiffemanmgcaaW.PrintWords Go.Proofs.YtmkiffemanmgcaaW.PrintLast Go.Proofs.YtmkiffemanmgcaaW.PrintMore
attribute [local go_sem] max2_int min2_int max_two min_two max_three min_three max_four min_four   -- for this text's walks alone
set_option linter.unusedVariables false
set_option linter.unusedSimpArgs false
def impl_NewSnap.f (k : Nat) (a0 : Int) (a1 : Int) : Option (List Int × (List (S94)) × (List (S76)) × Int × Int × Bool) := (impl_in.f a0 2 4).bind fun t102 => (if t102 = true then ((impl_in.f a1 0 250).bind fun t103 => (if t103 = true then ((impl_newSnap.f k a0 a1).bind fun bt104 => (some (bt104.1, bt104.2.1, bt104.2.2.1, bt104.2.2.2.1, bt104.2.2.2.2, true))) else (some (([] : List Int), ([] : List (S94)), ([] : List (S76)), 0, 0, false)))) else (some (([] : List Int), ([] : List (S94)), ([] : List (S76)), 0, 0, false)))
theorem impl_NewSnap.mono : ∀ a0 a1 k, LeO (impl_NewSnap.f k a0 a1) (impl_NewSnap.f (k + 1) a0 a1) := by
  intro a0 a1 k
  unfold impl_NewSnap.f
  repeat' first
      | (with_reducible exact impl_newSnap.mono _ _ _)
      | (with_reducible exact LeO.refl _)
      | (with_reducible exact LeO.none _)
      | (with_reducible refine LeO.ite ?_ ?_)
      | (with_reducible refine LeO.bind ?_ (fun _ => ?_))
      | exact impl_newSnap.mono _ _ _
      | exact LeO.none _
      | refine LeO.ite ?_ ?_
      | refine LeO.bind ?_ (fun _ => ?_)
def laws_eqChan.f (k : Nat) (a0_0 : Int) (a0_1 : Int) (l0_2 : List Int) (a1_0 : Int) (a1_1 : Int) (l1_2 : List Int) : Option (Bool) := if a0_0 = a1_0 then (if a0_1 = a1_1 then ((laws_eqIntS.f k l0_2 l1_2).bind fun t103 => (if t103 = true then (some true) else (some false))) else (some false)) else (some false)
theorem laws_eqChan.mono : ∀ a0 a1 a2 a3 a4 a5 k, LeO (laws_eqChan.f k a0 a1 a2 a3 a4 a5) (laws_eqChan.f (k + 1) a0 a1 a2 a3 a4 a5) := by
  intro a0 a1 a2 a3 a4 a5 k
  unfold laws_eqChan.f
  repeat' first
      | (with_reducible exact laws_eqIntS.mono _ _ _)
      | (with_reducible exact LeO.refl _)
      | (with_reducible exact LeO.none _)
      | (with_reducible refine LeO.ite ?_ ?_)
      | (with_reducible refine LeO.bind ?_ (fun _ => ?_))
      | exact laws_eqIntS.mono _ _ _
      | exact LeO.none _
      | refine LeO.ite ?_ ?_
      | refine LeO.bind ?_ (fun _ => ?_)
def laws_eqChanS.l0 : Nat → List (S94) → List (S94) → Int → Option (Bool)
  | 0, _, _, _ => none
  | k + 1, x0, x1, x5 => if x5 < (x0.length : Int) then (if 0 ≤ x5 then (if x5 < (x1.length : Int) then ((laws_eqChan.f k ((rd_T94 x0 x5).f0) ((rd_T94 x0 x5).f1) ((rd_T94 x0 x5).f2) ((rd_T94 x1 x5).f0) ((rd_T94 x1 x5).f1) ((rd_T94 x1 x5).f2)).bind fun t103 => (if t103 = true then (laws_eqChanS.l0 k x0 x1 (wrap64 (x5 + 1))) else (some false))) else (none)) else (none)) else (some true)
def laws_eqChanS.f (k : Nat) (l0 : List (S94)) (l1 : List (S94)) : Option (Bool) := if (l0.length : Int) = (l1.length : Int) then (laws_eqChanS.l0 k l0 l1 0) else (some false)
theorem laws_eqChanS.mono_l : ∀ k, (∀ y0 y1 y2, LeO (laws_eqChanS.l0 k y0 y1 y2) (laws_eqChanS.l0 (k + 1) y0 y1 y2))
  | 0 => fun _ _ _ r h => by simp [laws_eqChanS.l0] at h
  | k + 1 => by
    have ih0 := laws_eqChanS.mono_l k
    · intro y0 y1 y2
      unfold laws_eqChanS.l0
      repeat' first
      | (with_reducible exact ih0 _ _ _)
      | (with_reducible exact laws_eqChan.mono _ _ _ _ _ _ _)
      | (with_reducible exact LeO.refl _)
      | (with_reducible exact LeO.none _)
      | (with_reducible refine LeO.ite ?_ ?_)
      | (with_reducible refine LeO.bind ?_ (fun _ => ?_))
      | exact ih0 _ _ _
      | exact laws_eqChan.mono _ _ _ _ _ _ _
      | exact LeO.none _
      | refine LeO.ite ?_ ?_
      | refine LeO.bind ?_ (fun _ => ?_)
theorem laws_eqChanS.mono : ∀ a0 a1 k, LeO (laws_eqChanS.f k a0 a1) (laws_eqChanS.f (k + 1) a0 a1) := by
  intro a0 a1 k
  have ih0 := laws_eqChanS.mono_l k
  unfold laws_eqChanS.f
  repeat' first
      | (with_reducible exact ih0 _ _ _)
      | (with_reducible exact laws_eqChan.mono _ _ _ _ _ _ _)
      | (with_reducible exact LeO.refl _)
      | (with_reducible exact LeO.none _)
      | (with_reducible refine LeO.ite ?_ ?_)
      | (with_reducible refine LeO.bind ?_ (fun _ => ?_))
      | exact ih0 _ _ _
      | exact laws_eqChan.mono _ _ _ _ _ _ _
      | exact LeO.none _
      | refine LeO.ite ?_ ?_
      | refine LeO.bind ?_ (fun _ => ?_)
def laws_eqChanS.T6 : Bool × List (List Nat × List Nat) := (true, [([], []), ([], []), ([0, 1], [0, 1]), ([2], [2]), ([], []), ([], []), ([4, 5], [4, 5]), ([6], [6]), ([3, 7], [3, 7]), ([8], [8])])
def laws_eqChanS.B6 : List Nat := [0, 0, 3, 7, 0, 0, 48, 112, 255, 511]
theorem laws_eqChanS.tab6 : rtab .any (opsOf Try.f54 6) = laws_eqChanS.T6 := by kernel_rfl
theorem laws_eqChanS.bits6 : waitsOk laws_eqChanS.T6.2 laws_eqChanS.B6 = true := by kernel_rfl
end Go.Proofs.Ytmkiffemanmgcaa.P
end
