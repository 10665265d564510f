-- Written by programs of this session (wip/prune.py, wip/xp.py), out of the translation and the printed words; what the law does not reach is left out. Not trusted: Lean checks it.
import Derived.Test.YtmkiffemanmgcaaZXGoodControlPx0
section
namespace Go.Proofs.Ytmkiffemanmgcaa.P
open Go.RowKit Go.Proofs.YtmkiffemanmgcaaW.PrintWords Go.Proofs.YtmkiffemanmgcaaW.PrintLast Go.Proofs.YtmkiffemanmgcaaW.PrintMore
attribute [local go_sem] max2_int min2_int max_two min_two max_three min_three max_four min_four   -- for this text's walks alone
set_option linter.unusedVariables false
set_option linter.unusedSimpArgs false
mutual
def impl_newSnap.l0 : Nat → Int → Int → Int → Int → List Int → List (S94) → List (S76) → Int → Int → Option (List Int × (List (S94)) × (List (S76)) × Int × Int)
  | 0, _, _, _, _, _, _, _, _, _ => none
  | k + 1, x0, x1, x12, x13, x103000, x103001, x103002, x103003, x103004 => if x13 < x12 then (if x103000.length < 17592186044416 then (if 0 ≤ x0 then (if (x0 : Int).toNat ≤ 35184372088832 then (if (x0 : Int).toNat ≤ 281474976710656 then (if x103002.length < 2199023255552 then (impl_newSnap.l1 k x0 x1 x13 x12 x13 x0 0 (x103000 ++ [x1]) x103001 (x103002 ++ [(⟨false, 0, (List.replicate (x0 : Int).toNat 0), (List.replicate (x0 : Int).toNat false)⟩ : S76)]) x103003 x103004) else (none)) else (none)) else (none)) else (none)) else (none)) else (some (x103000, x103001, x103002, x103003, x103004))
def impl_newSnap.l1 : Nat → Int → Int → Int → Int → Int → Int → Int → List Int → List (S94) → List (S76) → Int → Int → Option (List Int × (List (S94)) × (List (S76)) × Int × Int)
  | 0, _, _, _, _, _, _, _, _, _, _, _, _ => none
  | k + 1, x0, x1, x6, x12, x13, x32, x33, x103000, x103001, x103002, x103003, x103004 => if x33 < x32 then (if x33 = x6 then (impl_newSnap.l1 k x0 x1 x6 x12 x13 x32 (wrap64 (x33 + 1)) x103000 x103001 x103002 x103003 x103004) else (if x103001.length < 3518437208883 then (impl_newSnap.l1 k x0 x1 x6 x12 x13 x32 (wrap64 (x33 + 1)) x103000 (x103001 ++ [(⟨x6, x33, ([] : List Int)⟩ : S94)]) x103002 x103003 x103004) else (none))) else (impl_newSnap.l0 k x0 x1 x12 (wrap64 (x13 + 1)) x103000 x103001 x103002 x103003 x103004)
end
def impl_newSnap.f (k : Nat) (a0 : Int) (a1 : Int) : Option (List Int × (List (S94)) × (List (S76)) × Int × Int) := impl_newSnap.l0 k a0 a1 a0 0 ([] : List Int) ([] : List (S94)) ([] : List (S76)) 0 (wrap64 (a0 * a1))
theorem impl_newSnap.mono_l : ∀ k, (∀ y0 y1 y2 y3 y4 y5 y6 y7 y8, LeO (impl_newSnap.l0 k y0 y1 y2 y3 y4 y5 y6 y7 y8) (impl_newSnap.l0 (k + 1) y0 y1 y2 y3 y4 y5 y6 y7 y8)) ∧ (∀ y0 y1 y2 y3 y4 y5 y6 y7 y8 y9 y10 y11, LeO (impl_newSnap.l1 k y0 y1 y2 y3 y4 y5 y6 y7 y8 y9 y10 y11) (impl_newSnap.l1 (k + 1) y0 y1 y2 y3 y4 y5 y6 y7 y8 y9 y10 y11))
  | 0 => ⟨fun _ _ _ _ _ _ _ _ _ r h => by simp [impl_newSnap.l0] at h, fun _ _ _ _ _ _ _ _ _ _ _ _ r h => by simp [impl_newSnap.l1] at h⟩
  | k + 1 => by
    obtain ⟨ih0, ih1⟩ := impl_newSnap.mono_l k
    refine ⟨?_, ?_⟩
    · intro y0 y1 y2 y3 y4 y5 y6 y7 y8
      unfold impl_newSnap.l0
      repeat' first
      | (with_reducible exact ih0 _ _ _ _ _ _ _ _ _)
      | (with_reducible exact ih1 _ _ _ _ _ _ _ _ _ _ _ _)
      | (with_reducible exact LeO.refl _)
      | (with_reducible exact LeO.none _)
      | (with_reducible refine LeO.ite ?_ ?_)
      | (with_reducible refine LeO.bind ?_ (fun _ => ?_))
      | exact ih0 _ _ _ _ _ _ _ _ _
      | exact ih1 _ _ _ _ _ _ _ _ _ _ _ _
      | exact LeO.none _
      | refine LeO.ite ?_ ?_
      | refine LeO.bind ?_ (fun _ => ?_)
    · intro y0 y1 y2 y3 y4 y5 y6 y7 y8 y9 y10 y11
      unfold impl_newSnap.l1
      repeat' first
      | (with_reducible exact ih0 _ _ _ _ _ _ _ _ _)
      | (with_reducible exact ih1 _ _ _ _ _ _ _ _ _ _ _ _)
      | (with_reducible exact LeO.refl _)
      | (with_reducible exact LeO.none _)
      | (with_reducible refine LeO.ite ?_ ?_)
      | (with_reducible refine LeO.bind ?_ (fun _ => ?_))
      | exact ih0 _ _ _ _ _ _ _ _ _
      | exact ih1 _ _ _ _ _ _ _ _ _ _ _ _
      | exact LeO.none _
      | refine LeO.ite ?_ ?_
      | refine LeO.bind ?_ (fun _ => ?_)
theorem impl_newSnap.mono : ∀ a0 a1 k, LeO (impl_newSnap.f k a0 a1) (impl_newSnap.f (k + 1) a0 a1) := by
  intro a0 a1 k
  obtain ⟨ih0, ih1⟩ := impl_newSnap.mono_l k
  unfold impl_newSnap.f
  repeat' first
      | (with_reducible exact ih0 _ _ _ _ _ _ _ _ _)
      | (with_reducible exact ih1 _ _ _ _ _ _ _ _ _ _ _ _)
      | (with_reducible exact LeO.refl _)
      | (with_reducible exact LeO.none _)
      | (with_reducible refine LeO.ite ?_ ?_)
      | (with_reducible refine LeO.bind ?_ (fun _ => ?_))
      | exact ih0 _ _ _ _ _ _ _ _ _
      | exact ih1 _ _ _ _ _ _ _ _ _ _ _ _
      | exact LeO.none _
      | refine LeO.ite ?_ ?_
      | refine LeO.bind ?_ (fun _ => ?_)
def impl_newSnap.T6 : Bool × List (List Nat × List Nat) := (true, [([], []), ([0], [0]), ([], []), ([2, 2], [2]), ([], []), ([4, 4], [4]), ([3, 5], [3, 5]), ([6], [6]), ([1, 7], [1, 7]), ([0, 1, 2, 3, 4, 5, 6, 7, 8], []), ([9, 8, 8, 0, 1, 2, 3, 4, 5, 6, 7, 8], [8, 9])])
def impl_newSnap.B6 : List Nat := [0, 1, 0, 4, 0, 16, 60, 124, 255, 511, 1023]
theorem impl_newSnap.tab6 : rtab .any (opsOf Try.f53 6) = impl_newSnap.T6 := by kernel_rfl
theorem impl_newSnap.bits6 : waitsOk impl_newSnap.T6.2 impl_newSnap.B6 = true := by kernel_rfl
end Go.Proofs.Ytmkiffemanmgcaa.P
end
