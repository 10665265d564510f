-- Written by programs of this session (wip/prune.py, wip/xp.py), out of the translation and the printed words; what the law does not reach is left out. Not trusted: Lean checks it.
import Derived.Test.YtmkiffemanmgcaaZXGoodControlPx0
import Derived.Test.YtmkiffemanmgcaaZXGoodControlPx1
import Derived.Test.YtmkiffemanmgcaaZXGoodControlPx3
section
namespace Go.Proofs.Ytmkiffemanmgcaa.P
open Go.RowKit Go.Proofs.YtmkiffemanmgcaaW.PrintWords Go.Proofs.YtmkiffemanmgcaaW.PrintLast Go.Proofs.YtmkiffemanmgcaaW.PrintMore
attribute [local go_sem] max2_int min2_int max_two min_two max_three min_three max_four min_four   -- for this text's walks alone
set_option linter.unusedVariables false
set_option linter.unusedSimpArgs false
def spec_NewControl.l0 : Nat → Int → Int → List (S67) → Int → Option ((List (S67)) × (List (S85)) × Int × Bool)
  | 0, _, _, _, _ => none
  | k + 1, x0, x5, x104000, x104002 => if x5 < x0 then (if x104000.length < 5864062014805 then (spec_NewControl.l0 k x0 (wrap64 (x5 + 1)) (x104000 ++ [(⟨0, 0, true⟩ : S67)]) x104002) else (none)) else (some (x104000, ([] : List (S85)), x104002, true))
def spec_NewControl.f (k : Nat) (a0 : Int) : Option ((List (S67)) × (List (S85)) × Int × Bool) := (spec_l1In.f a0 1 6).bind fun t102 => (if t102 = true then (spec_NewControl.l0 k a0 0 ([] : List (S67)) 1) else (some (([] : List (S67)), ([] : List (S85)), 0, false)))
theorem spec_NewControl.mono_l : ∀ k, (∀ y0 y1 y2 y3, LeO (spec_NewControl.l0 k y0 y1 y2 y3) (spec_NewControl.l0 (k + 1) y0 y1 y2 y3))
  | 0 => fun _ _ _ _ r h => by simp [spec_NewControl.l0] at h
  | k + 1 => by
    have ih0 := spec_NewControl.mono_l k
    · intro y0 y1 y2 y3
      unfold spec_NewControl.l0
      repeat' first
      | (with_reducible exact ih0 _ _ _ _)
      | (with_reducible exact LeO.refl _)
      | (with_reducible exact LeO.none _)
      | (with_reducible refine LeO.ite ?_ ?_)
      | (with_reducible refine LeO.bind ?_ (fun _ => ?_))
      | exact ih0 _ _ _ _
      | exact LeO.none _
      | refine LeO.ite ?_ ?_
      | refine LeO.bind ?_ (fun _ => ?_)
theorem spec_NewControl.mono : ∀ a0 k, LeO (spec_NewControl.f k a0) (spec_NewControl.f (k + 1) a0) := by
  intro a0 k
  have ih0 := spec_NewControl.mono_l k
  unfold spec_NewControl.f
  repeat' first
      | (with_reducible exact ih0 _ _ _ _)
      | (with_reducible exact LeO.refl _)
      | (with_reducible exact LeO.none _)
      | (with_reducible refine LeO.ite ?_ ?_)
      | (with_reducible refine LeO.bind ?_ (fun _ => ?_))
      | exact ih0 _ _ _ _
      | exact LeO.none _
      | refine LeO.ite ?_ ?_
      | refine LeO.bind ?_ (fun _ => ?_)
def impl_newControl.l0 : Nat → Int → Int → List (S67) → Int → Option ((List (S67)) × (List (S85)) × Int)
  | 0, _, _, _, _ => none
  | k + 1, x5, x6, x103000, x103002 => if x6 < x5 then (if x103000.length < 5864062014805 then (impl_newControl.l0 k x5 (wrap64 (x6 + 1)) (x103000 ++ [(⟨0, 0, true⟩ : S67)]) x103002) else (none)) else (some (x103000, ([] : List (S85)), x103002))
def impl_newControl.f (k : Nat) (a0 : Int) : Option ((List (S67)) × (List (S85)) × Int) := impl_newControl.l0 k a0 0 ([] : List (S67)) 1
theorem impl_newControl.mono_l : ∀ k, (∀ y0 y1 y2 y3, LeO (impl_newControl.l0 k y0 y1 y2 y3) (impl_newControl.l0 (k + 1) y0 y1 y2 y3))
  | 0 => fun _ _ _ _ r h => by simp [impl_newControl.l0] at h
  | k + 1 => by
    have ih0 := impl_newControl.mono_l k
    · intro y0 y1 y2 y3
      unfold impl_newControl.l0
      repeat' first
      | (with_reducible exact ih0 _ _ _ _)
      | (with_reducible exact LeO.refl _)
      | (with_reducible exact LeO.none _)
      | (with_reducible refine LeO.ite ?_ ?_)
      | (with_reducible refine LeO.bind ?_ (fun _ => ?_))
      | exact ih0 _ _ _ _
      | exact LeO.none _
      | refine LeO.ite ?_ ?_
      | refine LeO.bind ?_ (fun _ => ?_)
theorem impl_newControl.mono : ∀ a0 k, LeO (impl_newControl.f k a0) (impl_newControl.f (k + 1) a0) := by
  intro a0 k
  have ih0 := impl_newControl.mono_l k
  unfold impl_newControl.f
  repeat' first
      | (with_reducible exact ih0 _ _ _ _)
      | (with_reducible exact LeO.refl _)
      | (with_reducible exact LeO.none _)
      | (with_reducible refine LeO.ite ?_ ?_)
      | (with_reducible refine LeO.bind ?_ (fun _ => ?_))
      | exact ih0 _ _ _ _
      | exact LeO.none _
      | refine LeO.ite ?_ ?_
      | refine LeO.bind ?_ (fun _ => ?_)
def impl_NewControl.f (k : Nat) (a0 : Int) : Option ((List (S67)) × (List (S85)) × Int × Bool) := (impl_in.f a0 1 6).bind fun t102 => (if t102 = true then ((impl_newControl.f k a0).bind fun bt103 => (some (bt103.1, bt103.2.1, bt103.2.2, true))) else (some (([] : List (S67)), ([] : List (S85)), 0, false)))
theorem impl_NewControl.mono : ∀ a0 k, LeO (impl_NewControl.f k a0) (impl_NewControl.f (k + 1) a0) := by
  intro a0 k
  unfold impl_NewControl.f
  repeat' first
      | (with_reducible exact impl_newControl.mono _ _)
      | (with_reducible exact LeO.refl _)
      | (with_reducible exact LeO.none _)
      | (with_reducible refine LeO.ite ?_ ?_)
      | (with_reducible refine LeO.bind ?_ (fun _ => ?_))
      | exact impl_newControl.mono _ _
      | exact LeO.none _
      | refine LeO.ite ?_ ?_
      | refine LeO.bind ?_ (fun _ => ?_)
def laws_markBrokerS.l0 : Nat → List (S67) → Int → Int → Option (Int × (List (S67)))
  | 0, _, _, _ => none
  | k + 1, x0, x1, x5 => if x5 < (x0.length : Int) then (if 0 ≤ x5 then ((some (x0.set (x5 : Int).toNat (⟨x1, (rd_T67 x0 x5).f1, (rd_T67 x0 x5).f2⟩ : S67) : List (S67))).bind fun y101 => ((some (y101.set (x5 : Int).toNat (⟨(rd_T67 y101 x5).f0, wrap64 (x1 + 1), (rd_T67 y101 x5).f2⟩ : S67) : List (S67))).bind fun y102 => (laws_markBrokerS.l0 k (y102.set (x5 : Int).toNat (⟨(rd_T67 y102 x5).f0, (rd_T67 y102 x5).f1, ((Int.tmod (wrap64 ((wrap64 (x1 + 1)) + 1)) 3) == 0)⟩ : S67)) (wrap64 ((wrap64 ((wrap64 (x1 + 1)) + 1)) + 1)) (wrap64 (x5 + 1))))) else (none)) else (some (x1, x0))
def laws_markBrokerS.f (k : Nat) (l0 : List (S67)) (a1 : Int) : Option (Int × (List (S67))) := laws_markBrokerS.l0 k l0 a1 0
theorem laws_markBrokerS.mono_l : ∀ k, (∀ y0 y1 y2, LeO (laws_markBrokerS.l0 k y0 y1 y2) (laws_markBrokerS.l0 (k + 1) y0 y1 y2))
  | 0 => fun _ _ _ r h => by simp [laws_markBrokerS.l0] at h
  | k + 1 => by
    have ih0 := laws_markBrokerS.mono_l k
    · intro y0 y1 y2
      unfold laws_markBrokerS.l0
      repeat' first
      | (with_reducible exact ih0 _ _ _)
      | (with_reducible exact LeO.refl _)
      | (with_reducible exact LeO.none _)
      | (with_reducible refine LeO.ite ?_ ?_)
      | (with_reducible refine LeO.bind ?_ (fun _ => ?_))
      | exact ih0 _ _ _
      | exact LeO.none _
      | refine LeO.ite ?_ ?_
      | refine LeO.bind ?_ (fun _ => ?_)
theorem laws_markBrokerS.mono : ∀ a0 a1 k, LeO (laws_markBrokerS.f k a0 a1) (laws_markBrokerS.f (k + 1) a0 a1) := by
  intro a0 a1 k
  have ih0 := laws_markBrokerS.mono_l k
  unfold laws_markBrokerS.f
  repeat' first
      | (with_reducible exact ih0 _ _ _)
      | (with_reducible exact LeO.refl _)
      | (with_reducible exact LeO.none _)
      | (with_reducible refine LeO.ite ?_ ?_)
      | (with_reducible refine LeO.bind ?_ (fun _ => ?_))
      | exact ih0 _ _ _
      | exact LeO.none _
      | refine LeO.ite ?_ ?_
      | refine LeO.bind ?_ (fun _ => ?_)
def laws_markIntS.l0 : Nat → List Int → Int → Int → Option (Int × List Int)
  | 0, _, _, _ => none
  | k + 1, x0, x1, x5 => if x5 < (x0.length : Int) then (if 0 ≤ x5 then (laws_markIntS.l0 k (x0.set (x5 : Int).toNat x1) (wrap64 (x1 + 1)) (wrap64 (x5 + 1))) else (none)) else (some (x1, x0))
def laws_markIntS.f (k : Nat) (l0 : List Int) (a1 : Int) : Option (Int × List Int) := laws_markIntS.l0 k l0 a1 0
theorem laws_markIntS.mono_l : ∀ k, (∀ y0 y1 y2, LeO (laws_markIntS.l0 k y0 y1 y2) (laws_markIntS.l0 (k + 1) y0 y1 y2))
  | 0 => fun _ _ _ r h => by simp [laws_markIntS.l0] at h
  | k + 1 => by
    have ih0 := laws_markIntS.mono_l k
    · intro y0 y1 y2
      unfold laws_markIntS.l0
      repeat' first
      | (with_reducible exact ih0 _ _ _)
      | (with_reducible exact LeO.refl _)
      | (with_reducible exact LeO.none _)
      | (with_reducible refine LeO.ite ?_ ?_)
      | (with_reducible refine LeO.bind ?_ (fun _ => ?_))
      | exact ih0 _ _ _
      | exact LeO.none _
      | refine LeO.ite ?_ ?_
      | refine LeO.bind ?_ (fun _ => ?_)
theorem laws_markIntS.mono : ∀ a0 a1 k, LeO (laws_markIntS.f k a0 a1) (laws_markIntS.f (k + 1) a0 a1) := by
  intro a0 a1 k
  have ih0 := laws_markIntS.mono_l k
  unfold laws_markIntS.f
  repeat' first
      | (with_reducible exact ih0 _ _ _)
      | (with_reducible exact LeO.refl _)
      | (with_reducible exact LeO.none _)
      | (with_reducible refine LeO.ite ?_ ?_)
      | (with_reducible refine LeO.bind ?_ (fun _ => ?_))
      | exact ih0 _ _ _
      | exact LeO.none _
      | refine LeO.ite ?_ ?_
      | refine LeO.bind ?_ (fun _ => ?_)
end Go.Proofs.Ytmkiffemanmgcaa.P
end
