/- Mem0: tests of a number between two others; rising lists. -/
import Derived.Test.YtinbfclfglogmaaPx1
import Derived.Test.YtinbfclfglogmaaSets
namespace Go.Proofs.Ytinbfclfglogmaa.Mem
open Go.RowKit Go.Proofs.Ytinbfclfglogmaa.P Go.Proofs.YtinbfclfglogmaaW.PrintWords Go.Proofs.YtinbfclfglogmaaW.PrintLast Go.Proofs.YtinbfclfglogmaaW.PrintMore
open Go.Proofs.Ytinbfclfglogmaa.Pl Go.Proofs.Ytinbfclfglogmaa.EvN Go.Proofs.Ytinbfclfglogmaa.Lp Go.Proofs.Ytinbfclfglogmaa.Sets
set_option linter.unusedSimpArgs false
set_option linter.unusedVariables false

theorem in_f (a b c : Int) : impl_in.f a b c = some (decide (b ≤ a ∧ a ≤ c)) := by
  unfold impl_in.f
  by_cases h : a ≥ b
  · rw [if_pos h]; congr 1; rw [decide_eq_decide]; omega
  · rw [if_neg h]; congr 1; symm; rw [decide_eq_false_iff_not]; omega
theorem l1In_f (a b c : Int) : spec_l1In.f a b c = some (decide (b ≤ a ∧ a ≤ c)) := by
  unfold spec_l1In.f
  by_cases h : a ≥ b
  · rw [if_pos h]; congr 1; rw [decide_eq_decide]; omega
  · rw [if_neg h]; congr 1; symm; rw [decide_eq_false_iff_not]; omega
theorem l1_at {pre t l : List (List Int)} {h : List Int} (e : pre ++ h :: t = l) : rd_L1 l (pre.length : Int) = h := getD_at e _
theorem if_self (b : Bool) : (if b = true then true else false) = b := by cases b <;> rfl
theorem rises_no {many : Int} {pre : List Int} {h : Int} (hp : rises many pre h = false) (h0 : 0 ≤ h) (h1 : h < many) : ∃ q, pre.getLast? = some q ∧ h ≤ q := by
  unfold rises at hp
  cases e : pre.getLast? with
  | none => rw [e] at hp; simp at hp; omega
  | some q =>
    rw [e] at hp
    simp at hp
    exact ⟨q, rfl, by omega⟩
theorem rises_yes {many : Int} {pre : List Int} {h : Int} (hp : rises many pre h = true) : (0 ≤ h ∧ h < many) ∧ ∀ q, pre.getLast? = some q → q < h := by
  unfold rises at hp
  simp only [Bool.and_eq_true, decide_eq_true_eq] at hp
  refine ⟨hp.1, fun q e => ?_⟩
  have h2 := hp.2
  rw [e] at h2
  simpa using h2
theorem last_cases {α : Type} (pre : List α) : pre = [] ∨ ∃ q, pre.getLast? = some q := by
  cases e : pre.getLast? with
  | none => exact .inl (no_last e)
  | some q => exact .inr ⟨q, rfl⟩
end Go.Proofs.Ytinbfclfglogmaa.Mem
