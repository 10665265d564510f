/- Mem: tests of members and of what is held in a list: what both programs' come to. -/
import Derived.Test.YtgcliajajcinpaaPx1
import Derived.Test.YtgcliajajcinpaaPx10
import Derived.Test.YtgcliajajcinpaaPx17
import Derived.Test.YtgcliajajcinpaaSets
namespace Go.Proofs.Ytgcliajajcinpaa.Mem
open Go.RowKit Go.Proofs.Ytgcliajajcinpaa.P Go.Proofs.YtgcliajajcinpaaW.PrintWords Go.Proofs.YtgcliajajcinpaaW.PrintLast Go.Proofs.YtgcliajajcinpaaW.PrintMore
open Go.Proofs.Ytgcliajajcinpaa.Pl Go.Proofs.Ytgcliajajcinpaa.EvN Go.Proofs.Ytgcliajajcinpaa.Lp Go.Proofs.Ytgcliajajcinpaa.Sets
set_option linter.unusedSimpArgs false
set_option linter.unusedVariables false

theorem in_f (a b c : Int) : impl_in.f a b c = some (decide (b ≤ a ∧ a ≤ c)) := by
  unfold impl_in.f
  by_cases h : a ≥ b
  · rw [if_pos h]; congr 1; rw [decide_eq_decide]; omega
  · rw [if_neg h]; congr 1; symm; rw [decide_eq_false_iff_not]; omega
theorem l1In_f (a b c : Int) : spec_l1In.f a b c = some (decide (b ≤ a ∧ a ≤ c)) := by
  unfold spec_l1In.f
  by_cases h : a ≥ b
  · rw [if_pos h]; congr 1; rw [decide_eq_decide]; omega
  · rw [if_neg h]; congr 1; symm; rw [decide_eq_false_iff_not]; omega
theorem l1_at {pre t l : List (List Int)} {h : List Int} (e : pre ++ h :: t = l) : rd_L1 l (pre.length : Int) = h := getD_at e _
theorem has_f (l : List Int) (n : Int) (hl : l.length ≤ 4611686018427387904) : Cm (fun k => spec_l1Has.f k l n) (decide (n ∈ l)) := by
  unfold spec_l1Has.f
  have := every_cm (L := fun k i => spec_l1Has.l0 k n l (l.length : Int) i) l (fun x => decide (x ≠ n)) (fin := false) (no := true) ?_ ?_ ?_
  · refine cm_val this ?_
    by_cases c : n ∈ l
    · simp [c]
    · simp [c]
      intro x hx e
      subst e
      exact c hx
  · intro pre h t e hlt hp v hv
    simp only [decide_eq_true_eq] at hp
    refine cm_step (fun k => by rw [spec_l1Has.l0]) ?_
    simp only [rd_at e, wrap_len hlt hl]
    repeat (first | assumption | exact cm_now (fun _ => rfl) | refine cm_yes (by first | omega | assumption | (simp; done) | (simp; omega)) ?_ | refine cm_no (by first | omega | assumption | (simp; done) | (simp; omega)) ?_)
  · intro pre h t e hlt hp
    simp only [decide_eq_false_iff_not, ne_eq, Decidable.not_not] at hp
    refine cm_step (fun k => by rw [spec_l1Has.l0]) ?_
    simp only [rd_at e, wrap_len hlt hl]
    repeat (first | assumption | exact cm_now (fun _ => rfl) | refine cm_yes (by first | omega | assumption | (simp; done) | (simp; omega)) ?_ | refine cm_no (by first | omega | assumption | (simp; done) | (simp; omega)) ?_)
  · intro _
    refine cm_step (fun k => by rw [spec_l1Has.l0]) ?_
    repeat (first | assumption | exact cm_now (fun _ => rfl) | refine cm_yes (by first | omega | assumption | (simp; done) | (simp; omega)) ?_ | refine cm_no (by first | omega | assumption | (simp; done) | (simp; omega)) ?_)
theorem if_self (b : Bool) : (if b = true then true else false) = b := by cases b <;> rfl
theorem rises_no {many : Int} {pre : List Int} {h : Int} (hp : rises many pre h = false) (h0 : 0 ≤ h) (h1 : h < many) : ∃ q, pre.getLast? = some q ∧ h ≤ q := by
  unfold rises at hp
  cases e : pre.getLast? with
  | none => rw [e] at hp; simp at hp; omega
  | some q =>
    rw [e] at hp
    simp at hp
    exact ⟨q, rfl, by omega⟩
theorem rises_yes {many : Int} {pre : List Int} {h : Int} (hp : rises many pre h = true) : (0 ≤ h ∧ h < many) ∧ ∀ q, pre.getLast? = some q → q < h := by
  unfold rises at hp
  simp only [Bool.and_eq_true, decide_eq_true_eq] at hp
  refine ⟨hp.1, fun q e => ?_⟩
  have h2 := hp.2
  rw [e] at h2
  simpa using h2
theorem last_cases {α : Type} (pre : List α) : pre = [] ∨ ∃ q, pre.getLast? = some q := by
  cases e : pre.getLast? with
  | none => exact .inl (no_last e)
  | some q => exact .inr ⟨q, rfl⟩
theorem group_f (l : List Int) (many : Int) (hl : l.length ≤ 4611686018427387904) : Cm (fun k => spec_l6Group.f k l many) (members many l) := by
  unfold spec_l6Group.f
  have := all_cm (L := fun k i => spec_l6Group.l0 k l many l (l.length : Int) i) l (rises many) (fin := true) (no := false) ?_ ?_ ?_
  · exact cm_val this (if_self _)
  · intro pre h t e hlt hp v hv
    obtain ⟨⟨h0, h1⟩, h2⟩ := rises_yes hp
    refine cm_step (fun k => by rw [spec_l6Group.l0]) ?_
    simp only [rd_at e, wrap_len hlt hl]
    refine cm_yes (by omega) (cm_yes (by omega) (cm_yes (by omega) (cm_no (by omega) (cm_no (by omega) ?_))))
    rcases last_cases pre with rfl | ⟨q, hq⟩
    · exact cm_no (by simp) hv
    · obtain ⟨h3, h4⟩ := rd_last e hq
      have h5 := h2 q hq
      rw [wrap_less h3 (by omega), h4]
      repeat (first | assumption | exact cm_now (fun _ => rfl) | refine cm_yes (by first | omega | assumption | (simp; done) | (simp; omega)) ?_ | refine cm_no (by first | omega | assumption | (simp; done) | (simp; omega)) ?_)
  · intro pre h t e hlt hp
    refine cm_step (fun k => by rw [spec_l6Group.l0]) ?_
    simp only [rd_at e, wrap_len hlt hl]
    refine cm_yes (by omega) (cm_yes (by omega) (cm_yes (by omega) ?_))
    refine cm_if (fun _ => cm_now fun _ => rfl) (fun c0 => cm_if (fun _ => cm_now fun _ => rfl) (fun c1 => ?_))
    obtain ⟨q, hq, h5⟩ := rises_no hp (by omega) (by omega)
    obtain ⟨h3, h4⟩ := rd_last e hq
    rw [wrap_less h3 (by omega), h4]
    repeat (first | assumption | exact cm_now (fun _ => rfl) | refine cm_yes (by first | omega | assumption | (simp; done) | (simp; omega)) ?_ | refine cm_no (by first | omega | assumption | (simp; done) | (simp; omega)) ?_)
  · intro _
    refine cm_step (fun k => by rw [spec_l6Group.l0]) ?_
    repeat (first | assumption | exact cm_now (fun _ => rfl) | refine cm_yes (by first | omega | assumption | (simp; done) | (simp; omega)) ?_ | refine cm_no (by first | omega | assumption | (simp; done) | (simp; omega)) ?_)
theorem areMembers_f (l : List Int) (many : Int) (hl : l.length ≤ 4611686018427387904) (hm : 0 ≤ many ∧ many ≤ 4611686018427387904) : Cm (fun k => impl_areMembers.f k l many) (members many l) := by
  have hw : wrap64 (many - 1) = many - 1 := wrap_in (by omega) (by omega)
  unfold impl_areMembers.f
  have := all_cm (L := fun k i => impl_areMembers.l0 k l many l (l.length : Int) i) l (rises many) (fin := true) (no := false) ?_ ?_ ?_
  · exact cm_val this (if_self _)
  · intro pre h t e hlt hp v hv
    obtain ⟨⟨h0, h1⟩, h2⟩ := rises_yes hp
    refine cm_step (fun k => by rw [impl_areMembers.l0]) ?_
    simp only [rd_at e, wrap_len hlt hl, hw]
    refine cm_yes (by omega) (cm_yes (by omega) (cm_yes (by omega) (cm_bind (cm_now fun _ => in_f _ _ _) (cm_yes (by simp; omega) ?_))))
    rcases last_cases pre with rfl | ⟨q, hq⟩
    · exact cm_no (by simp) hv
    · obtain ⟨h3, h4⟩ := rd_last e hq
      have h5 := h2 q hq
      rw [wrap_less h3 (by omega), h4]
      repeat (first | assumption | exact cm_now (fun _ => rfl) | refine cm_yes (by first | omega | assumption | (simp; done) | (simp; omega)) ?_ | refine cm_no (by first | omega | assumption | (simp; done) | (simp; omega)) ?_)
  · intro pre h t e hlt hp
    refine cm_step (fun k => by rw [impl_areMembers.l0]) ?_
    simp only [rd_at e, wrap_len hlt hl, hw]
    refine cm_yes (by omega) (cm_yes (by omega) (cm_yes (by omega) (cm_bind (cm_now fun _ => in_f _ _ _) ?_)))
    refine cm_if (fun c0 => ?_) (fun _ => cm_now fun _ => rfl)
    simp only [decide_eq_true_eq] at c0
    obtain ⟨q, hq, h5⟩ := rises_no hp (by omega) (by omega)
    obtain ⟨h3, h4⟩ := rd_last e hq
    rw [wrap_less h3 (by omega), h4]
    repeat (first | assumption | exact cm_now (fun _ => rfl) | refine cm_yes (by first | omega | assumption | (simp; done) | (simp; omega)) ?_ | refine cm_no (by first | omega | assumption | (simp; done) | (simp; omega)) ?_)
  · intro _
    refine cm_step (fun k => by rw [impl_areMembers.l0]) ?_
    repeat (first | assumption | exact cm_now (fun _ => rfl) | refine cm_yes (by first | omega | assumption | (simp; done) | (simp; omega)) ?_ | refine cm_no (by first | omega | assumption | (simp; done) | (simp; omega)) ?_)
theorem contains_f (l : List Int) (n : Int) (hl : l.length ≤ 4611686018427387904) : Cm (fun k => slices_Contains_int_int.f k l n) (decide (n ∈ l)) := by
  unfold slices_Contains_int_int.f slices_Index_int_int.f
  refine cm_bind (t := foundAt (fun x => decide (n = x)) (fun i _ => (i : Int)) (-1) 0 l) ?_ (cm_now fun _ => ?_)
  · refine find_cm (L := fun k i => slices_Index_int_int.l0 k l n (l.length : Int) i) l (fun x => decide (n = x)) (fun i _ => (i : Int)) (none_ := (-1 : Int)) ?_ ?_ ?_
    · intro pre h t e hlt hp v hv
      simp only [decide_eq_false_iff_not] at hp
      refine cm_step (fun k => by rw [slices_Index_int_int.l0]) ?_
      simp only [rd_at e, wrap_len hlt hl]
      repeat (first | assumption | exact cm_now (fun _ => rfl) | refine cm_yes (by first | omega | assumption | (simp; done) | (simp; omega)) ?_ | refine cm_no (by first | omega | assumption | (simp; done) | (simp; omega)) ?_)
    · intro pre h t e hlt hp
      simp only [decide_eq_true_eq] at hp
      refine cm_step (fun k => by rw [slices_Index_int_int.l0]) ?_
      simp only [rd_at e, wrap_len hlt hl]
      repeat (first | assumption | exact cm_now (fun _ => rfl) | refine cm_yes (by first | omega | assumption | (simp; done) | (simp; omega)) ?_ | refine cm_no (by first | omega | assumption | (simp; done) | (simp; omega)) ?_)
    · refine cm_step (fun k => by rw [slices_Index_int_int.l0]) ?_
      repeat (first | assumption | exact cm_now (fun _ => rfl) | refine cm_yes (by first | omega | assumption | (simp; done) | (simp; omega)) ?_ | refine cm_no (by first | omega | assumption | (simp; done) | (simp; omega)) ?_)
  · rw [found_any]
    congr 1
    rw [Bool.eq_iff_iff]
    simp
end Go.Proofs.Ytgcliajajcinpaa.Mem
