/- Qs: what both programs' tests of members, groups and coteries come to. -/
import Derived.Test.YtjngkfepppejeaaPx1
import Derived.Test.YtjngkfepppejeaaPx2
import Derived.Test.YtjngkfepppejeaaPx3
import Derived.Test.YtjngkfepppejeaaPx6
import Derived.Test.YtjngkfepppejeaaSets
namespace Go.Proofs.Ytjngkfepppejeaa.Qs
open Go.RowKit Go.Proofs.Ytjngkfepppejeaa.P Go.Proofs.YtjngkfepppejeaaW.PrintWords Go.Proofs.YtjngkfepppejeaaW.PrintLast Go.Proofs.YtjngkfepppejeaaW.PrintMore
open Go.Proofs.Ytjngkfepppejeaa.Pl Go.Proofs.Ytjngkfepppejeaa.EvN Go.Proofs.Ytjngkfepppejeaa.Lp Go.Proofs.Ytjngkfepppejeaa.Sets
set_option linter.unusedSimpArgs false
set_option linter.unusedVariables false

theorem in_f (a b c : Int) : impl_in.f a b c = some (decide (b ≤ a ∧ a ≤ c)) := by
  unfold impl_in.f
  by_cases h : a ≥ b
  · rw [if_pos h]; congr 1; rw [decide_eq_decide]; omega
  · rw [if_neg h]; congr 1; symm; rw [decide_eq_false_iff_not]; omega
theorem l1In_f (a b c : Int) : spec_l1In.f a b c = some (decide (b ≤ a ∧ a ≤ c)) := by
  unfold spec_l1In.f
  by_cases h : a ≥ b
  · rw [if_pos h]; congr 1; rw [decide_eq_decide]; omega
  · rw [if_neg h]; congr 1; symm; rw [decide_eq_false_iff_not]; omega
theorem l1_at {pre t l : List (List Int)} {h : List Int} (e : pre ++ h :: t = l) : rd_L1 l (pre.length : Int) = h := getD_at e _
theorem has_f (l : List Int) (n : Int) (hl : l.length ≤ 4611686018427387904) : Cm (fun k => spec_l1Has.f k l n) (decide (n ∈ l)) := by
  unfold spec_l1Has.f
  have := every_cm (L := fun k i => spec_l1Has.l0 k n l (l.length : Int) i) l (fun x => decide (x ≠ n)) (fin := false) (no := true) ?_ ?_ ?_
  · refine cm_val this ?_
    by_cases c : n ∈ l
    · simp [c]
    · simp [c]
      intro x hx e
      subst e
      exact c hx
  · intro pre h t e hlt hp v hv
    simp only [decide_eq_true_eq] at hp
    refine cm_step (fun k => by rw [spec_l1Has.l0]) ?_
    simp only [rd_at e, wrap_len hlt hl]
    repeat (first | assumption | exact cm_now (fun _ => rfl) | refine cm_yes (by first | omega | assumption | (simp; done) | (simp; omega)) ?_ | refine cm_no (by first | omega | assumption | (simp; done) | (simp; omega)) ?_)
  · intro pre h t e hlt hp
    simp only [decide_eq_false_iff_not, ne_eq, Decidable.not_not] at hp
    refine cm_step (fun k => by rw [spec_l1Has.l0]) ?_
    simp only [rd_at e, wrap_len hlt hl]
    repeat (first | assumption | exact cm_now (fun _ => rfl) | refine cm_yes (by first | omega | assumption | (simp; done) | (simp; omega)) ?_ | refine cm_no (by first | omega | assumption | (simp; done) | (simp; omega)) ?_)
  · intro _
    refine cm_step (fun k => by rw [spec_l1Has.l0]) ?_
    repeat (first | assumption | exact cm_now (fun _ => rfl) | refine cm_yes (by first | omega | assumption | (simp; done) | (simp; omega)) ?_ | refine cm_no (by first | omega | assumption | (simp; done) | (simp; omega)) ?_)
theorem meet_f (a b : List Int) (ha : a.length ≤ 4611686018427387904) (hb : b.length ≤ 4611686018427387904) : Cm (fun k => spec_l6Meet.f k a b) (meet a b) := by
  unfold spec_l6Meet.f
  have := every_cm (L := fun k i => spec_l6Meet.l0 k b a (a.length : Int) i) a (fun x => decide (x ∉ b)) (fin := false) (no := true) ?_ ?_ ?_
  · refine cm_val this ?_
    unfold meet
    by_cases c : ∃ x ∈ a, x ∈ b
    · obtain ⟨x, h1, h2⟩ := c
      have h3 : a.any (fun x => decide (x ∈ b)) = true := by simp; exact ⟨x, h1, h2⟩
      have h4 : a.all (fun x => decide (x ∉ b)) = false := by simp; exact ⟨x, h1, h2⟩
      rw [h3, h4]; rfl
    · have h3 : a.any (fun x => decide (x ∈ b)) = false := by simp; intro x h1 h2; exact c ⟨x, h1, h2⟩
      have h4 : a.all (fun x => decide (x ∉ b)) = true := by simp; intro x h1 h2; exact c ⟨x, h1, h2⟩
      rw [h3, h4]; rfl
  · intro pre h t e hlt hp v hv
    simp only [decide_eq_true_eq] at hp
    refine cm_step (fun k => by rw [spec_l6Meet.l0]) ?_
    simp only [rd_at e, wrap_len hlt ha]
    repeat (first | assumption | exact cm_now (fun _ => rfl) | refine cm_bind (has_f _ _ hb) ?_ | refine cm_yes (by first | omega | assumption | (simp; done) | (simp; omega) | exact (by simpa using hp)) ?_ | refine cm_no (by first | omega | assumption | (simp; done) | (simp; omega) | exact (by simpa using hp)) ?_)
  · intro pre h t e hlt hp
    simp only [decide_eq_false_iff_not, Decidable.not_not] at hp
    refine cm_step (fun k => by rw [spec_l6Meet.l0]) ?_
    simp only [rd_at e, wrap_len hlt ha]
    repeat (first | assumption | exact cm_now (fun _ => rfl) | refine cm_bind (has_f _ _ hb) ?_ | refine cm_yes (by first | omega | assumption | (simp; done) | (simp; omega) | exact (by simpa using hp)) ?_ | refine cm_no (by first | omega | assumption | (simp; done) | (simp; omega) | exact (by simpa using hp)) ?_)
  · intro _
    refine cm_step (fun k => by rw [spec_l6Meet.l0]) ?_
    repeat (first | assumption | exact cm_now (fun _ => rfl) | refine cm_yes (by first | omega | assumption | (simp; done) | (simp; omega)) ?_ | refine cm_no (by first | omega | assumption | (simp; done) | (simp; omega)) ?_)
theorem hasAll_f (a b : List Int) (ha : a.length ≤ 4611686018427387904) (hb : b.length ≤ 4611686018427387904) : Cm (fun k => spec_l6Has.f k a b) (hasAll a b) := by
  unfold spec_l6Has.f
  have := every_cm (L := fun k i => spec_l6Has.l0 k a b (b.length : Int) i) b (fun x => decide (x ∈ a)) (fin := true) (no := false) ?_ ?_ ?_
  · refine cm_val this ?_
    unfold hasAll
    cases b.all fun x => decide (x ∈ a) <;> rfl
  · intro pre h t e hlt hp v hv
    refine cm_step (fun k => by rw [spec_l6Has.l0]) ?_
    simp only [rd_at e, wrap_len hlt hb]
    repeat (first | assumption | exact cm_now (fun _ => rfl) | refine cm_bind (has_f _ _ ha) ?_ | refine cm_yes (by first | omega | assumption | (simp; done) | (simp; omega) | exact hp) ?_ | refine cm_no (by first | omega | assumption | (simp; done) | (simp; omega) | exact hp) ?_)
  · intro pre h t e hlt hp
    refine cm_step (fun k => by rw [spec_l6Has.l0]) ?_
    simp only [rd_at e, wrap_len hlt hb]
    repeat (first | assumption | exact cm_now (fun _ => rfl) | refine cm_bind (has_f _ _ ha) ?_ | refine cm_yes (by first | omega | assumption | (simp; done) | (simp; omega) | exact (by simpa using hp)) ?_ | refine cm_no (by first | omega | assumption | (simp; done) | (simp; omega) | exact (by simpa using hp)) ?_)
  · intro _
    refine cm_step (fun k => by rw [spec_l6Has.l0]) ?_
    repeat (first | assumption | exact cm_now (fun _ => rfl) | refine cm_yes (by first | omega | assumption | (simp; done) | (simp; omega)) ?_ | refine cm_no (by first | omega | assumption | (simp; done) | (simp; omega)) ?_)
theorem if_self (b : Bool) : (if b = true then true else false) = b := by cases b <;> rfl
theorem rises_no {many : Int} {pre : List Int} {h : Int} (hp : rises many pre h = false) (h0 : 0 ≤ h) (h1 : h < many) : ∃ q, pre.getLast? = some q ∧ h ≤ q := by
  unfold rises at hp
  cases e : pre.getLast? with
  | none => rw [e] at hp; simp at hp; omega
  | some q =>
    rw [e] at hp
    simp at hp
    exact ⟨q, rfl, by omega⟩
theorem rises_yes {many : Int} {pre : List Int} {h : Int} (hp : rises many pre h = true) : (0 ≤ h ∧ h < many) ∧ ∀ q, pre.getLast? = some q → q < h := by
  unfold rises at hp
  simp only [Bool.and_eq_true, decide_eq_true_eq] at hp
  refine ⟨hp.1, fun q e => ?_⟩
  have h2 := hp.2
  rw [e] at h2
  simpa using h2
theorem last_cases {α : Type} (pre : List α) : pre = [] ∨ ∃ q, pre.getLast? = some q := by
  cases e : pre.getLast? with
  | none => exact .inl (no_last e)
  | some q => exact .inr ⟨q, rfl⟩
theorem group_f (l : List Int) (many : Int) (hl : l.length ≤ 4611686018427387904) : Cm (fun k => spec_l6Group.f k l many) (members many l) := by
  unfold spec_l6Group.f
  have := all_cm (L := fun k i => spec_l6Group.l0 k l many l (l.length : Int) i) l (rises many) (fin := true) (no := false) ?_ ?_ ?_
  · exact cm_val this (if_self _)
  · intro pre h t e hlt hp v hv
    obtain ⟨⟨h0, h1⟩, h2⟩ := rises_yes hp
    refine cm_step (fun k => by rw [spec_l6Group.l0]) ?_
    simp only [rd_at e, wrap_len hlt hl]
    refine cm_yes (by omega) (cm_yes (by omega) (cm_yes (by omega) (cm_no (by omega) (cm_no (by omega) ?_))))
    rcases last_cases pre with rfl | ⟨q, hq⟩
    · exact cm_no (by simp) hv
    · obtain ⟨h3, h4⟩ := rd_last e hq
      have h5 := h2 q hq
      rw [wrap_less h3 (by omega), h4]
      repeat (first | assumption | exact cm_now (fun _ => rfl) | refine cm_yes (by first | omega | assumption | (simp; done) | (simp; omega)) ?_ | refine cm_no (by first | omega | assumption | (simp; done) | (simp; omega)) ?_)
  · intro pre h t e hlt hp
    refine cm_step (fun k => by rw [spec_l6Group.l0]) ?_
    simp only [rd_at e, wrap_len hlt hl]
    refine cm_yes (by omega) (cm_yes (by omega) (cm_yes (by omega) ?_))
    refine cm_if (fun _ => cm_now fun _ => rfl) (fun c0 => cm_if (fun _ => cm_now fun _ => rfl) (fun c1 => ?_))
    obtain ⟨q, hq, h5⟩ := rises_no hp (by omega) (by omega)
    obtain ⟨h3, h4⟩ := rd_last e hq
    rw [wrap_less h3 (by omega), h4]
    repeat (first | assumption | exact cm_now (fun _ => rfl) | refine cm_yes (by first | omega | assumption | (simp; done) | (simp; omega)) ?_ | refine cm_no (by first | omega | assumption | (simp; done) | (simp; omega)) ?_)
  · intro _
    refine cm_step (fun k => by rw [spec_l6Group.l0]) ?_
    repeat (first | assumption | exact cm_now (fun _ => rfl) | refine cm_yes (by first | omega | assumption | (simp; done) | (simp; omega)) ?_ | refine cm_no (by first | omega | assumption | (simp; done) | (simp; omega)) ?_)
theorem areMembers_f (l : List Int) (many : Int) (hl : l.length ≤ 4611686018427387904) (hm : 0 ≤ many ∧ many ≤ 4611686018427387904) : Cm (fun k => impl_areMembers.f k l many) (members many l) := by
  have hw : wrap64 (many - 1) = many - 1 := wrap_in (by omega) (by omega)
  unfold impl_areMembers.f
  have := all_cm (L := fun k i => impl_areMembers.l0 k l many l (l.length : Int) i) l (rises many) (fin := true) (no := false) ?_ ?_ ?_
  · exact cm_val this (if_self _)
  · intro pre h t e hlt hp v hv
    obtain ⟨⟨h0, h1⟩, h2⟩ := rises_yes hp
    refine cm_step (fun k => by rw [impl_areMembers.l0]) ?_
    simp only [rd_at e, wrap_len hlt hl, hw]
    refine cm_yes (by omega) (cm_yes (by omega) (cm_yes (by omega) (cm_bind (cm_now fun _ => in_f _ _ _) (cm_yes (by simp; omega) ?_))))
    rcases last_cases pre with rfl | ⟨q, hq⟩
    · exact cm_no (by simp) hv
    · obtain ⟨h3, h4⟩ := rd_last e hq
      have h5 := h2 q hq
      rw [wrap_less h3 (by omega), h4]
      repeat (first | assumption | exact cm_now (fun _ => rfl) | refine cm_yes (by first | omega | assumption | (simp; done) | (simp; omega)) ?_ | refine cm_no (by first | omega | assumption | (simp; done) | (simp; omega)) ?_)
  · intro pre h t e hlt hp
    refine cm_step (fun k => by rw [impl_areMembers.l0]) ?_
    simp only [rd_at e, wrap_len hlt hl, hw]
    refine cm_yes (by omega) (cm_yes (by omega) (cm_yes (by omega) (cm_bind (cm_now fun _ => in_f _ _ _) ?_)))
    refine cm_if (fun c0 => ?_) (fun _ => cm_now fun _ => rfl)
    simp only [decide_eq_true_eq] at c0
    obtain ⟨q, hq, h5⟩ := rises_no hp (by omega) (by omega)
    obtain ⟨h3, h4⟩ := rd_last e hq
    rw [wrap_less h3 (by omega), h4]
    repeat (first | assumption | exact cm_now (fun _ => rfl) | refine cm_yes (by first | omega | assumption | (simp; done) | (simp; omega)) ?_ | refine cm_no (by first | omega | assumption | (simp; done) | (simp; omega)) ?_)
  · intro _
    refine cm_step (fun k => by rw [impl_areMembers.l0]) ?_
    repeat (first | assumption | exact cm_now (fun _ => rfl) | refine cm_yes (by first | omega | assumption | (simp; done) | (simp; omega)) ?_ | refine cm_no (by first | omega | assumption | (simp; done) | (simp; omega)) ?_)
theorem groups_f (l : List (List Int)) (many : Int) (hl : l.length ≤ 4611686018427387904) (hs : ∀ g ∈ l, g.length ≤ 4611686018427387904) : Cm (fun k => spec_l6Groups.f k l many) (groups many l) := by
  unfold spec_l6Groups.f
  have := every_cm (L := fun k i => spec_l6Groups.l0 k l many l (l.length : Int) i) l (fun g => decide (g.length ≠ 0) && members many g) (fin := decide (l.length ≤ 40)) (no := false) ?_ ?_ ?_
  · refine cm_val this ?_
    unfold groups
    cases l.all fun g => decide (g.length ≠ 0) && members many g <;> simp
  · intro pre h t e hlt hp v hv
    have hg := hs h (by rw [← e]; simp)
    simp only [Bool.and_eq_true, decide_eq_true_eq] at hp
    refine cm_step (fun k => by rw [spec_l6Groups.l0]) ?_
    simp only [l1_at e, wrap_len hlt hl]
    repeat (first | assumption | exact cm_now (fun _ => rfl) | refine cm_bind (group_f _ _ hg) ?_ | refine cm_yes (by first | omega | assumption | (simp; done) | (simp; omega) | exact hp.2) ?_ | refine cm_no (by first | omega | assumption | (simp; done) | (simp; omega) | exact hp.2) ?_)
  · intro pre h t e hlt hp
    have hg := hs h (by rw [← e]; simp)
    refine cm_step (fun k => by rw [spec_l6Groups.l0]) ?_
    simp only [l1_at e, wrap_len hlt hl]
    refine cm_yes (by omega) (cm_yes (by omega) (cm_yes (by omega) ?_))
    refine cm_if (fun _ => cm_now fun _ => rfl) (fun c => cm_bind (group_f _ _ hg) (cm_no ?_ (cm_now fun _ => rfl)))
    have c2 : h.length ≠ 0 := by omega
    simpa [c2] using hp
  · intro _
    refine cm_step (fun k => by rw [spec_l6Groups.l0]) ?_
    refine cm_no (by omega) (cm_now fun _ => ?_)
    congr 1
    rw [decide_eq_decide]
    omega
theorem anyG_index (a : Int) (l : List (List Int)) (hl : l.length ≤ 4611686018427387904) (p : (List Int) → Bool) (hc : ∀ h ∈ l, Cm (fun k => impl_areGroups_1.f k h a) (p h)) :
    Cm (fun k => slices_IndexFunc_int_int_of_impl_areGroups_1.f k l a) (foundAt p (fun i _ => (i : Int)) (-1) 0 l) := by
  unfold slices_IndexFunc_int_int_of_impl_areGroups_1.f
  refine find_cm (L := fun k i => slices_IndexFunc_int_int_of_impl_areGroups_1.l0 k l (l.length : Int) i a) l p (fun i _ => (i : Int)) (none_ := (-1 : Int)) ?_ ?_ ?_
  · intro pre h t e hlt hp v hv
    refine cm_step (fun k => by rw [slices_IndexFunc_int_int_of_impl_areGroups_1.l0]) ?_
    simp only [l1_at e, wrap_len hlt hl]
    refine cm_yes (by omega) (cm_yes (by omega) (cm_yes (by omega) (cm_bind (hc h (by rw [← e]; simp)) ?_)))
    exact cm_no (by simpa using hp) hv
  · intro pre h t e hlt hp
    refine cm_step (fun k => by rw [slices_IndexFunc_int_int_of_impl_areGroups_1.l0]) ?_
    simp only [l1_at e, wrap_len hlt hl]
    refine cm_yes (by omega) (cm_yes (by omega) (cm_yes (by omega) (cm_bind (hc h (by rw [← e]; simp)) ?_)))
    exact cm_yes hp (cm_now fun _ => rfl)
  · refine cm_step (fun k => by rw [slices_IndexFunc_int_int_of_impl_areGroups_1.l0]) ?_
    exact cm_no (by omega) (cm_now fun _ => rfl)
theorem anyG (a : Int) (l : List (List Int)) (hl : l.length ≤ 4611686018427387904) (p : (List Int) → Bool) (hc : ∀ h ∈ l, Cm (fun k => impl_areGroups_1.f k h a) (p h)) : Cm (fun k => slices_ContainsFunc_int_int_of_impl_areGroups_1.f k l a) (l.any p) := by
  unfold slices_ContainsFunc_int_int_of_impl_areGroups_1.f
  refine cm_bind (anyG_index a l hl p hc) (cm_now fun _ => ?_)
  rw [found_any]
theorem areGroups_f (l : List (List Int)) (many : Int) (hl : l.length ≤ 4611686018427387904) (hs : ∀ g ∈ l, g.length ≤ 4611686018427387904) (hm : 0 ≤ many ∧ many ≤ 4611686018427387904) : Cm (fun k => impl_areGroups.f k l many) (groups many l) := by
  unfold impl_areGroups.f
  by_cases c : l.length ≤ 40
  · refine cm_yes (by omega) (cm_bind (anyG many l hl (fun g => !(decide (g.length ≠ 0) && members many g)) (fun g hg => ?_)) (cm_now fun _ => ?_))
    · unfold impl_areGroups_1.f
      by_cases c0 : g.length = 0
      · exact cm_yes (by omega) (cm_now fun _ => by simp [c0])
      · exact cm_no (by omega) (cm_bind (areMembers_f g many (hs g hg) hm) (cm_now fun _ => by simp [c0]))
    · rw [not_any _ (fun g => decide (g.length ≠ 0) && members many g) l (fun _ _ => rfl)]
      simp [groups, c]
  · refine cm_no (by omega) (cm_now fun _ => ?_)
    simp [groups, c]
end Go.Proofs.Ytjngkfepppejeaa.Qs
