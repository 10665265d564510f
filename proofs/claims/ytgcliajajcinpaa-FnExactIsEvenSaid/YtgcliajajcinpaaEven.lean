/- Even: is every item at a home, and no home has two more than another: what both programs come to. -/
import Derived.Test.YtgcliajajcinpaaPx3
import Derived.Test.YtgcliajajcinpaaPx10
import Derived.Test.YtgcliajajcinpaaPx14
import Derived.Test.YtgcliajajcinpaaBase
import Derived.Test.YtgcliajajcinpaaPlaces
import Derived.Test.YtgcliajajcinpaaEv
namespace Go.Proofs.Ytgcliajajcinpaa.Even
open Go.RowKit Go.Proofs.Ytgcliajajcinpaa.P Go.Proofs.YtgcliajajcinpaaW.PrintWords Go.Proofs.YtgcliajajcinpaaW.PrintLast Go.Proofs.YtgcliajajcinpaaW.PrintMore
open Go.Proofs.Ytgcliajajcinpaa.Pl Go.Proofs.Ytgcliajajcinpaa.Base Go.Proofs.Ytgcliajajcinpaa.Places Go.Proofs.Ytgcliajajcinpaa.EvN
set_option linter.unusedSimpArgs false
set_option linter.unusedVariables false

theorem index_l0 (v : Int) (l : List Int) (hl : l.length ≤ 1048576) : ∀ (rest pre : List Int), pre ++ rest = l →
    ∃ r : Int, Cm (fun k => slices_Index_int_int.l0 k l v (l.length : Int) (pre.length : Int)) r ∧ (r ≥ 0 ↔ v ∈ rest)
  | [], pre, e => by
    have := len_end e
    refine ⟨-1, cm_last (fun k => ?_), by simp⟩
    rw [slices_Index_int_int.l0, if_neg (by omega)]
  | h :: t, pre, e => by
    have hlt := len_mid e
    by_cases c : v = h
    · refine ⟨(pre.length : Int), cm_last (fun k => ?_), by simp [c]⟩
      rw [slices_Index_int_int.l0, if_pos (by omega), if_pos (by omega), if_pos (by omega), rd_at e, if_pos c]
    · obtain ⟨r, h1, h2⟩ := index_l0 v l hl t (pre ++ [h]) (app_mid e)
      rw [len_one] at h1
      refine ⟨r, cm_step (fun k => ?_) h1, by rw [h2]; simp [c]⟩
      rw [slices_Index_int_int.l0, if_pos (by omega), if_pos (by omega), if_pos (by omega), rd_at e, if_neg c, wrap_len hlt (by omega)]
theorem contains_f (v : Int) (l : List Int) (hl : l.length ≤ 1048576) : Cm (fun k => slices_Contains_int_int.f k l v) (decide (v ∈ l)) := by
  obtain ⟨r, h1, h2⟩ := index_l0 v l hl l [] rfl
  unfold slices_Contains_int_int.f slices_Index_int_int.f
  refine cm_bind (t := r) (by simpa using h1) (cm_now fun _ => ?_)
  have : decide (r ≥ 0) = decide (v ∈ l) := by rw [decide_eq_decide]; exact h2
  rw [this]
theorem has_l0 (v : Int) (l : List Int) (hl : l.length ≤ 1048576) : ∀ (rest pre : List Int), pre ++ rest = l →
    Cm (fun k => spec_l1Has.l0 k v l (l.length : Int) (pre.length : Int)) (decide (v ∈ rest))
  | [], pre, e => by
    have := len_end e
    refine cm_last (fun k => ?_)
    rw [spec_l1Has.l0, if_neg (by omega)]
    simp
  | h :: t, pre, e => by
    have hlt := len_mid e
    by_cases c : h = v
    · refine cm_last (fun k => ?_)
      rw [spec_l1Has.l0, if_pos (by omega), if_pos (by omega), if_pos (by omega), rd_at e, if_pos c]
      simp [c]
    · have h1 := has_l0 v l hl t (pre ++ [h]) (app_mid e)
      rw [len_one] at h1
      have e2 : decide (v ∈ h :: t) = decide (v ∈ t) := by
        have c2 : ¬ v = h := fun x => c x.symm
        rw [decide_eq_decide]; simp [c2]
      rw [e2]
      refine cm_step (fun k => ?_) h1
      rw [spec_l1Has.l0, if_pos (by omega), if_pos (by omega), if_pos (by omega), rd_at e, if_neg c, wrap_len hlt (by omega)]
theorem has_f (v : Int) (l : List Int) (hl : l.length ≤ 1048576) : Cm (fun k => spec_l1Has.f k l v) (decide (v ∈ l)) := by
  unfold spec_l1Has.f
  have := has_l0 v l hl l [] rfl
  simpa using this
theorem max_l0 (l : List Int) (hl : l.length ≤ 1048576) : ∀ (rest pre : List Int) (m : Int), pre ++ rest = l → m ∈ pre → (∀ x ∈ pre, x ≤ m) →
    ∃ r, Cm (fun k => slices_Max_int_int.l0 k l m (pre.length : Int)) r ∧ r ∈ l ∧ ∀ x ∈ l, x ≤ r
  | [], pre, m, e, hm, hx => by
    have := len_end e
    obtain rfl : pre = l := by simpa using e
    refine ⟨m, cm_last (fun k => ?_), hm, hx⟩
    rw [slices_Max_int_int.l0, if_neg (by omega)]
  | h :: t, pre, m, e, hm, hx => by
    have hlt := len_mid e
    have hmx : mx m h = m ∧ h ≤ m ∨ mx m h = h ∧ m ≤ h := by unfold mx; split <;> omega
    obtain ⟨r, h1, h2⟩ := max_l0 l hl t (pre ++ [h]) (mx m h) (app_mid e) (by
      rcases hmx with c | c
      · rw [c.1]; simp [hm]
      · rw [c.1]; simp) (by
      intro x hxx
      rw [List.mem_append, List.mem_singleton] at hxx
      rcases hxx with hxx | rfl
      · have := hx x hxx
        omega
      · omega)
    rw [len_one] at h1
    refine ⟨r, cm_step (fun k => ?_) h1, h2⟩
    rw [slices_Max_int_int.l0, if_pos (by omega), if_pos (by omega), rd_at e, wrap_len hlt (by omega)]
theorem max_f (l : List Int) (hl : l.length ≤ 1048576) (h0 : 0 < l.length) : ∃ r, Cm (fun k => slices_Max_int_int.f k l) r ∧ r ∈ l ∧ ∀ x ∈ l, x ≤ r := by
  match l, h0 with
  | a :: t, _ =>
    obtain ⟨r, h1, h2⟩ := max_l0 (a :: t) hl t [a] a rfl (by simp) (by simp)
    refine ⟨r, ?_, h2⟩
    unfold slices_Max_int_int.f
    refine cm_no (by simp; omega) (cm_yes (by simp) ?_)
    simpa [rd] using h1
theorem min_l0 (l : List Int) (hl : l.length ≤ 1048576) : ∀ (rest pre : List Int) (m : Int), pre ++ rest = l → m ∈ pre → (∀ x ∈ pre, m ≤ x) →
    ∃ r, Cm (fun k => slices_Min_int_int.l0 k l m (pre.length : Int)) r ∧ r ∈ l ∧ ∀ x ∈ l, r ≤ x
  | [], pre, m, e, hm, hx => by
    have := len_end e
    obtain rfl : pre = l := by simpa using e
    refine ⟨m, cm_last (fun k => ?_), hm, hx⟩
    rw [slices_Min_int_int.l0, if_neg (by omega)]
  | h :: t, pre, m, e, hm, hx => by
    have hlt := len_mid e
    have hmx : mn m h = m ∧ m ≤ h ∨ mn m h = h ∧ h ≤ m := by unfold mn; split <;> omega
    obtain ⟨r, h1, h2⟩ := min_l0 l hl t (pre ++ [h]) (mn m h) (app_mid e) (by
      rcases hmx with c | c
      · rw [c.1]; simp [hm]
      · rw [c.1]; simp) (by
      intro x hxx
      rw [List.mem_append, List.mem_singleton] at hxx
      rcases hxx with hxx | rfl
      · have := hx x hxx
        omega
      · omega)
    rw [len_one] at h1
    refine ⟨r, cm_step (fun k => ?_) h1, h2⟩
    rw [slices_Min_int_int.l0, if_pos (by omega), if_pos (by omega), rd_at e, wrap_len hlt (by omega)]
theorem min_f (l : List Int) (hl : l.length ≤ 1048576) (h0 : 0 < l.length) : ∃ r, Cm (fun k => slices_Min_int_int.f k l) r ∧ r ∈ l ∧ ∀ x ∈ l, r ≤ x := by
  match l, h0 with
  | a :: t, _ =>
    obtain ⟨r, h1, h2⟩ := min_l0 (a :: t) hl t [a] a rfl (by simp) (by simp)
    refine ⟨r, ?_, h2⟩
    unfold slices_Min_int_int.f
    refine cm_no (by simp; omega) (cm_yes (by simp) ?_)
    simpa [rd] using h1
/-- No number is two more than another. -/
def level (l : List Int) : Prop := ∀ a ∈ l, ∀ b ∈ l, ¬ a > b + 1
theorem spec_l1 (l : List Int) (hl : l.length ≤ 1048576) (hb : ∀ x ∈ l, 0 ≤ x ∧ x ≤ 1000) (a i : Int) (v : Bool × Bool) : ∀ (rest pre : List Int), pre ++ rest = l →
    ((∀ b ∈ rest, ¬ a > b + 1) → Cm (fun k => spec_IsEven.l0 k l (l.length : Int) (wrap64 (i + 1))) v) → ((∃ b ∈ rest, a > b + 1) → v = (false, true)) →
    Cm (fun k => spec_IsEven.l1 k l a (l.length : Int) i (l.length : Int) (pre.length : Int)) v
  | [], pre, e, h1, _ => by
    have := len_end e
    refine cm_step (fun k => ?_) (h1 (by simp))
    rw [spec_IsEven.l1, if_neg (by omega)]
  | h :: t, pre, e, h1, h2 => by
    have hlt := len_mid e
    have hh := hb h (by rw [← e]; simp)
    by_cases c : a > h + 1
    · have := h2 ⟨h, by simp, c⟩
      subst this
      refine cm_last (fun k => ?_)
      rw [spec_IsEven.l1, if_pos (by omega), if_pos (by omega), if_pos (by omega), rd_at e, wrap_in (x := h + 1) (by omega) (by omega), if_pos c]
    · have h3 := spec_l1 l hl hb a i v t (pre ++ [h]) (app_mid e) (fun hx => h1 (by
        intro b hb2
        rw [List.mem_cons] at hb2
        rcases hb2 with rfl | hb2
        · exact c
        · exact hx b hb2)) (fun ⟨b, hb2, hx⟩ => h2 ⟨b, by simp [hb2], hx⟩)
      rw [len_one] at h3
      refine cm_step (fun k => ?_) h3
      rw [spec_IsEven.l1, if_pos (by omega), if_pos (by omega), if_pos (by omega), rd_at e, wrap_in (x := h + 1) (by omega) (by omega), if_neg c, wrap_len hlt (by omega)]
open Classical in
theorem spec_l0 (l : List Int) (hl : l.length ≤ 1048576) (hb : ∀ x ∈ l, 0 ≤ x ∧ x ≤ 1000) : ∀ (rest pre : List Int), pre ++ rest = l →
    Cm (fun k => spec_IsEven.l0 k l (l.length : Int) (pre.length : Int)) (decide (∀ a ∈ rest, ∀ b ∈ l, ¬ a > b + 1), true)
  | [], pre, e => by
    have := len_end e
    refine cm_last (fun k => ?_)
    rw [spec_IsEven.l0, if_neg (by omega)]
    simp
  | h :: t, pre, e => by
    have hlt := len_mid e
    have h1 := spec_l0 l hl hb t (pre ++ [h]) (app_mid e)
    rw [len_one] at h1
    refine cm_step (g := fun k => spec_IsEven.l1 k l h (l.length : Int) (pre.length : Int) (l.length : Int) 0) (fun k => ?_) ?_
    · rw [spec_IsEven.l0, if_pos (by omega), if_pos (by omega), if_pos (by omega), rd_at e]
    · have h2 := spec_l1 l hl hb h (pre.length : Int) (decide (∀ a ∈ h :: t, ∀ b ∈ l, ¬ a > b + 1), true) l [] rfl (by
        intro hx
        rw [wrap_len hlt (by omega)]
        have : decide (∀ a ∈ h :: t, ∀ b ∈ l, ¬ a > b + 1) = decide (∀ a ∈ t, ∀ b ∈ l, ¬ a > b + 1) := by
          rw [decide_eq_decide]
          constructor
          · intro h3 a ha; exact h3 a (by simp [ha])
          · intro h3 a ha
            rw [List.mem_cons] at ha
            rcases ha with rfl | ha
            · exact hx
            · exact h3 a ha
        rw [this]
        exact h1) (by
        rintro ⟨b, hb2, hx⟩
        have : ¬ ∀ a ∈ h :: t, ∀ b ∈ l, ¬ a > b + 1 := fun h3 => h3 h (by simp) b hb2 hx
        rw [decide_eq_false this])
      simpa using h2
theorem isEven_f (a : Int) (l : List Int) (hl : l.length ≤ 1048576) : ∃ (v : Bool × Bool) (K : Nat), (∀ k, K ≤ k → spec_IsEven.f k a l = some v) ∧ (∀ k, K ≤ k → impl_IsEven.f k a l = some v) := by
  have key : ∃ v, Cm (fun k => spec_IsEven.f k a l) v ∧ Cm (fun k => impl_IsEven.f k a l) v := by
    have hs : Cm (fun k => spec_GoodPlaces.f k a l) (good a l) := cm_of_some (d := l.length) (fun k hk => spec_f a l hl k hk)
    have hi : Cm (fun k => impl_arePlaces.f k a l) (good a l) := cm_of_some (d := l.length) (fun k hk => are_f a l hl k hk)
    unfold spec_IsEven.f impl_IsEven.f
    by_cases hg : good a l = true
    · have hg3 := good_iff.1 hg
      have hL : 0 < (loads a l).length := by rw [loads_length]; omega
      have hL2 : (loads a l).length ≤ 1048576 := by rw [loads_length]; omega
      have hb : ∀ x ∈ loads a l, 0 ≤ x ∧ x ≤ 1000 := by
        have h0 : ∀ (m acc : List Int) (b : Int), 0 ≤ b → (∀ x ∈ acc, 0 ≤ x ∧ x ≤ b) → ∀ x ∈ m.foldl count acc, 0 ≤ x ∧ x ≤ b + (m.length : Int) := by
          intro m
          induction m with
          | nil => intro acc b _ h x hx; have := h x hx; simp; omega
          | cons c t ih =>
            intro acc b h1 h2 x hx
            rw [List.foldl_cons] at hx
            have := ih (count acc c) (b + 1) (by omega) (count_le h1 h2) x hx
            simp only [List.length_cons]
            omega
        intro x hx
        have := h0 l (List.replicate a.toNat 0) 0 (by omega) (by intro y hy; rw [List.mem_replicate] at hy; omega) x hx
        omega
      by_cases hc : (-1) ∈ l
      · refine ⟨(false, true), ?_, ?_⟩
        · refine cm_bind hs (cm_yes hg (cm_bind (has_f (-1) l hl) (cm_yes (by simp [hc]) (cm_now fun _ => rfl))))
        · refine cm_bind hi (cm_yes hg (cm_bind (cm_of_some (d := l.length) (fun k hk => impl_loads_f a l hg k hk)) (cm_bind (contains_f (-1) l hl) (cm_yes (by simp [hc]) (cm_now fun _ => rfl)))))
      · obtain ⟨M, hM, hM1, hM2⟩ := max_f (loads a l) hL2 hL
        obtain ⟨m, hm, hm1, hm2⟩ := min_f (loads a l) hL2 hL
        have b1 := hb M hM1
        have b2 := hb m hm1
        classical
        have h0 := spec_l0 (loads a l) hL2 hb (loads a l) [] rfl
        refine ⟨(decide (∀ x ∈ loads a l, ∀ y ∈ loads a l, ¬ x > y + 1), true), ?_, ?_⟩
        · refine cm_bind hs (cm_yes hg (cm_bind (has_f (-1) l hl) (cm_no (by simp [hc]) (cm_bind (cm_of_some (d := l.length) (fun k hk => spec_loads_f a l hg k hk)) ?_))))
          simpa using h0
        · refine cm_bind hi (cm_yes hg (cm_bind (cm_of_some (d := l.length) (fun k hk => impl_loads_f a l hg k hk)) (cm_bind (contains_f (-1) l hl) (cm_no (by simp [hc]) (cm_bind hM (cm_bind hm (cm_now fun _ => ?_)))))))
          rw [wrap_in (by omega) (by omega)]
          congr 2
          rw [decide_eq_decide]
          constructor
          · intro h x hx y hy
            have := hM2 x hx
            have := hm2 y hy
            omega
          · intro h
            have := h M hM1 m hm1
            omega
    · refine ⟨(false, false), cm_bind hs (cm_no hg (cm_now fun _ => rfl)), cm_bind hi (cm_no hg (cm_now fun _ => rfl))⟩
  obtain ⟨v, ⟨K, hK⟩, ⟨M, hM⟩⟩ := key
  exact ⟨v, K + M, fun k hk => hK k (by omega), fun k hk => hM k (by omega)⟩
end Go.Proofs.Ytgcliajajcinpaa.Even
