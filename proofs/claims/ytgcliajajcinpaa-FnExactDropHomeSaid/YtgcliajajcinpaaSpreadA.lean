/- SpreadA: the sort by loads, and the rooms, as both programs count them. -/
import Derived.Test.YtgcliajajcinpaaPx5
import Derived.Test.YtgcliajajcinpaaBase
import Derived.Test.YtgcliajajcinpaaPlaces
import Derived.Test.YtgcliajajcinpaaEv
namespace Go.Proofs.Ytgcliajajcinpaa.Spread
open Go.RowKit Go.Proofs.Ytgcliajajcinpaa.P Go.Proofs.YtgcliajajcinpaaW.PrintWords Go.Proofs.YtgcliajajcinpaaW.PrintLast Go.Proofs.YtgcliajajcinpaaW.PrintMore
open Go.Proofs.Ytgcliajajcinpaa.Pl Go.Proofs.Ytgcliajajcinpaa.Base Go.Proofs.Ytgcliajajcinpaa.Places Go.Proofs.Ytgcliajajcinpaa.EvN
set_option linter.unusedSimpArgs false
set_option linter.unusedVariables false

/-! ### numbers of a list, one changed -/
theorem rd_set (L : List Int) (i : Nat) (v : Int) (h : i < L.length) (j : Int) (hj : 0 ≤ j) : rd (L.set i v) j = if j = (i : Int) then v else rd L j := by
  unfold rd
  by_cases e : j = (i : Int)
  · subst e; simp [h]
  · rw [if_neg e]
    have : i ≠ j.toNat := by omega
    simp [List.getD, List.getElem?_set, this]
theorem rd_get (L : List Int) (i : Nat) (h : i < L.length) : rd L (i : Int) = L[i] := by
  simp [rd, h]
theorem ext_rd {L M : List Int} (hl : L.length = M.length) (h : ∀ j : Nat, j < L.length → rd L (j : Int) = rd M (j : Int)) : L = M := by
  apply List.ext_getElem hl
  intro i h1 h2
  rw [← rd_get L i h1, ← rd_get M i h2]
  exact h i h1

/-! ### the sort -/
/-- a stands ahead of b: more at it, or as many and it came ahead. -/
def ahead (L : List Int) (a b : Int) : Prop := rd L a > rd L b ∨ (rd L a = rd L b ∧ a < b)
/-- One more, among those that stand sorted, the last one ahead. -/
def ins (L : List Int) (x : Int) : List Int → List Int
  | [] => [x]
  | p :: t => if rd L p < rd L x then p :: ins L x t else x :: p :: t
/-- All of them, the last one ahead. -/
def insAll (L : List Int) : List Int → List Int → List Int
  | s, [] => s
  | s, x :: t => insAll L (ins L x s) t
theorem ins_perm (L : List Int) (x : Int) : ∀ s, (ins L x s).Perm (x :: s)
  | [] => List.Perm.refl _
  | p :: t => by
    unfold ins
    split
    · exact ((ins_perm L x t).cons p).trans (List.Perm.swap x p t)
    · exact List.Perm.refl _
theorem ins_length (L : List Int) (x : Int) (s : List Int) : (ins L x s).length = s.length + 1 := by
  rw [(ins_perm L x s).length_eq]; rfl
theorem insAll_perm (L : List Int) : ∀ (t s : List Int), (insAll L s t).Perm (t ++ s)
  | [], s => List.Perm.refl _
  | x :: t, s => by
    unfold insAll
    refine (insAll_perm L t (ins L x s)).trans ?_
    refine ((ins_perm L x s).append_left t).trans ?_
    exact List.perm_middle
theorem ins_sorted (L : List Int) (x : Int) : ∀ s, s.Pairwise (fun a b => ahead L b a) → (∀ p ∈ s, p < x) → (ins L x s).Pairwise (fun a b => ahead L b a)
  | [], _, _ => by simp [ins]
  | p :: t, hs, hx => by
    unfold ins
    rw [List.pairwise_cons] at hs
    have hp := hx p (by simp)
    split
    · rename_i c
      rw [List.pairwise_cons]
      refine ⟨fun y hy => ?_, ins_sorted L x t hs.2 (fun q hq => hx q (by simp [hq]))⟩
      rw [(ins_perm L x t).mem_iff, List.mem_cons] at hy
      rcases hy with rfl | hy
      · exact .inl c
      · exact hs.1 y hy
    · rename_i c
      have hpx : ahead L p x := by
        rcases Int.lt_trichotomy (rd L p) (rd L x) with h | h | h
        · exact absurd h c
        · exact .inr ⟨h, hp⟩
        · exact .inl h
      rw [List.pairwise_cons, List.pairwise_cons]
      refine ⟨fun y hy => ?_, hs.1, hs.2⟩
      rw [List.mem_cons] at hy
      rcases hy with rfl | hy
      · exact hpx
      · have h1 := hs.1 y hy
        unfold ahead at *
        omega
theorem insAll_sorted (L : List Int) : ∀ (t s : List Int), s.Pairwise (fun a b => ahead L b a) → (∀ p ∈ s, ∀ x ∈ t, p < x) → t.Pairwise (· < ·) → (insAll L s t).Pairwise (fun a b => ahead L b a)
  | [], s, hs, _, _ => hs
  | x :: t, s, hs, hx, ht => by
    rw [List.pairwise_cons] at ht
    unfold insAll
    refine insAll_sorted L t (ins L x s) (ins_sorted L x s hs (fun p hp => hx p hp x (by simp))) (fun p hp y hy => ?_) ht.2
    rw [(ins_perm L x s).mem_iff, List.mem_cons] at hp
    rcases hp with rfl | hp
    · exact ht.1 y hy
    · exact hx p hp y (by simp [hy])
/-- The order of homes, and that it is one. -/
def sorted (L l : List Int) : List Int := (insAll L [] l).reverse
theorem sorted_perm (L l : List Int) : (sorted L l).Perm l := by
  refine (List.reverse_perm _).trans ((insAll_perm L l []).trans ?_)
  simp
theorem sorted_sorted (L l : List Int) (h : l.Pairwise (· < ·)) : (sorted L l).Pairwise (ahead L) := by
  unfold sorted
  rw [List.pairwise_reverse]
  exact insAll_sorted L l [] List.Pairwise.nil (by simp) h

/-! ### the program's sort -/
theorem cmp_f (L : List Int) (a b : Int) (ha : 0 ≤ a ∧ a < L.length) (hb : 0 ≤ b ∧ b < L.length) (hL : ∀ j, 0 ≤ rd L j ∧ rd L j ≤ 1000) : impl_spread_1.f a b L = some (rd L b - rd L a) := by
  unfold impl_spread_1.f
  rw [if_pos hb.1, if_pos hb.2, if_pos ha.1, if_pos ha.2, wrap_in (by have := hL a; have := hL b; omega) (by have := hL a; have := hL b; omega)]
theorem sort_l1 (L : List Int) (hL : ∀ j, 0 ≤ rd L j ∧ rd L j ≤ 1000) (n i : Int) (x : Int) (suf : List Int) (v : List Int) (hx : 0 ≤ x ∧ x < L.length) :
    ∀ (rest mid : List Int), rest.length + mid.length + suf.length < 1000 → (∀ p ∈ rest, 0 ≤ p ∧ p < (L.length : Int)) →
    Cm (fun k => slices_insertionSortCmpFunc_int_of_impl_spread_1.l0 k ((ins L x rest).reverse ++ mid ++ suf) 0 n (wrap64 (i + 1)) L) v →
    Cm (fun k => slices_insertionSortCmpFunc_int_of_impl_spread_1.l1 k (rest.reverse ++ x :: mid ++ suf) 0 n i (rest.length : Int) L) v := by
  intro rest
  induction rest with
  | nil =>
    intro mid hm hr hv
    refine cm_step (fun k => ?_) hv
    rw [slices_insertionSortCmpFunc_int_of_impl_spread_1.l1, if_neg (by simp)]
    simp [ins]
  | cons p t ih =>
    intro mid hm hr hv
    have hp := hr p (by simp)
    have e1 : (p :: t).reverse ++ x :: mid ++ suf = (t.reverse ++ [p]) ++ x :: (mid ++ suf) := by simp
    have e2 : (p :: t).reverse ++ x :: mid ++ suf = t.reverse ++ p :: (x :: mid ++ suf) := by simp
    have l1 : ((p :: t).length : Int) = ((t.reverse ++ [p]).length : Int) := by simp
    have l2 : ((t.length + 1 : Nat) : Int) - 1 = (t.reverse.length : Int) := by simp
    have r1 : rd ((p :: t).reverse ++ x :: mid ++ suf) ((p :: t).length : Int) = x := by rw [e1, l1]; exact rd_mid _ _ _
    have w1 : wrap64 (((p :: t).length : Int) - 1) = (t.length : Int) := by
      simp only [List.length_cons] at hm ⊢
      rw [wrap_in (by omega) (by omega)]; omega
    have r2 : rd ((p :: t).reverse ++ x :: mid ++ suf) (t.length : Int) = p := by
      have := rd_mid t.reverse p (x :: mid ++ suf)
      rw [← e2] at this
      simpa using this
    by_cases c : rd L p < rd L x
    · have hgo := ih (p :: mid) (by simp only [List.length_cons] at hm ⊢; omega) (fun q hq => hr q (by simp [hq])) (by
        have : ins L x (p :: t) = p :: ins L x t := by rw [ins, if_pos c]
        rw [this] at hv
        simpa using hv)
      refine cm_step (fun k => ?_) hgo
      rw [slices_insertionSortCmpFunc_int_of_impl_spread_1.l1, if_pos (by simp), if_pos (by omega), if_pos (by simp; omega), w1, if_pos (by omega), if_pos (by simp; omega), r1, r2, cmp_f L x p hx hp hL]
      simp only [Option.bind_some]
      rw [if_pos (by omega)]
      congr 1
      have f1 : ((p :: t).length : Int).toNat = t.length + 1 := by simp
      have f2 : ((t.length : Nat) : Int).toNat = t.length := by simp
      rw [f1, f2]
      have e3 : (p :: t).reverse ++ x :: mid ++ suf = t.reverse ++ (p :: x :: (mid ++ suf)) := by simp
      rw [e3, List.set_append_right _ _ (by simp), List.set_append_right _ _ (by simp)]
      simp
    · refine cm_step (fun k => ?_) hv
      rw [slices_insertionSortCmpFunc_int_of_impl_spread_1.l1, if_pos (by simp), if_pos (by omega), if_pos (by simp; omega), w1, if_pos (by omega), if_pos (by simp; omega), r1, r2, cmp_f L x p hx hp hL]
      simp only [Option.bind_some]
      rw [if_neg (by omega), ins, if_neg c]
      simp
theorem sort_l0 (L : List Int) (hL : ∀ j, 0 ≤ rd L j ∧ rd L j ≤ 1000) (n : Nat) (hn : n < 1000) : ∀ (t s : List Int), s.length + t.length = n → (∀ p ∈ s, 0 ≤ p ∧ p < (L.length : Int)) → (∀ p ∈ t, 0 ≤ p ∧ p < (L.length : Int)) →
    Cm (fun k => slices_insertionSortCmpFunc_int_of_impl_spread_1.l0 k (s.reverse ++ t) 0 (n : Int) (s.length : Int) L) (insAll L s t).reverse := by
  intro t
  induction t with
  | nil =>
    intro s hs _ _
    refine cm_last (fun k => ?_)
    rw [slices_insertionSortCmpFunc_int_of_impl_spread_1.l0, if_neg (by simp at hs; omega)]
    simp [insAll]
  | cons x t ih =>
    intro s hs hp ht
    have := ih (ins L x s) (by rw [ins_length]; simp at hs; omega) (fun p h => by
      rw [(ins_perm L x s).mem_iff, List.mem_cons] at h
      rcases h with rfl | h
      · exact ht _ (by simp)
      · exact hp p h) (fun p h => ht p (by simp [h]))
    refine cm_step (g := fun k => slices_insertionSortCmpFunc_int_of_impl_spread_1.l1 k (s.reverse ++ x :: t) 0 (n : Int) (s.length : Int) (s.length : Int) L) (fun k => ?_) ?_
    · rw [slices_insertionSortCmpFunc_int_of_impl_spread_1.l0, if_pos (by simp at hs; omega)]
    · have h1 := sort_l1 L hL n (s.length : Int) x t (insAll L s (x :: t)).reverse (ht x (by simp)) s [] (by simp at hs ⊢; omega) hp
      simp only [List.append_nil, List.append_assoc, List.singleton_append] at h1
      refine h1 ?_
      have w : wrap64 ((s.length : Int) + 1) = ((ins L x s).length : Int) := by
        rw [ins_length, wrap_in (by omega) (by simp at hs; omega)]; omega
      rw [w]
      exact this
/-- The sort, as it is called. -/
theorem sort_f (L : List Int) (hL : ∀ j, 0 ≤ rd L j ∧ rd L j ≤ 1000) (l : List Int) (hl : l.length < 20) (hp : ∀ p ∈ l, 0 ≤ p ∧ p < (L.length : Int)) :
    Cm (fun k => slices_SortStableFunc_int_int_of_impl_spread_1.f k l L) (sorted L l) := by
  have h0 : Cm (fun k => slices_insertionSortCmpFunc_int_of_impl_spread_1.f k l 0 (l.length : Int) L) (sorted L l) := by
    unfold slices_insertionSortCmpFunc_int_of_impl_spread_1.f
    cases l with
    | nil =>
      refine cm_last (fun k => ?_)
      rw [slices_insertionSortCmpFunc_int_of_impl_spread_1.l0, if_neg (by simp [wrap64])]
      rfl
    | cons x t =>
      have := sort_l0 L hL (x :: t).length (by omega) t [x] (by simp; omega) (fun p h => hp p (by simp at h; simp [h])) (fun p h => hp p (by simp [h]))
      simpa [wrap64, sorted, insAll, ins] using this
  have h1 : Cm (fun k => slices_stableCmpFunc_int_of_impl_spread_1.f k l (l.length : Int) L) (sorted L l) := by
    unfold slices_stableCmpFunc_int_of_impl_spread_1.f
    refine cm_step_bind (g := fun k t => slices_stableCmpFunc_int_of_impl_spread_1.l1 k t (l.length : Int) 20) (fun k => ?_) h0 ?_
    · rw [slices_stableCmpFunc_int_of_impl_spread_1.l0, if_neg (by omega)]
    · refine cm_last (fun k => ?_)
      rw [slices_stableCmpFunc_int_of_impl_spread_1.l1, if_neg (by omega)]
  unfold slices_SortStableFunc_int_int_of_impl_spread_1.f
  exact cm_bind h1 (cm_now fun _ => rfl)
end Go.Proofs.Ytgcliajajcinpaa.Spread
