/- Places: what the two programs' own tests and counts of places come to, as plain functions of lists. -/
import Derived.Test.YtgcliajajcinpaaPx3
import Derived.Test.YtgcliajajcinpaaPx4
import Derived.Test.YtgcliajajcinpaaPx13
import Derived.Test.YtgcliajajcinpaaPx15
import Derived.Test.YtgcliajajcinpaaBase
namespace Go.Proofs.Ytgcliajajcinpaa.Places
open Go.RowKit Go.Proofs.Ytgcliajajcinpaa.P Go.Proofs.YtgcliajajcinpaaW.PrintWords Go.Proofs.YtgcliajajcinpaaW.PrintLast Go.Proofs.YtgcliajajcinpaaW.PrintMore
open Go.Proofs.Ytgcliajajcinpaa.Pl Go.Proofs.Ytgcliajajcinpaa.Base

/-- Not a place of so many homes. -/
def bad (homes h : Int) : Bool := decide (h < -1 ∨ homes ≤ h)
/-- Good places. -/
def good (a : Int) (l : List Int) : Bool := !l.any (bad a) && decide (1 ≤ a ∧ a ≤ 6) && decide (l.length ≤ 16)
theorem good_iff {a : Int} {l : List Int} : good a l = true ↔ (∀ h ∈ l, -1 ≤ h ∧ h < a) ∧ (1 ≤ a ∧ a ≤ 6) ∧ l.length ≤ 16 := by
  simp only [good, Bool.and_eq_true, Bool.not_eq_true', List.any_eq_false, decide_eq_true_eq, bad]
  constructor
  · rintro ⟨⟨h1, h2⟩, h3⟩
    refine ⟨fun h hh => ?_, h2, h3⟩
    have := h1 h hh
    omega
  · rintro ⟨h1, h2, h3⟩
    refine ⟨⟨fun h hh => ?_, h2⟩, h3⟩
    have := h1 h hh
    omega
theorem spec_l0 (a : Int) (l : List Int) (hl : l.length ≤ 1048576) : ∀ (rest pre : List Int) (k : Nat), pre ++ rest = l → rest.length < k →
    spec_GoodPlaces.l0 k a l l (l.length : Int) (pre.length : Int) = some (!rest.any (bad a) && decide (1 ≤ a ∧ a ≤ 6) && decide (l.length ≤ 16)) := by
  intro rest
  induction rest with
  | nil =>
    intro pre k e hk
    obtain ⟨k, rfl⟩ := round hk
    have := len_end e
    simp only [spec_GoodPlaces.l0]
    rw [if_neg (by omega), l1In_f]
    by_cases h : 1 ≤ a ∧ a ≤ 6 <;> simp [h] <;> omega
  | cons h t ih =>
    intro pre k e hk
    obtain ⟨k, rfl⟩ := round hk
    have hlt := len_mid e
    simp only [spec_GoodPlaces.l0]
    rw [if_pos (by omega), if_pos (by omega), if_pos (by omega), rd_at e, wrap_len hlt (by omega)]
    have := ih (pre ++ [h]) k (app_mid e) (by simpa using hk)
    rw [len_one] at this
    rw [this]
    by_cases h1 : h < -1
    · rw [if_pos h1]; simp [bad, h1]
    · by_cases h2 : a ≤ h
      · rw [if_neg h1, if_pos h2]; simp [bad, h2]
      · rw [if_neg h1, if_neg h2]; simp [bad, h1, h2]
theorem spec_f (a : Int) (l : List Int) (hl : l.length ≤ 1048576) (k : Nat) (hk : l.length < k) : spec_GoodPlaces.f k a l = some (good a l) := by
  unfold spec_GoodPlaces.f
  exact spec_l0 a l hl l [] k rfl hk
theorem ix_l0 (a : Int) (l : List Int) (hl : l.length ≤ 1048576) (p : Int → Bool) (K : Nat) (hc : ∀ k h, h ∈ l → K ≤ k → impl_arePlaces_1.f h a = some (p h)) : ∀ (rest pre : List Int) (k : Nat), pre ++ rest = l → rest.length + K < k →
    slices_IndexFunc_int_int_of_impl_arePlaces_1.l0 k l (l.length : Int) (pre.length : Int) a = some (firstAt p rest (pre.length : Int)) := by
  intro rest
  induction rest with
  | nil =>
    intro pre k e hk
    obtain ⟨k, rfl⟩ := round hk
    have := len_end e
    simp only [slices_IndexFunc_int_int_of_impl_arePlaces_1.l0]
    rw [if_neg (by omega)]
    rfl
  | cons h t ih =>
    intro pre k e hk
    obtain ⟨k, rfl⟩ := round hk
    have hlt := len_mid e
    simp only [List.length_cons] at hk
    simp only [slices_IndexFunc_int_int_of_impl_arePlaces_1.l0]
    rw [if_pos (by omega), if_pos (by omega), if_pos (by omega), rd_at e, wrap_len hlt (by omega), hc k h (by rw [← e]; simp) (by omega)]
    simp only [Option.bind_some]
    have := ih (pre ++ [h]) k (app_mid e) (by omega)
    rw [len_one] at this
    unfold firstAt
    by_cases hp : p h = true
    · rw [if_pos hp, if_pos hp]
    · rw [if_neg hp, if_neg hp, this]
      congr 1
theorem ix_index (a : Int) (l : List Int) (hl : l.length ≤ 1048576) (p : Int → Bool) (K : Nat) (hc : ∀ k h, h ∈ l → K ≤ k → impl_arePlaces_1.f h a = some (p h)) (k : Nat) (hk : l.length + K < k) : slices_IndexFunc_int_int_of_impl_arePlaces_1.f k l a = some (firstAt p l 0) := by
  unfold slices_IndexFunc_int_int_of_impl_arePlaces_1.f
  exact ix_l0 a l hl p K hc l [] k rfl hk
theorem ix_any (a : Int) (l : List Int) (hl : l.length ≤ 1048576) (p : Int → Bool) (K : Nat) (hc : ∀ k h, h ∈ l → K ≤ k → impl_arePlaces_1.f h a = some (p h)) (k : Nat) (hk : l.length + K < k) : slices_ContainsFunc_int_int_of_impl_arePlaces_1.f k l a = some (l.any p) := by
  unfold slices_ContainsFunc_int_int_of_impl_arePlaces_1.f
  rw [ix_index a l hl p K hc k hk]
  simp only [Option.bind_some]
  rw [firstAt_any p l 0 (by omega)]
theorem bad_f (a h : Int) (ha : 1 ≤ a ∧ a ≤ 6) : impl_arePlaces_1.f h a = some (bad a h) := by
  unfold impl_arePlaces_1.f
  rw [in_f, wrap_in (by omega) (by omega)]
  simp only [Option.bind_some, Option.some.injEq, bad, ← decide_not]
  congr 1
  apply propext
  omega
theorem are_f (a : Int) (l : List Int) (hl : l.length ≤ 1048576) (k : Nat) (hk : l.length < k) : impl_arePlaces.f k a l = some (good a l) := by
  unfold impl_arePlaces.f
  rw [in_f]
  simp only [Option.bind_some]
  by_cases ha : 1 ≤ a ∧ a ≤ 6
  · by_cases hl2 : l.length ≤ 16
    · rw [if_pos (by simpa using ha), if_pos (by omega), ix_any a l hl (bad a) 0 (fun _ h _ _ => bad_f a h ha) k (by omega)]
      simp [good, ha, hl2]
    · rw [if_pos (by simpa using ha), if_neg (by omega)]
      simp [good, hl2]
  · rw [if_neg (by simpa using ha)]
    simp [good, ha]
theorem impl_f (a : Int) (l : List Int) (hl : l.length ≤ 1048576) (k : Nat) (hk : l.length < k) : impl_GoodPlaces.f k a l = some (good a l) := by
  unfold impl_GoodPlaces.f
  rw [are_f a l hl k hk]
  rfl

/-- One more at a home. -/
def count (acc : List Int) (h : Int) : List Int := if h ≥ 0 then acc.set h.toNat (rd acc h + 1) else acc
/-- How many are at each home. -/
def loads (homes : Int) (l : List Int) : List Int := l.foldl count (List.replicate homes.toNat 0)
theorem count_length (acc : List Int) (h : Int) : (count acc h).length = acc.length := by
  unfold count
  split <;> simp
theorem loads_length (homes : Int) (l : List Int) : (loads homes l).length = homes.toNat := by
  unfold loads
  have : ∀ (l acc : List Int), (l.foldl count acc).length = acc.length := by
    intro l
    induction l with
    | nil => intro acc; rfl
    | cons h t ih => intro acc; rw [List.foldl_cons, ih, count_length]
  rw [this]; simp
theorem set_le {acc : List Int} {m : Int} {i : Nat} {v : Int} (h : ∀ x ∈ acc, 0 ≤ x ∧ x ≤ m) (hv : 0 ≤ v ∧ v ≤ m) : ∀ x ∈ acc.set i v, 0 ≤ x ∧ x ≤ m := by
  intro x hx
  rcases List.mem_or_eq_of_mem_set hx with hx | rfl
  · exact h x hx
  · exact hv
theorem rd_le {acc : List Int} {m : Int} (hm : 0 ≤ m) (h : ∀ x ∈ acc, 0 ≤ x ∧ x ≤ m) (i : Int) : 0 ≤ rd acc i ∧ rd acc i ≤ m := by
  unfold rd
  rw [List.getD_eq_getElem?_getD]
  cases e : acc[i.toNat]? with
  | none => simp; exact hm
  | some x => exact h x (List.mem_of_getElem? e)
theorem count_le {acc : List Int} {h m : Int} (hm : 0 ≤ m) (ha : ∀ x ∈ acc, 0 ≤ x ∧ x ≤ m) : ∀ x ∈ count acc h, 0 ≤ x ∧ x ≤ m + 1 := by
  have hw : ∀ x ∈ acc, 0 ≤ x ∧ x ≤ m + 1 := fun x hx => by have := ha x hx; omega
  unfold count
  split
  · exact set_le hw (by have := rd_le hm ha h; omega)
  · exact hw
theorem spec_loads_l0 (a : Int) (l : List Int) (hl : l.length ≤ 1048576) (hg : ∀ h ∈ l, h < a) : ∀ (rest pre acc : List Int) (k : Nat), pre ++ rest = l → (acc.length : Int) = a → (∀ x ∈ acc, 0 ≤ x ∧ x ≤ (pre.length : Int)) → rest.length < k →
    spec_l13Loads.l0 k acc l (l.length : Int) (pre.length : Int) = some (rest.foldl count acc) := by
  intro rest
  induction rest with
  | nil =>
    intro pre acc k e ha hb hk
    obtain ⟨k, rfl⟩ := round hk
    have := len_end e
    simp only [spec_l13Loads.l0]
    rw [if_neg (by omega)]
    rfl
  | cons h t ih =>
    intro pre acc k e ha hb hk
    obtain ⟨k, rfl⟩ := round hk
    have hlt := len_mid e
    have hh : h < a := hg h (by rw [← e]; simp)
    simp only [spec_l13Loads.l0]
    rw [if_pos (by omega), if_pos (by omega), if_pos (by omega), rd_at e, wrap_len hlt (by omega)]
    have hc := count_le (h := h) (by omega) hb
    have := ih (pre ++ [h]) (count acc h) k (app_mid e) (by rw [count_length]; exact ha) (by rw [len_one]; simpa using hc) (by simpa using hk)
    rw [len_one] at this
    rw [List.foldl_cons, ← this]
    by_cases h1 : h ≥ 0
    · have hr := rd_le (by omega) hb h
      rw [if_pos h1, if_pos h1, if_pos (by omega), wrap_in (by omega) (by omega)]
      simp [count, h1]
    · rw [if_neg h1]
      simp [count, h1]
theorem spec_loads_f (a : Int) (l : List Int) (hg : good a l = true) (k : Nat) (hk : l.length < k) : spec_l13Loads.f k a l = some (loads a l) := by
  obtain ⟨h1, h2, h3⟩ := good_iff.1 hg
  unfold spec_l13Loads.f
  rw [if_pos (by omega), if_pos (by omega)]
  exact spec_loads_l0 a l (by omega) (fun h hh => (h1 h hh).2) l [] _ k rfl (by simp; omega) (by simp) hk
theorem impl_loads_l0 (a : Int) (l : List Int) (hl : l.length ≤ 1048576) (hg : ∀ h ∈ l, h < a) : ∀ (rest pre acc : List Int) (k : Nat), pre ++ rest = l → (acc.length : Int) = a → (∀ x ∈ acc, 0 ≤ x ∧ x ≤ (pre.length : Int)) → rest.length < k →
    impl_loadsOf.l0 k acc l (l.length : Int) (pre.length : Int) = some (rest.foldl count acc) := by
  intro rest
  induction rest with
  | nil =>
    intro pre acc k e ha hb hk
    obtain ⟨k, rfl⟩ := round hk
    have := len_end e
    simp only [impl_loadsOf.l0]
    rw [if_neg (by omega)]
    rfl
  | cons h t ih =>
    intro pre acc k e ha hb hk
    obtain ⟨k, rfl⟩ := round hk
    have hlt := len_mid e
    have hh : h < a := hg h (by rw [← e]; simp)
    simp only [impl_loadsOf.l0]
    rw [if_pos (by omega), if_pos (by omega), if_pos (by omega), rd_at e, wrap_len hlt (by omega)]
    have hc := count_le (h := h) (by omega) hb
    have := ih (pre ++ [h]) (count acc h) k (app_mid e) (by rw [count_length]; exact ha) (by rw [len_one]; simpa using hc) (by simpa using hk)
    rw [len_one] at this
    rw [List.foldl_cons, ← this]
    by_cases h1 : h ≥ 0
    · have hr := rd_le (by omega) hb h
      rw [if_pos h1, if_pos h1, if_pos (by omega), wrap_in (by omega) (by omega)]
      simp [count, h1]
    · rw [if_neg h1]
      simp [count, h1]
theorem impl_loads_f (a : Int) (l : List Int) (hg : good a l = true) (k : Nat) (hk : l.length < k) : impl_loadsOf.f k a l = some (loads a l) := by
  obtain ⟨h1, h2, h3⟩ := good_iff.1 hg
  unfold impl_loadsOf.f
  rw [if_pos (by omega), if_pos (by omega)]
  exact impl_loads_l0 a l (by omega) (fun h hh => (h1 h hh).2) l [] _ k rfl (by simp; omega) (by simp) hk
/-- What LoadsOf answers. -/
def loadsOf (a : Int) (l : List Int) : List Int × Bool := if good a l = true then (loads a l, true) else ([], false)
theorem spec_loadsOf_f (a : Int) (l : List Int) (hl : l.length ≤ 1048576) (k : Nat) (hk : l.length < k) : spec_LoadsOf.f k a l = some (loadsOf a l) := by
  unfold spec_LoadsOf.f loadsOf
  rw [spec_f a l hl k hk]
  simp only [Option.bind_some]
  by_cases hg : good a l = true
  · rw [if_pos hg, if_pos hg, spec_loads_f a l hg k hk]; rfl
  · rw [if_neg hg, if_neg hg]
theorem impl_loadsOf_f (a : Int) (l : List Int) (hl : l.length ≤ 1048576) (k : Nat) (hk : l.length < k) : impl_LoadsOf.f k a l = some (loadsOf a l) := by
  unfold impl_LoadsOf.f loadsOf
  rw [are_f a l hl k hk]
  simp only [Option.bind_some]
  by_cases hg : good a l = true
  · rw [if_pos hg, if_pos hg, impl_loads_f a l hg k hk]; rfl
  · rw [if_neg hg, if_neg hg]
theorem loadsOf_length (a : Int) (l : List Int) : (loadsOf a l).1.length ≤ 6 := by
  unfold loadsOf
  by_cases hg : good a l = true
  · rw [if_pos hg]
    show (loads a l).length ≤ 6
    rw [loads_length]
    have := (good_iff.1 hg).2.1
    omega
  · rw [if_neg hg]; simp
end Go.Proofs.Ytgcliajajcinpaa.Places
