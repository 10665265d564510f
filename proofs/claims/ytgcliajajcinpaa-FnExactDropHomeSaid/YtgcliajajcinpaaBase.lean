/- What the laws' own helpers come to: a copy is the list itself, 'equal' is equality, marks are numbers in a row, and are held where they stand. -/
import Derived.Test.YtgcliajajcinpaaPx1
import Derived.Test.YtgcliajajcinpaaPx2
import Derived.Test.YtgcliajajcinpaaPx9
import Derived.Test.YtgcliajajcinpaaPl
namespace Go.Proofs.Ytgcliajajcinpaa.Base
open Go.RowKit Go.Proofs.Ytgcliajajcinpaa.P Go.Proofs.YtgcliajajcinpaaW.PrintWords Go.Proofs.YtgcliajajcinpaaW.PrintLast Go.Proofs.YtgcliajajcinpaaW.PrintMore
open Go.Proofs.Ytgcliajajcinpaa.Pl

theorem toIntS_l0 (l : List Int) (hl : l.length ≤ 1048576) : ∀ (rest pre acc : List Int) (k : Nat), pre ++ rest = l → acc.length = rest.length → rest.length < k →
    laws_toIntS.l0 k l (pre ++ acc) (pre.length : Int) = some l := by
  intro rest
  induction rest with
  | nil =>
    intro pre acc k e ha hk
    obtain ⟨k, rfl⟩ := round hk
    obtain rfl : acc = [] := List.length_eq_zero_iff.1 ha
    simp only [List.append_nil] at e ⊢
    subst e
    simp only [laws_toIntS.l0]
    rw [if_neg (by omega)]
  | cons h t ih =>
    intro pre acc k e ha hk
    obtain ⟨k, rfl⟩ := round hk
    have hlt := len_mid e
    match acc, ha with
    | a :: acc, ha =>
    simp only [laws_toIntS.l0]
    rw [if_pos (by omega), if_pos (by omega), if_pos (by simp; omega), wrap_len hlt (by omega), rd_at e, Int.toNat_natCast]
    have e3 : (pre ++ a :: acc).set pre.length h = (pre ++ [h]) ++ acc := by simp
    have := ih (pre ++ [h]) acc k (app_mid e) (by simpa using ha) (by simpa using hk)
    rw [len_one] at this
    rw [e3]
    exact this
theorem toIntS_f (l : List Int) (hl : l.length ≤ 1048576) (k : Nat) (hk : l.length < k) : laws_toIntS.f k l = some l := by
  unfold laws_toIntS.f
  rw [if_pos (by omega), if_pos (by omega)]
  exact toIntS_l0 l hl l [] _ k rfl (by simp) hk
theorem eqIntS_l0 (l m : List Int) (hl : l.length ≤ 1048576) : ∀ (rest rest' pre pre' : List Int) (k : Nat), pre ++ rest = l → pre' ++ rest' = m → pre.length = pre'.length → rest.length = rest'.length → rest.length < k →
    laws_eqIntS.l0 k l m (pre.length : Int) = some (rest == rest') := by
  intro rest
  induction rest with
  | nil =>
    intro rest' pre pre' k e e' hp hr hk
    obtain ⟨k, rfl⟩ := round hk
    obtain rfl : rest' = [] := List.length_eq_zero_iff.1 hr.symm
    have := len_end e
    simp only [laws_eqIntS.l0]
    rw [if_neg (by omega)]
    rfl
  | cons h t ih =>
    intro rest' pre pre' k e e' hp hr hk
    obtain ⟨k, rfl⟩ := round hk
    match rest', hr with
    | h' :: t', hr =>
    have hlt := len_mid e
    have hlt' := len_mid e'
    have e2 : rd m (pre.length : Int) = h' := by rw [hp]; exact rd_at e'
    simp only [laws_eqIntS.l0]
    rw [if_pos (by omega), if_pos (by omega), if_pos (by omega), rd_at e, e2, wrap_len hlt (by omega)]
    have := ih t' (pre ++ [h]) (pre' ++ [h']) k (app_mid e) (app_mid e') (by simpa using hp) (by simpa using hr) (by simpa using hk)
    rw [len_one] at this
    rw [this]
    by_cases hh : h = h'
    · rw [if_pos hh]; simp [hh]
    · rw [if_neg hh]; simp [hh]
theorem eqIntS_f (l m : List Int) (hl : l.length ≤ 1048576) (k : Nat) (hk : l.length < k) : laws_eqIntS.f k l m = some (l == m) := by
  unfold laws_eqIntS.f
  by_cases h : l.length = m.length
  · rw [if_pos (by omega)]
    exact eqIntS_l0 l m hl l m [] [] k rfl rfl rfl h hk
  · rw [if_neg (by omega)]
    have : (l == m) = false := by
      rw [beq_eq_false_iff_ne]
      intro e
      exact h (by rw [e])
    rw [this]
theorem eqIntS_same (l : List Int) (hl : l.length ≤ 1048576) (k : Nat) (hk : l.length < k) : laws_eqIntS.f k l l = some true := by
  rw [eqIntS_f l l hl k hk]
  simp
theorem markIntS_l0 (n : Nat) (hn : n ≤ 1048576) : ∀ (rest pre : List Int) (m : Int) (k : Nat), pre.length + rest.length = n → 0 ≤ m → m + rest.length ≤ 4611686018427387904 → rest.length < k →
    laws_markIntS.l0 k (pre ++ rest) m (pre.length : Int) = some (m + rest.length, pre ++ marks rest.length m) := by
  intro rest
  induction rest with
  | nil =>
    intro pre m k e h0 hm hk
    obtain ⟨k, rfl⟩ := round hk
    simp only [laws_markIntS.l0]
    rw [if_neg (by simp)]
    simp [marks]
  | cons h t ih =>
    intro pre m k e h0 hm hk
    obtain ⟨k, rfl⟩ := round hk
    simp only [List.length_cons] at e hm hk
    simp only [laws_markIntS.l0]
    rw [if_pos (by simp; omega), if_pos (by omega), wrap_in (x := m + 1) (by omega) (by omega), wrap_len (n := pre.length) (m := n) (by omega) (by omega), Int.toNat_natCast]
    have e3 : (pre ++ h :: t).set pre.length m = (pre ++ [m]) ++ t := by simp
    have := ih (pre ++ [m]) (m + 1) k (by simp; omega) (by omega) (by omega) (by omega)
    rw [len_one] at this
    rw [e3, this]
    simp [marks]
    omega
theorem markIntS_f (l : List Int) (m : Int) (k : Nat) (hl : l.length ≤ 1048576) (h0 : 0 ≤ m) (hm : m ≤ 1152921504606846976) (hk : l.length < k) : laws_markIntS.f k l m = some (m + l.length, marks l.length m) := by
  unfold laws_markIntS.f
  exact markIntS_l0 l.length hl l [] m k (by simp) h0 (by omega) hk
theorem heldIntS_l0 (n : Nat) (hn : n ≤ 1048576) (l : List Int) : ∀ (d : Nat) (pre : List Int) (m : Int) (k : Nat), pre ++ marks d m = l → pre.length + d = n → 0 ≤ m → m + d ≤ 4611686018427387904 → d < k →
    laws_heldIntS.l0 k l m (pre.length : Int) = some (m + d) := by
  intro d
  induction d with
  | zero =>
    intro pre m k e hd h0 hm hk
    obtain ⟨k, rfl⟩ := round hk
    have := len_end e
    simp only [laws_heldIntS.l0]
    rw [if_neg (by omega)]
    simp
  | succ d ih =>
    intro pre m k e hd h0 hm hk
    obtain ⟨k, rfl⟩ := round hk
    simp only [marks] at e
    have hlt := len_mid e
    simp only [laws_heldIntS.l0]
    rw [if_pos (by omega), if_pos (by omega), rd_at e, if_pos rfl, wrap_in (x := m + 1) (by omega) (by omega), wrap_len (n := pre.length) (m := n) (by omega) (by omega)]
    have := ih (pre ++ [m]) (m + 1) k (app_mid e) (by simp; omega) (by omega) (by omega) (by omega)
    rw [len_one] at this
    rw [this]
    simp
    omega
theorem heldIntS_f (n : Nat) (m : Int) (k : Nat) (hn : n ≤ 1048576) (h0 : 0 ≤ m) (hm : m ≤ 1152921504606846976) (hk : n < k) : laws_heldIntS.f k (marks n m) m = some (m + n) := by
  unfold laws_heldIntS.f
  exact heldIntS_l0 n hn _ n [] m k rfl (by simp) h0 (by omega) hk
theorem in_f (a b c : Int) : impl_in.f a b c = some (decide (b ≤ a ∧ a ≤ c)) := by
  unfold impl_in.f
  split <;> simp <;> omega
theorem l1In_f (a b c : Int) : spec_l1In.f a b c = some (decide (b ≤ a ∧ a ≤ c)) := by
  unfold spec_l1In.f
  split <;> simp <;> omega
end Go.Proofs.Ytgcliajajcinpaa.Base
