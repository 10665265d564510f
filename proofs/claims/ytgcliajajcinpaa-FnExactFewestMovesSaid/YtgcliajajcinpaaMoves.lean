/- How many items are elsewhere: what MovesTo comes to in both programs. -/
import Derived.Test.YtgcliajajcinpaaPx8
import Derived.Test.YtgcliajajcinpaaPx16
import Derived.Test.YtgcliajajcinpaaBase
namespace Go.Proofs.Ytgcliajajcinpaa.Moves
open Go.RowKit Go.Proofs.Ytgcliajajcinpaa.P Go.Proofs.YtgcliajajcinpaaW.PrintWords Go.Proofs.YtgcliajajcinpaaW.PrintLast Go.Proofs.YtgcliajajcinpaaW.PrintMore
open Go.Proofs.Ytgcliajajcinpaa.Pl Go.Proofs.Ytgcliajajcinpaa.Base

def low (h : Int) : Bool := decide (h < -1)
def moves : List Int → List Int → Int
  | a :: ta, b :: tb => (if a = b then 0 else 1) + moves ta tb
  | _, _ => 0
theorem moves_le : ∀ (a b : List Int), 0 ≤ moves a b ∧ moves a b ≤ a.length
  | [], _ => by simp [moves]
  | _ :: _, [] => by simp [moves]; omega
  | a :: ta, b :: tb => by
    have := moves_le ta tb
    simp only [moves, List.length_cons]
    split <;> omega
def movesTo (a b : List Int) : Int × Bool := if (!a.any low && !b.any low) = true ∧ a.length = b.length then (moves a b, true) else (0, false)
theorem spec_moves_l0 (a b : List Int) (hl : a.length ≤ 1048576) : ∀ (ra rb pa pb : List Int) (m : Int) (k : Nat), pa ++ ra = a → pb ++ rb = b → pa.length = pb.length → ra.length = rb.length → 0 ≤ m → m ≤ pa.length → ra.length < k →
    spec_l13Moves.l0 k a b m (a.length : Int) (pa.length : Int) = some (m + moves ra rb) := by
  intro ra
  induction ra with
  | nil =>
    intro rb pa pb m k ea eb hp hr h0 hm hk
    obtain ⟨k, rfl⟩ := round hk
    have := len_end ea
    simp only [spec_l13Moves.l0]
    rw [if_neg (by omega)]
    simp [moves]
  | cons x ta ih =>
    intro rb pa pb m k ea eb hp hr h0 hm hk
    obtain ⟨k, rfl⟩ := round hk
    match rb, hr with
    | y :: tb, hr =>
    have hlt := len_mid ea
    have hltb := len_mid eb
    have e2 : rd b (pa.length : Int) = y := by rw [hp]; exact rd_at eb
    simp only [spec_l13Moves.l0]
    rw [if_pos (by omega), if_pos (by omega), if_pos (by omega), if_pos (by omega), rd_at ea, e2, wrap_len hlt (by omega), wrap_in (by omega) (by omega)]
    by_cases h : x = y
    · have := ih tb (pa ++ [x]) (pb ++ [y]) m k (app_mid ea) (app_mid eb) (by simpa using hp) (by simpa using hr) h0 (by rw [len_one]; omega) (by simpa using hk)
      rw [len_one] at this
      rw [if_pos h, this]
      simp [moves, h]
    · have := ih tb (pa ++ [x]) (pb ++ [y]) (m + 1) k (app_mid ea) (app_mid eb) (by simpa using hp) (by simpa using hr) (by omega) (by rw [len_one]; omega) (by simpa using hk)
      rw [len_one] at this
      rw [if_neg h, this]
      simp [moves, h]
      omega
theorem spec_moves_f (a b : List Int) (hl : a.length ≤ 1048576) (he : a.length = b.length) (k : Nat) (hk : a.length < k) : spec_l13Moves.f k a b = some (moves a b) := by
  unfold spec_l13Moves.f
  have := spec_moves_l0 a b hl a b [] [] 0 k rfl rfl rfl he (by omega) (by simp) hk
  rw [Int.zero_add] at this
  exact this
theorem impl_moves_l0 (a b : List Int) (hl : a.length ≤ 1048576) : ∀ (ra rb pa pb : List Int) (m : Int) (k : Nat), pa ++ ra = a → pb ++ rb = b → pa.length = pb.length → ra.length = rb.length → 0 ≤ m → m ≤ pa.length → ra.length < k →
    impl_elsewhere.l0 k b m a (a.length : Int) (pa.length : Int) = some (m + moves ra rb) := by
  intro ra
  induction ra with
  | nil =>
    intro rb pa pb m k ea eb hp hr h0 hm hk
    obtain ⟨k, rfl⟩ := round hk
    have := len_end ea
    simp only [impl_elsewhere.l0]
    rw [if_neg (by omega)]
    simp [moves]
  | cons x ta ih =>
    intro rb pa pb m k ea eb hp hr h0 hm hk
    obtain ⟨k, rfl⟩ := round hk
    match rb, hr with
    | y :: tb, hr =>
    have hlt := len_mid ea
    have hltb := len_mid eb
    have e2 : rd b (pa.length : Int) = y := by rw [hp]; exact rd_at eb
    simp only [impl_elsewhere.l0]
    rw [if_pos (by omega), if_pos (by omega), if_pos (by omega), if_pos (by omega), rd_at ea, e2, wrap_len hlt (by omega), wrap_in (by omega) (by omega)]
    by_cases h : x = y
    · have := ih tb (pa ++ [x]) (pb ++ [y]) m k (app_mid ea) (app_mid eb) (by simpa using hp) (by simpa using hr) h0 (by rw [len_one]; omega) (by simpa using hk)
      rw [len_one] at this
      rw [if_pos h, this]
      simp [moves, h]
    · have := ih tb (pa ++ [x]) (pb ++ [y]) (m + 1) k (app_mid ea) (app_mid eb) (by simpa using hp) (by simpa using hr) (by omega) (by rw [len_one]; omega) (by simpa using hk)
      rw [len_one] at this
      rw [if_neg h, this]
      simp [moves, h]
      omega
theorem impl_moves_f (a b : List Int) (hl : a.length ≤ 1048576) (he : a.length = b.length) (k : Nat) (hk : a.length < k) : impl_elsewhere.f k a b = some (moves a b) := by
  unfold impl_elsewhere.f
  have := impl_moves_l0 a b hl a b [] [] 0 k rfl rfl rfl he (by omega) (by simp) hk
  rw [Int.zero_add] at this
  exact this
theorem spec_l1 (a b : List Int) (hl : a.length ≤ 1048576) (hlb : b.length ≤ 1048576) : ∀ (rest pre : List Int) (k : Nat), pre ++ rest = b → rest.length + a.length + 1 < k →
    spec_MovesTo.l1 k a b b (b.length : Int) (pre.length : Int) = some (if rest.any low = false ∧ a.length = b.length then (moves a b, true) else (0, false)) := by
  intro rest
  induction rest with
  | nil =>
    intro pre k e hk
    obtain ⟨k, rfl⟩ := round hk
    have := len_end e
    simp only [spec_MovesTo.l1]
    rw [if_neg (by omega)]
    by_cases he : a.length = b.length
    · rw [if_pos (by omega), spec_moves_f a b hl he k (by simp at hk; omega)]
      simp [he]
    · rw [if_neg (by omega)]
      simp [he]
  | cons h t ih =>
    intro pre k e hk
    obtain ⟨k, rfl⟩ := round hk
    have hlt := len_mid e
    simp only [List.length_cons] at hk
    simp only [spec_MovesTo.l1]
    rw [if_pos (by omega), if_pos (by omega), if_pos (by omega), rd_at e, wrap_len hlt (by omega)]
    have := ih (pre ++ [h]) k (app_mid e) (by omega)
    rw [len_one] at this
    rw [this]
    by_cases h1 : h < -1
    · rw [if_pos h1]; simp [low, h1]
    · rw [if_neg h1]; simp [low, h1]
theorem spec_l0 (a b : List Int) (hl : a.length ≤ 1048576) (hlb : b.length ≤ 1048576) : ∀ (rest pre : List Int) (k : Nat), pre ++ rest = a → rest.length + b.length + a.length + 2 < k →
    spec_MovesTo.l0 k a b a (a.length : Int) (pre.length : Int) = some (if rest.any low = false ∧ b.any low = false ∧ a.length = b.length then (moves a b, true) else (0, false)) := by
  intro rest
  induction rest with
  | nil =>
    intro pre k e hk
    obtain ⟨k, rfl⟩ := round hk
    have := len_end e
    simp only [spec_MovesTo.l0]
    rw [if_neg (by omega)]
    have := spec_l1 a b hl hlb b [] k rfl (by simp at hk; omega)
    simp only [List.length_nil] at this
    rw [show (0 : Int) = ((0 : Nat) : Int) from rfl, this]
    simp
  | cons h t ih =>
    intro pre k e hk
    obtain ⟨k, rfl⟩ := round hk
    have hlt := len_mid e
    simp only [List.length_cons] at hk
    simp only [spec_MovesTo.l0]
    rw [if_pos (by omega), if_pos (by omega), if_pos (by omega), rd_at e, wrap_len hlt (by omega)]
    have := ih (pre ++ [h]) k (app_mid e) (by omega)
    rw [len_one] at this
    rw [this]
    by_cases h1 : h < -1
    · rw [if_pos h1]; simp [low, h1]
    · rw [if_neg h1]; simp [low, h1]
theorem spec_movesTo_f (a b : List Int) (hl : a.length ≤ 1048576) (hlb : b.length ≤ 1048576) (k : Nat) (hk : a.length + b.length + a.length + 2 < k) : spec_MovesTo.f k a b = some (movesTo a b) := by
  unfold spec_MovesTo.f movesTo
  have := spec_l0 a b hl hlb a [] k rfl hk
  simp only [List.length_nil] at this
  rw [show (0 : Int) = ((0 : Nat) : Int) from rfl, this]
  congr 1
  simp [and_assoc]
theorem ia_l0 (l : List Int) (hl : l.length ≤ 1048576) (p : Int → Bool) (K : Nat) (hc : ∀ k h, h ∈ l → K ≤ k → impl_MovesTo_1.f h = some (p h)) : ∀ (rest pre : List Int) (k : Nat), pre ++ rest = l → rest.length + K < k →
    slices_IndexFunc_int_int_of_impl_MovesTo_1.l0 k l (l.length : Int) (pre.length : Int) = some (firstAt p rest (pre.length : Int)) := by
  intro rest
  induction rest with
  | nil =>
    intro pre k e hk
    obtain ⟨k, rfl⟩ := round hk
    have := len_end e
    simp only [slices_IndexFunc_int_int_of_impl_MovesTo_1.l0]
    rw [if_neg (by omega)]
    rfl
  | cons h t ih =>
    intro pre k e hk
    obtain ⟨k, rfl⟩ := round hk
    have hlt := len_mid e
    simp only [List.length_cons] at hk
    simp only [slices_IndexFunc_int_int_of_impl_MovesTo_1.l0]
    rw [if_pos (by omega), if_pos (by omega), if_pos (by omega), rd_at e, wrap_len hlt (by omega), hc k h (by rw [← e]; simp) (by omega)]
    simp only [Option.bind_some]
    have := ih (pre ++ [h]) k (app_mid e) (by omega)
    rw [len_one] at this
    unfold firstAt
    by_cases hp : p h = true
    · rw [if_pos hp, if_pos hp]
    · rw [if_neg hp, if_neg hp, this]
      congr 1
theorem ia_index (l : List Int) (hl : l.length ≤ 1048576) (p : Int → Bool) (K : Nat) (hc : ∀ k h, h ∈ l → K ≤ k → impl_MovesTo_1.f h = some (p h)) (k : Nat) (hk : l.length + K < k) : slices_IndexFunc_int_int_of_impl_MovesTo_1.f k l = some (firstAt p l 0) := by
  unfold slices_IndexFunc_int_int_of_impl_MovesTo_1.f
  exact ia_l0 l hl p K hc l [] k rfl hk
theorem ia_any (l : List Int) (hl : l.length ≤ 1048576) (p : Int → Bool) (K : Nat) (hc : ∀ k h, h ∈ l → K ≤ k → impl_MovesTo_1.f h = some (p h)) (k : Nat) (hk : l.length + K < k) : slices_ContainsFunc_int_int_of_impl_MovesTo_1.f k l = some (l.any p) := by
  unfold slices_ContainsFunc_int_int_of_impl_MovesTo_1.f
  rw [ia_index l hl p K hc k hk]
  simp only [Option.bind_some]
  rw [firstAt_any p l 0 (by omega)]
theorem ib_l0 (l : List Int) (hl : l.length ≤ 1048576) (p : Int → Bool) (K : Nat) (hc : ∀ k h, h ∈ l → K ≤ k → impl_MovesTo_2.f h = some (p h)) : ∀ (rest pre : List Int) (k : Nat), pre ++ rest = l → rest.length + K < k →
    slices_IndexFunc_int_int_of_impl_MovesTo_2.l0 k l (l.length : Int) (pre.length : Int) = some (firstAt p rest (pre.length : Int)) := by
  intro rest
  induction rest with
  | nil =>
    intro pre k e hk
    obtain ⟨k, rfl⟩ := round hk
    have := len_end e
    simp only [slices_IndexFunc_int_int_of_impl_MovesTo_2.l0]
    rw [if_neg (by omega)]
    rfl
  | cons h t ih =>
    intro pre k e hk
    obtain ⟨k, rfl⟩ := round hk
    have hlt := len_mid e
    simp only [List.length_cons] at hk
    simp only [slices_IndexFunc_int_int_of_impl_MovesTo_2.l0]
    rw [if_pos (by omega), if_pos (by omega), if_pos (by omega), rd_at e, wrap_len hlt (by omega), hc k h (by rw [← e]; simp) (by omega)]
    simp only [Option.bind_some]
    have := ih (pre ++ [h]) k (app_mid e) (by omega)
    rw [len_one] at this
    unfold firstAt
    by_cases hp : p h = true
    · rw [if_pos hp, if_pos hp]
    · rw [if_neg hp, if_neg hp, this]
      congr 1
theorem ib_index (l : List Int) (hl : l.length ≤ 1048576) (p : Int → Bool) (K : Nat) (hc : ∀ k h, h ∈ l → K ≤ k → impl_MovesTo_2.f h = some (p h)) (k : Nat) (hk : l.length + K < k) : slices_IndexFunc_int_int_of_impl_MovesTo_2.f k l = some (firstAt p l 0) := by
  unfold slices_IndexFunc_int_int_of_impl_MovesTo_2.f
  exact ib_l0 l hl p K hc l [] k rfl hk
theorem ib_any (l : List Int) (hl : l.length ≤ 1048576) (p : Int → Bool) (K : Nat) (hc : ∀ k h, h ∈ l → K ≤ k → impl_MovesTo_2.f h = some (p h)) (k : Nat) (hk : l.length + K < k) : slices_ContainsFunc_int_int_of_impl_MovesTo_2.f k l = some (l.any p) := by
  unfold slices_ContainsFunc_int_int_of_impl_MovesTo_2.f
  rw [ib_index l hl p K hc k hk]
  simp only [Option.bind_some]
  rw [firstAt_any p l 0 (by omega)]
theorem impl_movesTo_f (a b : List Int) (hl : a.length ≤ 1048576) (hlb : b.length ≤ 1048576) (k : Nat) (hk : a.length + b.length + a.length + 2 < k) : impl_MovesTo.f k a b = some (movesTo a b) := by
  unfold impl_MovesTo.f movesTo
  by_cases he : a.length = b.length
  · rw [if_pos (by omega), ia_any a hl low 0 (fun _ _ _ _ => rfl) k (by omega)]
    simp only [Option.bind_some]
    by_cases ha : a.any low = true
    · rw [if_pos ha]; simp [ha]
    · rw [if_neg ha, ib_any b hlb low 0 (fun _ _ _ _ => rfl) k (by omega)]
      simp only [Option.bind_some]
      by_cases hb : b.any low = true
      · rw [if_pos hb]; simp [hb]
      · rw [if_neg hb, impl_moves_f a b hl he k (by omega)]
        simp only [Option.bind_some]
        rw [if_pos ⟨by simp [Bool.not_eq_true _ ▸ ha, Bool.not_eq_true _ ▸ hb], he⟩]
  · rw [if_neg (by omega)]
    simp [he]
end Go.Proofs.Ytgcliajajcinpaa.Moves
