-- Written by programs of this session (wip/prune.py, wip/xp.py), out of the translation and the printed words; what the law does not reach is left out. Not trusted: Lean checks it.
import Derived.Test.YtgcliajajcinpaaZFnSpreadW0
import Derived.Test.YtgcliajajcinpaaZFnSpreadPx1
import Derived.Test.YtgcliajajcinpaaZFnSpreadPx0
import Derived.Test.YtgcliajajcinpaaZFnSpreadPx8
import Derived.Test.YtgcliajajcinpaaZFnSpreadPx16
import Derived.Test.YtgcliajajcinpaaZFnSpreadPx3
import Derived.Test.YtgcliajajcinpaaZFnSpreadPx4
import Derived.Test.YtgcliajajcinpaaZFnSpreadPx13
import Derived.Test.YtgcliajajcinpaaZFnSpreadPx15
import Derived.Test.YtgcliajajcinpaaZFnSpreadPx5
import Derived.Test.YtgcliajajcinpaaZFnSpreadPx7
import Derived.Test.YtgcliajajcinpaaZFnSpreadPx6
import Derived.Test.YtgcliajajcinpaaZFnSpreadPx10
import Derived.Test.YtgcliajajcinpaaZFnSpreadPx14
import Derived.Test.YtgcliajajcinpaaZFnSpreadPx11
import Derived.Test.YtgcliajajcinpaaZFnSpreadPx18
import Derived.Test.YtgcliajajcinpaaZFnSpreadPx19
import Derived.Test.YtgcliajajcinpaaZFnSpreadPx20
import Derived.Laws.BitsAllLaws
import Derived.Test.YtgcliajajcinpaaZFnSpreadPx12
import Derived.Test.YtgcliajajcinpaaZFnSpreadPx30
import Derived.Test.YtgcliajajcinpaaZFnSpreadPx31
section
namespace Go.Proofs.Ytgcliajajcinpaa.Pl
open Go.RowKit Go.Proofs.YtgcliajajcinpaaW.PrintWords Go.Proofs.YtgcliajajcinpaaW.PrintLast Go.Proofs.YtgcliajajcinpaaW.PrintMore
theorem wrap_in {x : Int} (h0 : -9223372036854775808 ≤ x) (h1 : x ≤ 9223372036854775807) : wrap64 x = x := by
  unfold wrap64
  omega
theorem wrap_len {n m : Nat} (h : n < m) (hm : m ≤ 4611686018427387904) : wrap64 ((n : Int) + 1) = ((n + 1 : Nat) : Int) := by
  rw [wrap_in (by omega) (by omega)]
  omega
theorem round {k d : Nat} (h : d < k) : ∃ m, k = m + 1 := ⟨k - 1, by omega⟩
theorem rd_mid (pre : List Int) (h : Int) (t : List Int) : rd (pre ++ h :: t) (pre.length : Int) = h := by
  simp [rd]
theorem rd_at {pre t l : List Int} {h : Int} (e : pre ++ h :: t = l) : rd l (pre.length : Int) = h := by
  rw [← e]; exact rd_mid pre h t
theorem len_mid {α : Type} {pre t : List α} {h : α} {l : List α} (e : pre ++ h :: t = l) : pre.length < l.length := by
  rw [← e]; simp
theorem len_end {α : Type} {pre l : List α} (e : pre ++ [] = l) : pre.length = l.length := by
  rw [← e]; simp
theorem app_mid {α : Type} {pre t : List α} {h : α} {l : List α} (e : pre ++ h :: t = l) : (pre ++ [h]) ++ t = l := by
  rw [← e]; simp
theorem len_one {α : Type} (pre : List α) (h : α) : (pre ++ [h]).length = pre.length + 1 := by simp
def firstAt {α : Type} (p : α → Bool) : List α → Int → Int
  | [], _ => -1
  | h :: t, b => if p h = true then b else firstAt p t (b + 1)
theorem firstAt_any {α : Type} (p : α → Bool) : ∀ (l : List α) (b : Int), 0 ≤ b → decide (firstAt p l b ≥ 0) = l.any p
  | [], b, _ => by simp [firstAt]
  | h :: t, b, hb => by
    unfold firstAt
    by_cases hh : p h = true
    · rw [if_pos hh]; simp [hh, hb]
    · rw [if_neg hh, firstAt_any p t (b + 1) (by omega)]; simp [hh]
theorem bnd {α β : Type} {o : Option α} {a : α} {f : α → Option β} {r : Option β} (h : o = some a) (h2 : f a = r) : o.bind f = r := by
  rw [h]; exact h2
end Go.Proofs.Ytgcliajajcinpaa.Pl
end
section
namespace Go.Proofs.Ytgcliajajcinpaa.Base
open Go.RowKit Go.Proofs.Ytgcliajajcinpaa.P Go.Proofs.YtgcliajajcinpaaW.PrintWords Go.Proofs.YtgcliajajcinpaaW.PrintLast Go.Proofs.YtgcliajajcinpaaW.PrintMore
open Go.Proofs.Ytgcliajajcinpaa.Pl
theorem in_f (a b c : Int) : impl_in.f a b c = some (decide (b ≤ a ∧ a ≤ c)) := by
  unfold impl_in.f
  split <;> simp <;> omega
theorem l1In_f (a b c : Int) : spec_l1In.f a b c = some (decide (b ≤ a ∧ a ≤ c)) := by
  unfold spec_l1In.f
  split <;> simp <;> omega
end Go.Proofs.Ytgcliajajcinpaa.Base
end
section
namespace Go.Proofs.Ytgcliajajcinpaa.Moves
open Go.RowKit Go.Proofs.Ytgcliajajcinpaa.P Go.Proofs.YtgcliajajcinpaaW.PrintWords Go.Proofs.YtgcliajajcinpaaW.PrintLast Go.Proofs.YtgcliajajcinpaaW.PrintMore
open Go.Proofs.Ytgcliajajcinpaa.Pl Go.Proofs.Ytgcliajajcinpaa.Base
def low (h : Int) : Bool := decide (h < -1)
def moves : List Int → List Int → Int
  | a :: ta, b :: tb => (if a = b then 0 else 1) + moves ta tb
  | _, _ => 0
theorem moves_le : ∀ (a b : List Int), 0 ≤ moves a b ∧ moves a b ≤ a.length
  | [], _ => by simp [moves]
  | _ :: _, [] => by simp [moves]; omega
  | a :: ta, b :: tb => by
    have := moves_le ta tb
    simp only [moves, List.length_cons]
    split <;> omega
def movesTo (a b : List Int) : Int × Bool := if (!a.any low && !b.any low) = true ∧ a.length = b.length then (moves a b, true) else (0, false)
theorem spec_moves_l0 (a b : List Int) (hl : a.length ≤ 1048576) : ∀ (ra rb pa pb : List Int) (m : Int) (k : Nat), pa ++ ra = a → pb ++ rb = b → pa.length = pb.length → ra.length = rb.length → 0 ≤ m → m ≤ pa.length → ra.length < k →
    spec_l13Moves.l0 k a b m (a.length : Int) (pa.length : Int) = some (m + moves ra rb) := by
  intro ra
  induction ra with
  | nil =>
    intro rb pa pb m k ea eb hp hr h0 hm hk
    obtain ⟨k, rfl⟩ := round hk
    have := len_end ea
    simp only [spec_l13Moves.l0]
    rw [if_neg (by omega)]
    simp [moves]
  | cons x ta ih =>
    intro rb pa pb m k ea eb hp hr h0 hm hk
    obtain ⟨k, rfl⟩ := round hk
    match rb, hr with
    | y :: tb, hr =>
    have hlt := len_mid ea
    have hltb := len_mid eb
    have e2 : rd b (pa.length : Int) = y := by rw [hp]; exact rd_at eb
    simp only [spec_l13Moves.l0]
    rw [if_pos (by omega), if_pos (by omega), if_pos (by omega), if_pos (by omega), rd_at ea, e2, wrap_len hlt (by omega), wrap_in (by omega) (by omega)]
    by_cases h : x = y
    · have := ih tb (pa ++ [x]) (pb ++ [y]) m k (app_mid ea) (app_mid eb) (by simpa using hp) (by simpa using hr) h0 (by rw [len_one]; omega) (by simpa using hk)
      rw [len_one] at this
      rw [if_pos h, this]
      simp [moves, h]
    · have := ih tb (pa ++ [x]) (pb ++ [y]) (m + 1) k (app_mid ea) (app_mid eb) (by simpa using hp) (by simpa using hr) (by omega) (by rw [len_one]; omega) (by simpa using hk)
      rw [len_one] at this
      rw [if_neg h, this]
      simp [moves, h]
      omega
theorem spec_moves_f (a b : List Int) (hl : a.length ≤ 1048576) (he : a.length = b.length) (k : Nat) (hk : a.length < k) : spec_l13Moves.f k a b = some (moves a b) := by
  unfold spec_l13Moves.f
  have := spec_moves_l0 a b hl a b [] [] 0 k rfl rfl rfl he (by omega) (by simp) hk
  rw [Int.zero_add] at this
  exact this
theorem impl_moves_l0 (a b : List Int) (hl : a.length ≤ 1048576) : ∀ (ra rb pa pb : List Int) (m : Int) (k : Nat), pa ++ ra = a → pb ++ rb = b → pa.length = pb.length → ra.length = rb.length → 0 ≤ m → m ≤ pa.length → ra.length < k →
    impl_elsewhere.l0 k b m a (a.length : Int) (pa.length : Int) = some (m + moves ra rb) := by
  intro ra
  induction ra with
  | nil =>
    intro rb pa pb m k ea eb hp hr h0 hm hk
    obtain ⟨k, rfl⟩ := round hk
    have := len_end ea
    simp only [impl_elsewhere.l0]
    rw [if_neg (by omega)]
    simp [moves]
  | cons x ta ih =>
    intro rb pa pb m k ea eb hp hr h0 hm hk
    obtain ⟨k, rfl⟩ := round hk
    match rb, hr with
    | y :: tb, hr =>
    have hlt := len_mid ea
    have hltb := len_mid eb
    have e2 : rd b (pa.length : Int) = y := by rw [hp]; exact rd_at eb
    simp only [impl_elsewhere.l0]
    rw [if_pos (by omega), if_pos (by omega), if_pos (by omega), if_pos (by omega), rd_at ea, e2, wrap_len hlt (by omega), wrap_in (by omega) (by omega)]
    by_cases h : x = y
    · have := ih tb (pa ++ [x]) (pb ++ [y]) m k (app_mid ea) (app_mid eb) (by simpa using hp) (by simpa using hr) h0 (by rw [len_one]; omega) (by simpa using hk)
      rw [len_one] at this
      rw [if_pos h, this]
      simp [moves, h]
    · have := ih tb (pa ++ [x]) (pb ++ [y]) (m + 1) k (app_mid ea) (app_mid eb) (by simpa using hp) (by simpa using hr) (by omega) (by rw [len_one]; omega) (by simpa using hk)
      rw [len_one] at this
      rw [if_neg h, this]
      simp [moves, h]
      omega
theorem impl_moves_f (a b : List Int) (hl : a.length ≤ 1048576) (he : a.length = b.length) (k : Nat) (hk : a.length < k) : impl_elsewhere.f k a b = some (moves a b) := by
  unfold impl_elsewhere.f
  have := impl_moves_l0 a b hl a b [] [] 0 k rfl rfl rfl he (by omega) (by simp) hk
  rw [Int.zero_add] at this
  exact this
theorem spec_l1 (a b : List Int) (hl : a.length ≤ 1048576) (hlb : b.length ≤ 1048576) : ∀ (rest pre : List Int) (k : Nat), pre ++ rest = b → rest.length + a.length + 1 < k →
    spec_MovesTo.l1 k a b b (b.length : Int) (pre.length : Int) = some (if rest.any low = false ∧ a.length = b.length then (moves a b, true) else (0, false)) := by
  intro rest
  induction rest with
  | nil =>
    intro pre k e hk
    obtain ⟨k, rfl⟩ := round hk
    have := len_end e
    simp only [spec_MovesTo.l1]
    rw [if_neg (by omega)]
    by_cases he : a.length = b.length
    · rw [if_pos (by omega), spec_moves_f a b hl he k (by simp at hk; omega)]
      simp [he]
    · rw [if_neg (by omega)]
      simp [he]
  | cons h t ih =>
    intro pre k e hk
    obtain ⟨k, rfl⟩ := round hk
    have hlt := len_mid e
    simp only [List.length_cons] at hk
    simp only [spec_MovesTo.l1]
    rw [if_pos (by omega), if_pos (by omega), if_pos (by omega), rd_at e, wrap_len hlt (by omega)]
    have := ih (pre ++ [h]) k (app_mid e) (by omega)
    rw [len_one] at this
    rw [this]
    by_cases h1 : h < -1
    · rw [if_pos h1]; simp [low, h1]
    · rw [if_neg h1]; simp [low, h1]
theorem spec_l0 (a b : List Int) (hl : a.length ≤ 1048576) (hlb : b.length ≤ 1048576) : ∀ (rest pre : List Int) (k : Nat), pre ++ rest = a → rest.length + b.length + a.length + 2 < k →
    spec_MovesTo.l0 k a b a (a.length : Int) (pre.length : Int) = some (if rest.any low = false ∧ b.any low = false ∧ a.length = b.length then (moves a b, true) else (0, false)) := by
  intro rest
  induction rest with
  | nil =>
    intro pre k e hk
    obtain ⟨k, rfl⟩ := round hk
    have := len_end e
    simp only [spec_MovesTo.l0]
    rw [if_neg (by omega)]
    have := spec_l1 a b hl hlb b [] k rfl (by simp at hk; omega)
    simp only [List.length_nil] at this
    rw [show (0 : Int) = ((0 : Nat) : Int) from rfl, this]
    simp
  | cons h t ih =>
    intro pre k e hk
    obtain ⟨k, rfl⟩ := round hk
    have hlt := len_mid e
    simp only [List.length_cons] at hk
    simp only [spec_MovesTo.l0]
    rw [if_pos (by omega), if_pos (by omega), if_pos (by omega), rd_at e, wrap_len hlt (by omega)]
    have := ih (pre ++ [h]) k (app_mid e) (by omega)
    rw [len_one] at this
    rw [this]
    by_cases h1 : h < -1
    · rw [if_pos h1]; simp [low, h1]
    · rw [if_neg h1]; simp [low, h1]
theorem spec_movesTo_f (a b : List Int) (hl : a.length ≤ 1048576) (hlb : b.length ≤ 1048576) (k : Nat) (hk : a.length + b.length + a.length + 2 < k) : spec_MovesTo.f k a b = some (movesTo a b) := by
  unfold spec_MovesTo.f movesTo
  have := spec_l0 a b hl hlb a [] k rfl hk
  simp only [List.length_nil] at this
  rw [show (0 : Int) = ((0 : Nat) : Int) from rfl, this]
  congr 1
  simp [and_assoc]
theorem ia_l0 (l : List Int) (hl : l.length ≤ 1048576) (p : Int → Bool) (K : Nat) (hc : ∀ k h, h ∈ l → K ≤ k → impl_MovesTo_1.f h = some (p h)) : ∀ (rest pre : List Int) (k : Nat), pre ++ rest = l → rest.length + K < k →
    slices_IndexFunc_int_int_of_impl_MovesTo_1.l0 k l (l.length : Int) (pre.length : Int) = some (firstAt p rest (pre.length : Int)) := by
  intro rest
  induction rest with
  | nil =>
    intro pre k e hk
    obtain ⟨k, rfl⟩ := round hk
    have := len_end e
    simp only [slices_IndexFunc_int_int_of_impl_MovesTo_1.l0]
    rw [if_neg (by omega)]
    rfl
  | cons h t ih =>
    intro pre k e hk
    obtain ⟨k, rfl⟩ := round hk
    have hlt := len_mid e
    simp only [List.length_cons] at hk
    simp only [slices_IndexFunc_int_int_of_impl_MovesTo_1.l0]
    rw [if_pos (by omega), if_pos (by omega), if_pos (by omega), rd_at e, wrap_len hlt (by omega), hc k h (by rw [← e]; simp) (by omega)]
    simp only [Option.bind_some]
    have := ih (pre ++ [h]) k (app_mid e) (by omega)
    rw [len_one] at this
    unfold firstAt
    by_cases hp : p h = true
    · rw [if_pos hp, if_pos hp]
    · rw [if_neg hp, if_neg hp, this]
      congr 1
theorem ia_index (l : List Int) (hl : l.length ≤ 1048576) (p : Int → Bool) (K : Nat) (hc : ∀ k h, h ∈ l → K ≤ k → impl_MovesTo_1.f h = some (p h)) (k : Nat) (hk : l.length + K < k) : slices_IndexFunc_int_int_of_impl_MovesTo_1.f k l = some (firstAt p l 0) := by
  unfold slices_IndexFunc_int_int_of_impl_MovesTo_1.f
  exact ia_l0 l hl p K hc l [] k rfl hk
theorem ia_any (l : List Int) (hl : l.length ≤ 1048576) (p : Int → Bool) (K : Nat) (hc : ∀ k h, h ∈ l → K ≤ k → impl_MovesTo_1.f h = some (p h)) (k : Nat) (hk : l.length + K < k) : slices_ContainsFunc_int_int_of_impl_MovesTo_1.f k l = some (l.any p) := by
  unfold slices_ContainsFunc_int_int_of_impl_MovesTo_1.f
  rw [ia_index l hl p K hc k hk]
  simp only [Option.bind_some]
  rw [firstAt_any p l 0 (by omega)]
theorem ib_l0 (l : List Int) (hl : l.length ≤ 1048576) (p : Int → Bool) (K : Nat) (hc : ∀ k h, h ∈ l → K ≤ k → impl_MovesTo_2.f h = some (p h)) : ∀ (rest pre : List Int) (k : Nat), pre ++ rest = l → rest.length + K < k →
    slices_IndexFunc_int_int_of_impl_MovesTo_2.l0 k l (l.length : Int) (pre.length : Int) = some (firstAt p rest (pre.length : Int)) := by
  intro rest
  induction rest with
  | nil =>
    intro pre k e hk
    obtain ⟨k, rfl⟩ := round hk
    have := len_end e
    simp only [slices_IndexFunc_int_int_of_impl_MovesTo_2.l0]
    rw [if_neg (by omega)]
    rfl
  | cons h t ih =>
    intro pre k e hk
    obtain ⟨k, rfl⟩ := round hk
    have hlt := len_mid e
    simp only [List.length_cons] at hk
    simp only [slices_IndexFunc_int_int_of_impl_MovesTo_2.l0]
    rw [if_pos (by omega), if_pos (by omega), if_pos (by omega), rd_at e, wrap_len hlt (by omega), hc k h (by rw [← e]; simp) (by omega)]
    simp only [Option.bind_some]
    have := ih (pre ++ [h]) k (app_mid e) (by omega)
    rw [len_one] at this
    unfold firstAt
    by_cases hp : p h = true
    · rw [if_pos hp, if_pos hp]
    · rw [if_neg hp, if_neg hp, this]
      congr 1
theorem ib_index (l : List Int) (hl : l.length ≤ 1048576) (p : Int → Bool) (K : Nat) (hc : ∀ k h, h ∈ l → K ≤ k → impl_MovesTo_2.f h = some (p h)) (k : Nat) (hk : l.length + K < k) : slices_IndexFunc_int_int_of_impl_MovesTo_2.f k l = some (firstAt p l 0) := by
  unfold slices_IndexFunc_int_int_of_impl_MovesTo_2.f
  exact ib_l0 l hl p K hc l [] k rfl hk
theorem ib_any (l : List Int) (hl : l.length ≤ 1048576) (p : Int → Bool) (K : Nat) (hc : ∀ k h, h ∈ l → K ≤ k → impl_MovesTo_2.f h = some (p h)) (k : Nat) (hk : l.length + K < k) : slices_ContainsFunc_int_int_of_impl_MovesTo_2.f k l = some (l.any p) := by
  unfold slices_ContainsFunc_int_int_of_impl_MovesTo_2.f
  rw [ib_index l hl p K hc k hk]
  simp only [Option.bind_some]
  rw [firstAt_any p l 0 (by omega)]
theorem impl_movesTo_f (a b : List Int) (hl : a.length ≤ 1048576) (hlb : b.length ≤ 1048576) (k : Nat) (hk : a.length + b.length + a.length + 2 < k) : impl_MovesTo.f k a b = some (movesTo a b) := by
  unfold impl_MovesTo.f movesTo
  by_cases he : a.length = b.length
  · rw [if_pos (by omega), ia_any a hl low 0 (fun _ _ _ _ => rfl) k (by omega)]
    simp only [Option.bind_some]
    by_cases ha : a.any low = true
    · rw [if_pos ha]; simp [ha]
    · rw [if_neg ha, ib_any b hlb low 0 (fun _ _ _ _ => rfl) k (by omega)]
      simp only [Option.bind_some]
      by_cases hb : b.any low = true
      · rw [if_pos hb]; simp [hb]
      · rw [if_neg hb, impl_moves_f a b hl he k (by omega)]
        simp only [Option.bind_some]
        rw [if_pos ⟨by simp [Bool.not_eq_true _ ▸ ha, Bool.not_eq_true _ ▸ hb], he⟩]
  · rw [if_neg (by omega)]
    simp [he]
end Go.Proofs.Ytgcliajajcinpaa.Moves
end
section
namespace Go.Proofs.Ytgcliajajcinpaa.Places
open Go.RowKit Go.Proofs.Ytgcliajajcinpaa.P Go.Proofs.YtgcliajajcinpaaW.PrintWords Go.Proofs.YtgcliajajcinpaaW.PrintLast Go.Proofs.YtgcliajajcinpaaW.PrintMore
open Go.Proofs.Ytgcliajajcinpaa.Pl Go.Proofs.Ytgcliajajcinpaa.Base
def bad (homes h : Int) : Bool := decide (h < -1 ∨ homes ≤ h)
def good (a : Int) (l : List Int) : Bool := !l.any (bad a) && decide (1 ≤ a ∧ a ≤ 6) && decide (l.length ≤ 16)
theorem good_iff {a : Int} {l : List Int} : good a l = true ↔ (∀ h ∈ l, -1 ≤ h ∧ h < a) ∧ (1 ≤ a ∧ a ≤ 6) ∧ l.length ≤ 16 := by
  simp only [good, Bool.and_eq_true, Bool.not_eq_true', List.any_eq_false, decide_eq_true_eq, bad]
  constructor
  · rintro ⟨⟨h1, h2⟩, h3⟩
    refine ⟨fun h hh => ?_, h2, h3⟩
    have := h1 h hh
    omega
  · rintro ⟨h1, h2, h3⟩
    refine ⟨⟨fun h hh => ?_, h2⟩, h3⟩
    have := h1 h hh
    omega
theorem spec_l0 (a : Int) (l : List Int) (hl : l.length ≤ 1048576) : ∀ (rest pre : List Int) (k : Nat), pre ++ rest = l → rest.length < k →
    spec_GoodPlaces.l0 k a l l (l.length : Int) (pre.length : Int) = some (!rest.any (bad a) && decide (1 ≤ a ∧ a ≤ 6) && decide (l.length ≤ 16)) := by
  intro rest
  induction rest with
  | nil =>
    intro pre k e hk
    obtain ⟨k, rfl⟩ := round hk
    have := len_end e
    simp only [spec_GoodPlaces.l0]
    rw [if_neg (by omega), l1In_f]
    by_cases h : 1 ≤ a ∧ a ≤ 6 <;> simp [h] <;> omega
  | cons h t ih =>
    intro pre k e hk
    obtain ⟨k, rfl⟩ := round hk
    have hlt := len_mid e
    simp only [spec_GoodPlaces.l0]
    rw [if_pos (by omega), if_pos (by omega), if_pos (by omega), rd_at e, wrap_len hlt (by omega)]
    have := ih (pre ++ [h]) k (app_mid e) (by simpa using hk)
    rw [len_one] at this
    rw [this]
    by_cases h1 : h < -1
    · rw [if_pos h1]; simp [bad, h1]
    · by_cases h2 : a ≤ h
      · rw [if_neg h1, if_pos h2]; simp [bad, h2]
      · rw [if_neg h1, if_neg h2]; simp [bad, h1, h2]
theorem spec_f (a : Int) (l : List Int) (hl : l.length ≤ 1048576) (k : Nat) (hk : l.length < k) : spec_GoodPlaces.f k a l = some (good a l) := by
  unfold spec_GoodPlaces.f
  exact spec_l0 a l hl l [] k rfl hk
theorem ix_l0 (a : Int) (l : List Int) (hl : l.length ≤ 1048576) (p : Int → Bool) (K : Nat) (hc : ∀ k h, h ∈ l → K ≤ k → impl_arePlaces_1.f h a = some (p h)) : ∀ (rest pre : List Int) (k : Nat), pre ++ rest = l → rest.length + K < k →
    slices_IndexFunc_int_int_of_impl_arePlaces_1.l0 k l (l.length : Int) (pre.length : Int) a = some (firstAt p rest (pre.length : Int)) := by
  intro rest
  induction rest with
  | nil =>
    intro pre k e hk
    obtain ⟨k, rfl⟩ := round hk
    have := len_end e
    simp only [slices_IndexFunc_int_int_of_impl_arePlaces_1.l0]
    rw [if_neg (by omega)]
    rfl
  | cons h t ih =>
    intro pre k e hk
    obtain ⟨k, rfl⟩ := round hk
    have hlt := len_mid e
    simp only [List.length_cons] at hk
    simp only [slices_IndexFunc_int_int_of_impl_arePlaces_1.l0]
    rw [if_pos (by omega), if_pos (by omega), if_pos (by omega), rd_at e, wrap_len hlt (by omega), hc k h (by rw [← e]; simp) (by omega)]
    simp only [Option.bind_some]
    have := ih (pre ++ [h]) k (app_mid e) (by omega)
    rw [len_one] at this
    unfold firstAt
    by_cases hp : p h = true
    · rw [if_pos hp, if_pos hp]
    · rw [if_neg hp, if_neg hp, this]
      congr 1
theorem ix_index (a : Int) (l : List Int) (hl : l.length ≤ 1048576) (p : Int → Bool) (K : Nat) (hc : ∀ k h, h ∈ l → K ≤ k → impl_arePlaces_1.f h a = some (p h)) (k : Nat) (hk : l.length + K < k) : slices_IndexFunc_int_int_of_impl_arePlaces_1.f k l a = some (firstAt p l 0) := by
  unfold slices_IndexFunc_int_int_of_impl_arePlaces_1.f
  exact ix_l0 a l hl p K hc l [] k rfl hk
theorem ix_any (a : Int) (l : List Int) (hl : l.length ≤ 1048576) (p : Int → Bool) (K : Nat) (hc : ∀ k h, h ∈ l → K ≤ k → impl_arePlaces_1.f h a = some (p h)) (k : Nat) (hk : l.length + K < k) : slices_ContainsFunc_int_int_of_impl_arePlaces_1.f k l a = some (l.any p) := by
  unfold slices_ContainsFunc_int_int_of_impl_arePlaces_1.f
  rw [ix_index a l hl p K hc k hk]
  simp only [Option.bind_some]
  rw [firstAt_any p l 0 (by omega)]
theorem bad_f (a h : Int) (ha : 1 ≤ a ∧ a ≤ 6) : impl_arePlaces_1.f h a = some (bad a h) := by
  unfold impl_arePlaces_1.f
  rw [in_f, wrap_in (by omega) (by omega)]
  simp only [Option.bind_some, Option.some.injEq, bad, ← decide_not]
  congr 1
  apply propext
  omega
theorem are_f (a : Int) (l : List Int) (hl : l.length ≤ 1048576) (k : Nat) (hk : l.length < k) : impl_arePlaces.f k a l = some (good a l) := by
  unfold impl_arePlaces.f
  rw [in_f]
  simp only [Option.bind_some]
  by_cases ha : 1 ≤ a ∧ a ≤ 6
  · by_cases hl2 : l.length ≤ 16
    · rw [if_pos (by simpa using ha), if_pos (by omega), ix_any a l hl (bad a) 0 (fun _ h _ _ => bad_f a h ha) k (by omega)]
      simp [good, ha, hl2]
    · rw [if_pos (by simpa using ha), if_neg (by omega)]
      simp [good, hl2]
  · rw [if_neg (by simpa using ha)]
    simp [good, ha]
theorem impl_f (a : Int) (l : List Int) (hl : l.length ≤ 1048576) (k : Nat) (hk : l.length < k) : impl_GoodPlaces.f k a l = some (good a l) := by
  unfold impl_GoodPlaces.f
  rw [are_f a l hl k hk]
  rfl
def count (acc : List Int) (h : Int) : List Int := if h ≥ 0 then acc.set h.toNat (rd acc h + 1) else acc
def loads (homes : Int) (l : List Int) : List Int := l.foldl count (List.replicate homes.toNat 0)
theorem count_length (acc : List Int) (h : Int) : (count acc h).length = acc.length := by
  unfold count
  split <;> simp
theorem loads_length (homes : Int) (l : List Int) : (loads homes l).length = homes.toNat := by
  unfold loads
  have : ∀ (l acc : List Int), (l.foldl count acc).length = acc.length := by
    intro l
    induction l with
    | nil => intro acc; rfl
    | cons h t ih => intro acc; rw [List.foldl_cons, ih, count_length]
  rw [this]; simp
theorem set_le {acc : List Int} {m : Int} {i : Nat} {v : Int} (h : ∀ x ∈ acc, 0 ≤ x ∧ x ≤ m) (hv : 0 ≤ v ∧ v ≤ m) : ∀ x ∈ acc.set i v, 0 ≤ x ∧ x ≤ m := by
  intro x hx
  rcases List.mem_or_eq_of_mem_set hx with hx | rfl
  · exact h x hx
  · exact hv
theorem rd_le {acc : List Int} {m : Int} (hm : 0 ≤ m) (h : ∀ x ∈ acc, 0 ≤ x ∧ x ≤ m) (i : Int) : 0 ≤ rd acc i ∧ rd acc i ≤ m := by
  unfold rd
  rw [List.getD_eq_getElem?_getD]
  cases e : acc[i.toNat]? with
  | none => simp; exact hm
  | some x => exact h x (List.mem_of_getElem? e)
theorem count_le {acc : List Int} {h m : Int} (hm : 0 ≤ m) (ha : ∀ x ∈ acc, 0 ≤ x ∧ x ≤ m) : ∀ x ∈ count acc h, 0 ≤ x ∧ x ≤ m + 1 := by
  have hw : ∀ x ∈ acc, 0 ≤ x ∧ x ≤ m + 1 := fun x hx => by have := ha x hx; omega
  unfold count
  split
  · exact set_le hw (by have := rd_le hm ha h; omega)
  · exact hw
theorem spec_loads_l0 (a : Int) (l : List Int) (hl : l.length ≤ 1048576) (hg : ∀ h ∈ l, h < a) : ∀ (rest pre acc : List Int) (k : Nat), pre ++ rest = l → (acc.length : Int) = a → (∀ x ∈ acc, 0 ≤ x ∧ x ≤ (pre.length : Int)) → rest.length < k →
    spec_l13Loads.l0 k acc l (l.length : Int) (pre.length : Int) = some (rest.foldl count acc) := by
  intro rest
  induction rest with
  | nil =>
    intro pre acc k e ha hb hk
    obtain ⟨k, rfl⟩ := round hk
    have := len_end e
    simp only [spec_l13Loads.l0]
    rw [if_neg (by omega)]
    rfl
  | cons h t ih =>
    intro pre acc k e ha hb hk
    obtain ⟨k, rfl⟩ := round hk
    have hlt := len_mid e
    have hh : h < a := hg h (by rw [← e]; simp)
    simp only [spec_l13Loads.l0]
    rw [if_pos (by omega), if_pos (by omega), if_pos (by omega), rd_at e, wrap_len hlt (by omega)]
    have hc := count_le (h := h) (by omega) hb
    have := ih (pre ++ [h]) (count acc h) k (app_mid e) (by rw [count_length]; exact ha) (by rw [len_one]; simpa using hc) (by simpa using hk)
    rw [len_one] at this
    rw [List.foldl_cons, ← this]
    by_cases h1 : h ≥ 0
    · have hr := rd_le (by omega) hb h
      rw [if_pos h1, if_pos h1, if_pos (by omega), wrap_in (by omega) (by omega)]
      simp [count, h1]
    · rw [if_neg h1]
      simp [count, h1]
theorem spec_loads_f (a : Int) (l : List Int) (hg : good a l = true) (k : Nat) (hk : l.length < k) : spec_l13Loads.f k a l = some (loads a l) := by
  obtain ⟨h1, h2, h3⟩ := good_iff.1 hg
  unfold spec_l13Loads.f
  rw [if_pos (by omega), if_pos (by omega)]
  exact spec_loads_l0 a l (by omega) (fun h hh => (h1 h hh).2) l [] _ k rfl (by simp; omega) (by simp) hk
theorem impl_loads_l0 (a : Int) (l : List Int) (hl : l.length ≤ 1048576) (hg : ∀ h ∈ l, h < a) : ∀ (rest pre acc : List Int) (k : Nat), pre ++ rest = l → (acc.length : Int) = a → (∀ x ∈ acc, 0 ≤ x ∧ x ≤ (pre.length : Int)) → rest.length < k →
    impl_loadsOf.l0 k acc l (l.length : Int) (pre.length : Int) = some (rest.foldl count acc) := by
  intro rest
  induction rest with
  | nil =>
    intro pre acc k e ha hb hk
    obtain ⟨k, rfl⟩ := round hk
    have := len_end e
    simp only [impl_loadsOf.l0]
    rw [if_neg (by omega)]
    rfl
  | cons h t ih =>
    intro pre acc k e ha hb hk
    obtain ⟨k, rfl⟩ := round hk
    have hlt := len_mid e
    have hh : h < a := hg h (by rw [← e]; simp)
    simp only [impl_loadsOf.l0]
    rw [if_pos (by omega), if_pos (by omega), if_pos (by omega), rd_at e, wrap_len hlt (by omega)]
    have hc := count_le (h := h) (by omega) hb
    have := ih (pre ++ [h]) (count acc h) k (app_mid e) (by rw [count_length]; exact ha) (by rw [len_one]; simpa using hc) (by simpa using hk)
    rw [len_one] at this
    rw [List.foldl_cons, ← this]
    by_cases h1 : h ≥ 0
    · have hr := rd_le (by omega) hb h
      rw [if_pos h1, if_pos h1, if_pos (by omega), wrap_in (by omega) (by omega)]
      simp [count, h1]
    · rw [if_neg h1]
      simp [count, h1]
theorem impl_loads_f (a : Int) (l : List Int) (hg : good a l = true) (k : Nat) (hk : l.length < k) : impl_loadsOf.f k a l = some (loads a l) := by
  obtain ⟨h1, h2, h3⟩ := good_iff.1 hg
  unfold impl_loadsOf.f
  rw [if_pos (by omega), if_pos (by omega)]
  exact impl_loads_l0 a l (by omega) (fun h hh => (h1 h hh).2) l [] _ k rfl (by simp; omega) (by simp) hk
def loadsOf (a : Int) (l : List Int) : List Int × Bool := if good a l = true then (loads a l, true) else ([], false)
theorem spec_loadsOf_f (a : Int) (l : List Int) (hl : l.length ≤ 1048576) (k : Nat) (hk : l.length < k) : spec_LoadsOf.f k a l = some (loadsOf a l) := by
  unfold spec_LoadsOf.f loadsOf
  rw [spec_f a l hl k hk]
  simp only [Option.bind_some]
  by_cases hg : good a l = true
  · rw [if_pos hg, if_pos hg, spec_loads_f a l hg k hk]; rfl
  · rw [if_neg hg, if_neg hg]
theorem impl_loadsOf_f (a : Int) (l : List Int) (hl : l.length ≤ 1048576) (k : Nat) (hk : l.length < k) : impl_LoadsOf.f k a l = some (loadsOf a l) := by
  unfold impl_LoadsOf.f loadsOf
  rw [are_f a l hl k hk]
  simp only [Option.bind_some]
  by_cases hg : good a l = true
  · rw [if_pos hg, if_pos hg, impl_loads_f a l hg k hk]; rfl
  · rw [if_neg hg, if_neg hg]
theorem loadsOf_length (a : Int) (l : List Int) : (loadsOf a l).1.length ≤ 6 := by
  unfold loadsOf
  by_cases hg : good a l = true
  · rw [if_pos hg]
    show (loads a l).length ≤ 6
    rw [loads_length]
    have := (good_iff.1 hg).2.1
    omega
  · rw [if_neg hg]; simp
end Go.Proofs.Ytgcliajajcinpaa.Places
end
section
namespace Go.Proofs.Ytgcliajajcinpaa.EvN
def Cm {α : Type} (f : Nat → Option α) (v : α) : Prop := ∃ K, ∀ k, K ≤ k → f k = some v
theorem cm_now {α : Type} {f : Nat → Option α} {v : α} (h : ∀ k, f k = some v) : Cm f v := ⟨0, fun k _ => h k⟩
theorem cm_step {α : Type} {f g : Nat → Option α} {v : α} (h : ∀ k, f (k + 1) = g k) (hg : Cm g v) : Cm f v := by
  obtain ⟨K, hK⟩ := hg
  refine ⟨K + 1, fun k hk => ?_⟩
  obtain ⟨m, rfl⟩ : ∃ m, k = m + 1 := ⟨k - 1, by omega⟩
  rw [h, hK m (by omega)]
theorem cm_last {α : Type} {f : Nat → Option α} {v : α} (h : ∀ k, f (k + 1) = some v) : Cm f v := cm_step (g := fun _ => some v) h (cm_now fun _ => rfl)
theorem cm_same {α : Type} {f g : Nat → Option α} {v : α} (h : ∀ k, f k = g k) (hg : Cm g v) : Cm f v := by
  obtain ⟨K, hK⟩ := hg
  exact ⟨K, fun k hk => by rw [h, hK k hk]⟩
theorem cm_bind {α β : Type} {a : Nat → Option α} {t : α} {g : Nat → α → Option β} {v : β} (ha : Cm a t) (hg : Cm (fun k => g k t) v) : Cm (fun k => (a k).bind (g k)) v := by
  obtain ⟨K, hK⟩ := ha
  obtain ⟨M, hM⟩ := hg
  exact ⟨K + M, fun k hk => by simp only [hK k (by omega)]; exact hM k (by omega)⟩
theorem cm_step_bind {α β : Type} {f : Nat → Option β} {a : Nat → Option α} {t : α} {g : Nat → α → Option β} {v : β} (h : ∀ k, f (k + 1) = (a k).bind (g k)) (ha : Cm a t) (hg : Cm (fun k => g k t) v) : Cm f v :=
  cm_step h (cm_bind ha hg)
theorem cm_yes {α : Type} {c : Prop} [Decidable c] {x y : Nat → Option α} {v : α} (h : c) (h2 : Cm x v) : Cm (fun k => if c then x k else y k) v :=
  cm_same (fun _ => if_pos h) h2
theorem cm_no {α : Type} {c : Prop} [Decidable c] {x y : Nat → Option α} {v : α} (h : ¬ c) (h2 : Cm y v) : Cm (fun k => if c then x k else y k) v :=
  cm_same (fun _ => if_neg h) h2
theorem cm_of_some {α : Type} {f : Nat → Option α} {v : α} {d : Nat} (h : ∀ k, d < k → f k = some v) : Cm f v := ⟨d + 1, fun k hk => h k (by omega)⟩
theorem cm_ex {α : Type} {f : Nat → Option α} {v : α} (h : Cm f v) : ∃ k, f k = some v := by
  obtain ⟨K, hK⟩ := h
  exact ⟨K, hK K (Nat.le_refl _)⟩
end Go.Proofs.Ytgcliajajcinpaa.EvN
end
section
namespace Go.Proofs.Ytgcliajajcinpaa.Spread
open Go.RowKit Go.Proofs.Ytgcliajajcinpaa.P Go.Proofs.YtgcliajajcinpaaW.PrintWords Go.Proofs.YtgcliajajcinpaaW.PrintLast Go.Proofs.YtgcliajajcinpaaW.PrintMore
open Go.Proofs.Ytgcliajajcinpaa.Pl Go.Proofs.Ytgcliajajcinpaa.Base Go.Proofs.Ytgcliajajcinpaa.Places Go.Proofs.Ytgcliajajcinpaa.EvN
set_option linter.unusedSimpArgs false
set_option linter.unusedVariables false
theorem rd_set (L : List Int) (i : Nat) (v : Int) (h : i < L.length) (j : Int) (hj : 0 ≤ j) : rd (L.set i v) j = if j = (i : Int) then v else rd L j := by
  unfold rd
  by_cases e : j = (i : Int)
  · subst e; simp [h]
  · rw [if_neg e]
    have : i ≠ j.toNat := by omega
    simp [List.getD, List.getElem?_set, this]
theorem rd_get (L : List Int) (i : Nat) (h : i < L.length) : rd L (i : Int) = L[i] := by
  simp [rd, h]
theorem ext_rd {L M : List Int} (hl : L.length = M.length) (h : ∀ j : Nat, j < L.length → rd L (j : Int) = rd M (j : Int)) : L = M := by
  apply List.ext_getElem hl
  intro i h1 h2
  rw [← rd_get L i h1, ← rd_get M i h2]
  exact h i h1
def ahead (L : List Int) (a b : Int) : Prop := rd L a > rd L b ∨ (rd L a = rd L b ∧ a < b)
def ins (L : List Int) (x : Int) : List Int → List Int
  | [] => [x]
  | p :: t => if rd L p < rd L x then p :: ins L x t else x :: p :: t
def insAll (L : List Int) : List Int → List Int → List Int
  | s, [] => s
  | s, x :: t => insAll L (ins L x s) t
theorem ins_perm (L : List Int) (x : Int) : ∀ s, (ins L x s).Perm (x :: s)
  | [] => List.Perm.refl _
  | p :: t => by
    unfold ins
    split
    · exact ((ins_perm L x t).cons p).trans (List.Perm.swap x p t)
    · exact List.Perm.refl _
theorem ins_length (L : List Int) (x : Int) (s : List Int) : (ins L x s).length = s.length + 1 := by
  rw [(ins_perm L x s).length_eq]; rfl
theorem insAll_perm (L : List Int) : ∀ (t s : List Int), (insAll L s t).Perm (t ++ s)
  | [], s => List.Perm.refl _
  | x :: t, s => by
    unfold insAll
    refine (insAll_perm L t (ins L x s)).trans ?_
    refine ((ins_perm L x s).append_left t).trans ?_
    exact List.perm_middle
theorem ins_sorted (L : List Int) (x : Int) : ∀ s, s.Pairwise (fun a b => ahead L b a) → (∀ p ∈ s, p < x) → (ins L x s).Pairwise (fun a b => ahead L b a)
  | [], _, _ => by simp [ins]
  | p :: t, hs, hx => by
    unfold ins
    rw [List.pairwise_cons] at hs
    have hp := hx p (by simp)
    split
    · rename_i c
      rw [List.pairwise_cons]
      refine ⟨fun y hy => ?_, ins_sorted L x t hs.2 (fun q hq => hx q (by simp [hq]))⟩
      rw [(ins_perm L x t).mem_iff, List.mem_cons] at hy
      rcases hy with rfl | hy
      · exact .inl c
      · exact hs.1 y hy
    · rename_i c
      have hpx : ahead L p x := by
        rcases Int.lt_trichotomy (rd L p) (rd L x) with h | h | h
        · exact absurd h c
        · exact .inr ⟨h, hp⟩
        · exact .inl h
      rw [List.pairwise_cons, List.pairwise_cons]
      refine ⟨fun y hy => ?_, hs.1, hs.2⟩
      rw [List.mem_cons] at hy
      rcases hy with rfl | hy
      · exact hpx
      · have h1 := hs.1 y hy
        unfold ahead at *
        omega
theorem insAll_sorted (L : List Int) : ∀ (t s : List Int), s.Pairwise (fun a b => ahead L b a) → (∀ p ∈ s, ∀ x ∈ t, p < x) → t.Pairwise (· < ·) → (insAll L s t).Pairwise (fun a b => ahead L b a)
  | [], s, hs, _, _ => hs
  | x :: t, s, hs, hx, ht => by
    rw [List.pairwise_cons] at ht
    unfold insAll
    refine insAll_sorted L t (ins L x s) (ins_sorted L x s hs (fun p hp => hx p hp x (by simp))) (fun p hp y hy => ?_) ht.2
    rw [(ins_perm L x s).mem_iff, List.mem_cons] at hp
    rcases hp with rfl | hp
    · exact ht.1 y hy
    · exact hx p hp y (by simp [hy])
def sorted (L l : List Int) : List Int := (insAll L [] l).reverse
theorem sorted_perm (L l : List Int) : (sorted L l).Perm l := by
  refine (List.reverse_perm _).trans ((insAll_perm L l []).trans ?_)
  simp
theorem sorted_sorted (L l : List Int) (h : l.Pairwise (· < ·)) : (sorted L l).Pairwise (ahead L) := by
  unfold sorted
  rw [List.pairwise_reverse]
  exact insAll_sorted L l [] List.Pairwise.nil (by simp) h
theorem cmp_f (L : List Int) (a b : Int) (ha : 0 ≤ a ∧ a < L.length) (hb : 0 ≤ b ∧ b < L.length) (hL : ∀ j, 0 ≤ rd L j ∧ rd L j ≤ 1000) : impl_spread_1.f a b L = some (rd L b - rd L a) := by
  unfold impl_spread_1.f
  rw [if_pos hb.1, if_pos hb.2, if_pos ha.1, if_pos ha.2, wrap_in (by have := hL a; have := hL b; omega) (by have := hL a; have := hL b; omega)]
theorem sort_l1 (L : List Int) (hL : ∀ j, 0 ≤ rd L j ∧ rd L j ≤ 1000) (n i : Int) (x : Int) (suf : List Int) (v : List Int) (hx : 0 ≤ x ∧ x < L.length) :
    ∀ (rest mid : List Int), rest.length + mid.length + suf.length < 1000 → (∀ p ∈ rest, 0 ≤ p ∧ p < (L.length : Int)) →
    Cm (fun k => slices_insertionSortCmpFunc_int_of_impl_spread_1.l0 k ((ins L x rest).reverse ++ mid ++ suf) 0 n (wrap64 (i + 1)) L) v →
    Cm (fun k => slices_insertionSortCmpFunc_int_of_impl_spread_1.l1 k (rest.reverse ++ x :: mid ++ suf) 0 n i (rest.length : Int) L) v := by
  intro rest
  induction rest with
  | nil =>
    intro mid hm hr hv
    refine cm_step (fun k => ?_) hv
    rw [slices_insertionSortCmpFunc_int_of_impl_spread_1.l1, if_neg (by simp)]
    simp [ins]
  | cons p t ih =>
    intro mid hm hr hv
    have hp := hr p (by simp)
    have e1 : (p :: t).reverse ++ x :: mid ++ suf = (t.reverse ++ [p]) ++ x :: (mid ++ suf) := by simp
    have e2 : (p :: t).reverse ++ x :: mid ++ suf = t.reverse ++ p :: (x :: mid ++ suf) := by simp
    have l1 : ((p :: t).length : Int) = ((t.reverse ++ [p]).length : Int) := by simp
    have l2 : ((t.length + 1 : Nat) : Int) - 1 = (t.reverse.length : Int) := by simp
    have r1 : rd ((p :: t).reverse ++ x :: mid ++ suf) ((p :: t).length : Int) = x := by rw [e1, l1]; exact rd_mid _ _ _
    have w1 : wrap64 (((p :: t).length : Int) - 1) = (t.length : Int) := by
      simp only [List.length_cons] at hm ⊢
      rw [wrap_in (by omega) (by omega)]; omega
    have r2 : rd ((p :: t).reverse ++ x :: mid ++ suf) (t.length : Int) = p := by
      have := rd_mid t.reverse p (x :: mid ++ suf)
      rw [← e2] at this
      simpa using this
    by_cases c : rd L p < rd L x
    · have hgo := ih (p :: mid) (by simp only [List.length_cons] at hm ⊢; omega) (fun q hq => hr q (by simp [hq])) (by
        have : ins L x (p :: t) = p :: ins L x t := by rw [ins, if_pos c]
        rw [this] at hv
        simpa using hv)
      refine cm_step (fun k => ?_) hgo
      rw [slices_insertionSortCmpFunc_int_of_impl_spread_1.l1, if_pos (by simp), if_pos (by omega), if_pos (by simp; omega), w1, if_pos (by omega), if_pos (by simp; omega), r1, r2, cmp_f L x p hx hp hL]
      simp only [Option.bind_some]
      rw [if_pos (by omega)]
      congr 1
      have f1 : ((p :: t).length : Int).toNat = t.length + 1 := by simp
      have f2 : ((t.length : Nat) : Int).toNat = t.length := by simp
      rw [f1, f2]
      have e3 : (p :: t).reverse ++ x :: mid ++ suf = t.reverse ++ (p :: x :: (mid ++ suf)) := by simp
      rw [e3, List.set_append_right _ _ (by simp), List.set_append_right _ _ (by simp)]
      simp
    · refine cm_step (fun k => ?_) hv
      rw [slices_insertionSortCmpFunc_int_of_impl_spread_1.l1, if_pos (by simp), if_pos (by omega), if_pos (by simp; omega), w1, if_pos (by omega), if_pos (by simp; omega), r1, r2, cmp_f L x p hx hp hL]
      simp only [Option.bind_some]
      rw [if_neg (by omega), ins, if_neg c]
      simp
theorem sort_l0 (L : List Int) (hL : ∀ j, 0 ≤ rd L j ∧ rd L j ≤ 1000) (n : Nat) (hn : n < 1000) : ∀ (t s : List Int), s.length + t.length = n → (∀ p ∈ s, 0 ≤ p ∧ p < (L.length : Int)) → (∀ p ∈ t, 0 ≤ p ∧ p < (L.length : Int)) →
    Cm (fun k => slices_insertionSortCmpFunc_int_of_impl_spread_1.l0 k (s.reverse ++ t) 0 (n : Int) (s.length : Int) L) (insAll L s t).reverse := by
  intro t
  induction t with
  | nil =>
    intro s hs _ _
    refine cm_last (fun k => ?_)
    rw [slices_insertionSortCmpFunc_int_of_impl_spread_1.l0, if_neg (by simp at hs; omega)]
    simp [insAll]
  | cons x t ih =>
    intro s hs hp ht
    have := ih (ins L x s) (by rw [ins_length]; simp at hs; omega) (fun p h => by
      rw [(ins_perm L x s).mem_iff, List.mem_cons] at h
      rcases h with rfl | h
      · exact ht _ (by simp)
      · exact hp p h) (fun p h => ht p (by simp [h]))
    refine cm_step (g := fun k => slices_insertionSortCmpFunc_int_of_impl_spread_1.l1 k (s.reverse ++ x :: t) 0 (n : Int) (s.length : Int) (s.length : Int) L) (fun k => ?_) ?_
    · rw [slices_insertionSortCmpFunc_int_of_impl_spread_1.l0, if_pos (by simp at hs; omega)]
    · have h1 := sort_l1 L hL n (s.length : Int) x t (insAll L s (x :: t)).reverse (ht x (by simp)) s [] (by simp at hs ⊢; omega) hp
      simp only [List.append_nil, List.append_assoc, List.singleton_append] at h1
      refine h1 ?_
      have w : wrap64 ((s.length : Int) + 1) = ((ins L x s).length : Int) := by
        rw [ins_length, wrap_in (by omega) (by simp at hs; omega)]; omega
      rw [w]
      exact this
theorem sort_f (L : List Int) (hL : ∀ j, 0 ≤ rd L j ∧ rd L j ≤ 1000) (l : List Int) (hl : l.length < 20) (hp : ∀ p ∈ l, 0 ≤ p ∧ p < (L.length : Int)) :
    Cm (fun k => slices_SortStableFunc_int_int_of_impl_spread_1.f k l L) (sorted L l) := by
  have h0 : Cm (fun k => slices_insertionSortCmpFunc_int_of_impl_spread_1.f k l 0 (l.length : Int) L) (sorted L l) := by
    unfold slices_insertionSortCmpFunc_int_of_impl_spread_1.f
    cases l with
    | nil =>
      refine cm_last (fun k => ?_)
      rw [slices_insertionSortCmpFunc_int_of_impl_spread_1.l0, if_neg (by simp [wrap64])]
      rfl
    | cons x t =>
      have := sort_l0 L hL (x :: t).length (by omega) t [x] (by simp; omega) (fun p h => hp p (by simp at h; simp [h])) (fun p h => hp p (by simp [h]))
      simpa [wrap64, sorted, insAll, ins] using this
  have h1 : Cm (fun k => slices_stableCmpFunc_int_of_impl_spread_1.f k l (l.length : Int) L) (sorted L l) := by
    unfold slices_stableCmpFunc_int_of_impl_spread_1.f
    refine cm_step_bind (g := fun k t => slices_stableCmpFunc_int_of_impl_spread_1.l1 k t (l.length : Int) 20) (fun k => ?_) h0 ?_
    · rw [slices_stableCmpFunc_int_of_impl_spread_1.l0, if_neg (by omega)]
    · refine cm_last (fun k => ?_)
      rw [slices_stableCmpFunc_int_of_impl_spread_1.l1, if_neg (by omega)]
  unfold slices_SortStableFunc_int_int_of_impl_spread_1.f
  exact cm_bind h1 (cm_now fun _ => rfl)
end Go.Proofs.Ytgcliajajcinpaa.Spread
end
section
namespace Go.Proofs.Ytgcliajajcinpaa.Spread
open Go.RowKit Go.Proofs.Ytgcliajajcinpaa.P Go.Proofs.YtgcliajajcinpaaW.PrintWords Go.Proofs.YtgcliajajcinpaaW.PrintLast Go.Proofs.YtgcliajajcinpaaW.PrintMore
open Go.Proofs.Ytgcliajajcinpaa.Pl Go.Proofs.Ytgcliajajcinpaa.Base Go.Proofs.Ytgcliajajcinpaa.Places Go.Proofs.Ytgcliajajcinpaa.EvN
set_option linter.unusedSimpArgs false
set_option linter.unusedVariables false
def tab (n : Nat) (f : Int → Int) : List Int := (List.range n).map (fun h : Nat => f (h : Int))
theorem tab_length (n : Nat) (f : Int → Int) : (tab n f).length = n := by simp [tab]
theorem rd_tab (n : Nat) (f : Int → Int) (j : Nat) (h : j < n) : rd (tab n f) (j : Int) = f j := by
  rw [rd_get _ j (by rw [tab_length]; exact h)]
  simp [tab]
theorem tab_set (n : Nat) (f f' : Int → Int) (i : Nat) (v : Int) (hi : i < n) (h1 : f' i = v) (h2 : ∀ j : Nat, j < n → j ≠ i → f' j = f j) : (tab n f).set i v = tab n f' := by
  apply ext_rd
  · simp [tab_length]
  · intro j hj
    have hj' : j < n := by simpa [tab_length] using hj
    rw [rd_set _ _ _ (by rw [tab_length]; exact hi) _ (by omega), rd_tab n f' j hj']
    by_cases e : (j : Int) = (i : Int)
    · have : j = i := by omega
      subst this
      rw [if_pos e, h1]
    · rw [if_neg e, rd_tab n f j hj', h2 j hj' (by omega)]
theorem tab_zero (n : Nat) : List.replicate n (0 : Int) = tab n (fun _ => 0) := by
  apply ext_rd
  · simp [tab_length]
  · intro j hj
    have hj' : j < n := by simpa using hj
    rw [rd_tab _ _ _ hj', rd_get _ _ hj]
    simp
def hs (g : Int) (n : Nat) : List Int := ((List.range n).map (fun h : Nat => (h : Int))).filter (fun h => decide (h ≠ g))
theorem hs_succ (g : Int) (n : Nat) : hs g (n + 1) = if (n : Int) = g then hs g n else hs g n ++ [(n : Int)] := by
  unfold hs
  rw [List.range_succ, List.map_append, List.filter_append]
  by_cases e : (n : Int) = g <;> simp [e]
theorem mem_hs (g : Int) (n : Nat) (h : Int) : h ∈ hs g n ↔ 0 ≤ h ∧ h < n ∧ h ≠ g := by
  unfold hs
  simp only [List.mem_filter, List.mem_map, List.mem_range, decide_eq_true_eq]
  constructor
  · rintro ⟨⟨a, ha, rfl⟩, h2⟩
    exact ⟨by omega, by omega, h2⟩
  · rintro ⟨h0, h1, h2⟩
    exact ⟨⟨h.toNat, by omega, by omega⟩, h2⟩
theorem hs_lt (g : Int) (n : Nat) : (hs g n).Pairwise (· < ·) := by
  unfold hs
  refine List.Pairwise.filter _ ?_
  rw [List.pairwise_map]
  exact List.pairwise_lt_range.imp (by intro a b h; omega)
theorem hs_length (g : Int) : ∀ n : Nat, ((hs g n).length : Int) = if 0 ≤ g ∧ g < n then (n : Int) - 1 else n
  | 0 => by simp [hs]
  | n + 1 => by
    have ih := hs_length g n
    rw [hs_succ]
    by_cases e : (n : Int) = g
    · rw [if_pos e, ih, if_neg (by omega), if_pos (by omega)]; omega
    · rw [if_neg e, List.length_append]
      by_cases c : 0 ≤ g ∧ g < n
      · rw [if_pos c] at ih
        rw [if_pos (by omega)]
        simp; omega
      · rw [if_neg c] at ih
        rw [if_neg (by omega)]
        simp; omega
def roomAt (g base : Int) (o : List Int) (r : Nat) (h : Int) : Int := if h ∈ o.take r then base + 1 else if h = g then 0 else base
section
variable {n : Nat} {g base : Int} {l L : List Int} {many : Int}
theorem rooms_l0 (hn : n ≤ 6) (hm : 0 < many) (hl : l.length ≤ 16) (hb : base = (l.length : Int) / many) (v : List Int)
    (hv : Cm (fun k => spec_l13Rooms.l1 k l g L many (tab n (roomAt g base [] 0)) ((l.length : Int) % many)) v) :
    ∀ d j : Nat, j + d = n → Cm (fun k => spec_l13Rooms.l0 k l g L many (tab n (fun h => if h < (j : Int) then roomAt g base [] 0 h else 0)) (n : Int) (j : Int)) v := by
  have hb0 : 0 ≤ base ∧ base ≤ 16 := by
    rw [hb]
    refine ⟨Int.ediv_nonneg (by omega) (by omega), ?_⟩
    have := Int.ediv_le_self (many) (show (0 : Int) ≤ (l.length : Int) by omega)
    omega
  intro d
  induction d with
  | zero =>
    intro j hj
    obtain rfl : j = n := by omega
    refine cm_step (fun k => ?_) hv
    rw [spec_l13Rooms.l0, if_neg (by omega), if_neg (by omega)]
    congr 1
    apply ext_rd
    · simp [tab_length]
    · intro i hi
      have hi' : i < j := by simpa [tab_length] using hi
      rw [rd_tab _ _ _ hi', rd_tab _ _ _ hi', if_pos (by omega)]
  | succ d ih =>
    intro j hj
    have h1 := ih (j + 1) (by omega)
    refine cm_step (fun k => ?_) h1
    rw [spec_l13Rooms.l0, if_pos (by omega), wrap_len (m := 100) (by omega) (by omega)]
    by_cases e : (j : Int) = g
    · rw [if_pos e]
      congr 1
      apply ext_rd
      · simp [tab_length]
      · intro i hi
        have hi' : i < n := by simpa [tab_length] using hi
        rw [rd_tab _ _ _ hi', rd_tab _ _ _ hi']
        by_cases c : (i : Int) < (j : Int)
        · rw [if_pos c, if_pos (by omega)]
        · rw [if_neg c]
          by_cases c2 : (i : Int) = (j : Int)
          · rw [if_pos (by omega)]; simp [roomAt, c2, e]
          · rw [if_neg (by omega)]
    · rw [if_neg e, if_neg (by omega), if_pos (by omega), if_pos (by rw [tab_length]; omega), ← hb, wrap_in (by omega) (by omega)]
      congr 1
      have : ((j : Nat) : Int).toNat = j := by simp
      rw [this]
      refine tab_set n _ _ j base (by omega) ?_ ?_
      · show (if (j : Int) < ((j + 1 : Nat) : Int) then roomAt g base [] 0 (j : Int) else 0) = base
        rw [if_pos (by omega)]
        simp [roomAt, e]
      · intro i hi hne
        show (if (i : Int) < ((j + 1 : Nat) : Int) then roomAt g base [] 0 (i : Int) else 0) = (if (i : Int) < (j : Int) then roomAt g base [] 0 (i : Int) else 0)
        by_cases c : (i : Int) < (j : Int)
        · rw [if_pos c, if_pos (by omega)]
        · rw [if_neg c, if_neg (by omega)]
def BestOf (C : Int → Prop) (L : List Int) (j b : Int) : Prop :=
  (b = -1 ∧ ∀ h, 0 ≤ h → h < j → ¬ C h) ∨ (0 ≤ b ∧ b < j ∧ C b ∧ ∀ h, 0 ≤ h → h < j → C h → h = b ∨ ahead L b h)
theorem best_not {C : Int → Prop} {L : List Int} {j b : Int} (h : BestOf C L j b) (hC : ¬ C j) : BestOf C L (j + 1) b := by
  rcases h with ⟨h1, h2⟩ | ⟨h1, h2, h3, h4⟩
  · refine .inl ⟨h1, fun h h0 hj => ?_⟩
    by_cases e : h = j
    · rw [e]; exact hC
    · exact h2 h h0 (by omega)
  · refine .inr ⟨h1, by omega, h3, fun h h0 hj hc => ?_⟩
    by_cases e : h = j
    · rw [e] at hc; exact absurd hc hC
    · exact h4 h h0 (by omega) hc
theorem best_new {C : Int → Prop} {L : List Int} {j b : Int} (hj0 : 0 ≤ j) (h : BestOf C L j b) (hC : C j) (hb : b < 0 ∨ rd L j > rd L b) : BestOf C L (j + 1) j := by
  refine .inr ⟨hj0, by omega, hC, fun h' h0 hj hc => ?_⟩
  by_cases e : h' = j
  · exact .inl e
  · right
    rcases h with ⟨h1, h2⟩ | ⟨h1, h2, h3, h4⟩
    · exact absurd hc (h2 h' h0 (by omega))
    · have h5 := h4 h' h0 (by omega) hc
      have : rd L j > rd L b := by omega
      rcases h5 with rfl | h5
      · exact .inl this
      · unfold ahead at *
        left; omega
theorem best_old {C : Int → Prop} {L : List Int} {j b : Int} (h : BestOf C L j b) (hb : 0 ≤ b) (hl : ¬ rd L j > rd L b) : BestOf C L (j + 1) b := by
  rcases h with ⟨h1, h2⟩ | ⟨h1, h2, h3, h4⟩
  · omega
  · refine .inr ⟨h1, by omega, h3, fun h h0 hj hc => ?_⟩
    by_cases e : h = j
    · right
      unfold ahead
      rw [e]
      omega
    · exact h4 h h0 (by omega) hc
theorem best_one {C : Int → Prop} {L : List Int} {j b c : Int} (h : BestOf C L j b) (hc : C c) (hc0 : 0 ≤ c ∧ c < j) (hca : ∀ h, C h → h = c ∨ ahead L c h) : b = c := by
  rcases h with ⟨h1, h2⟩ | ⟨h1, h2, h3, h4⟩
  · exact absurd hc (h2 c hc0.1 hc0.2)
  · rcases h4 c hc0.1 hc0.2 hc with e | e
    · exact e.symm
    · rcases hca b h3 with e2 | e2
      · exact e2
      · unfold ahead at *
        omega
theorem rooms_l2 (hn : n ≤ 6) (hm : 0 < many) (hL : L.length = n) (hl : l.length ≤ 16) (hb : base = (l.length : Int) / many) (R : List Int) (hR : R.length = n) (left c : Int) (v : List Int)
    (hc : (0 ≤ c ∧ c < (n : Int)) ∧ c ≠ g ∧ rd R c = base) (hca : ∀ h, (0 ≤ h ∧ h < (n : Int)) ∧ h ≠ g ∧ rd R h = base → h = c ∨ ahead L c h)
    (hv : Cm (fun k => spec_l13Rooms.l1 k l g L many (R.set c.toNat (wrap64 (rd R c + 1))) (wrap64 (left - 1))) v) :
    ∀ (d j : Nat) (b : Int), j + d = n → BestOf (fun h => (0 ≤ h ∧ h < (n : Int)) ∧ h ≠ g ∧ rd R h = base) L (j : Int) b →
    Cm (fun k => spec_l13Rooms.l2 k l g L many R left b (n : Int) (j : Int)) v := by
  have hb0 : 0 ≤ base ∧ base ≤ 16 := by
    rw [hb]
    refine ⟨Int.ediv_nonneg (by omega) (by omega), ?_⟩
    have := Int.ediv_le_self (many) (show (0 : Int) ≤ (l.length : Int) by omega)
    omega
  intro d
  induction d with
  | zero =>
    intro j b hj hB
    obtain rfl : j = n := by omega
    have : b = c := best_one hB hc hc.1 hca
    subst this
    refine cm_step (fun k => ?_) hv
    rw [spec_l13Rooms.l2, if_neg (by omega), if_pos (by omega), if_pos (by omega)]
  | succ d ih =>
    intro j b hj hB
    have hb1 : b = -1 ∨ (0 ≤ b ∧ b < (j : Int)) := by
      rcases hB with h | h
      · exact .inl h.1
      · exact .inr ⟨h.1, h.2.1⟩
    by_cases e : (j : Int) = g
    · refine cm_step (fun k => ?_) (ih (j + 1) b (by omega) (by
        have := best_not hB (by intro h; exact h.2.1 e)
        simpa using this))
      rw [spec_l13Rooms.l2, if_pos (by omega), if_pos e, wrap_len (m := 100) (by omega) (by omega)]
    · by_cases e2 : rd R (j : Int) = base
      · have hC : (0 ≤ (j : Int) ∧ (j : Int) < (n : Int)) ∧ (j : Int) ≠ g ∧ rd R (j : Int) = base := ⟨⟨by omega, by omega⟩, e, e2⟩
        by_cases c1 : b < 0
        · refine cm_step (fun k => ?_) (ih (j + 1) (j : Int) (by omega) (by
            have := best_new (by omega) hB hC (.inl c1)
            simpa using this))
          rw [spec_l13Rooms.l2, if_pos (by omega), if_neg e, if_pos (by omega), if_pos (by omega), if_neg (by omega), ← hb, wrap_in (by omega) (by omega), if_pos e2, if_pos c1, wrap_len (m := 100) (by omega) (by omega)]
        · by_cases c2 : rd L (j : Int) > rd L b
          · refine cm_step (fun k => ?_) (ih (j + 1) (j : Int) (by omega) (by
              have := best_new (by omega) hB hC (.inr c2)
              simpa using this))
            rw [spec_l13Rooms.l2, if_pos (by omega), if_neg e, if_pos (by omega), if_pos (by omega), if_neg (by omega), ← hb, wrap_in (by omega) (by omega), if_pos e2, if_neg c1, if_pos (by omega), if_pos (by omega), if_pos (by omega), if_pos c2, wrap_len (m := 100) (by omega) (by omega)]
          · refine cm_step (fun k => ?_) (ih (j + 1) b (by omega) (by
              have := best_old hB (by omega) c2
              simpa using this))
            rw [spec_l13Rooms.l2, if_pos (by omega), if_neg e, if_pos (by omega), if_pos (by omega), if_neg (by omega), ← hb, wrap_in (by omega) (by omega), if_pos e2, if_neg c1, if_pos (by omega), if_pos (by omega), if_pos (by omega), if_neg c2, wrap_len (m := 100) (by omega) (by omega)]
      · refine cm_step (fun k => ?_) (ih (j + 1) b (by omega) (by
          have := best_not hB (by intro h; exact e2 h.2.2)
          simpa using this))
        rw [spec_l13Rooms.l2, if_pos (by omega), if_neg e, if_pos (by omega), if_pos (by omega), if_neg (by omega), ← hb, wrap_in (by omega) (by omega), if_neg e2, wrap_len (m := 100) (by omega) (by omega)]
end
end Go.Proofs.Ytgcliajajcinpaa.Spread
end
section
namespace Go.Proofs.Ytgcliajajcinpaa.Spread
open Go.RowKit Go.Proofs.Ytgcliajajcinpaa.P Go.Proofs.YtgcliajajcinpaaW.PrintWords Go.Proofs.YtgcliajajcinpaaW.PrintLast Go.Proofs.YtgcliajajcinpaaW.PrintMore
open Go.Proofs.Ytgcliajajcinpaa.Pl Go.Proofs.Ytgcliajajcinpaa.Base Go.Proofs.Ytgcliajajcinpaa.Places Go.Proofs.Ytgcliajajcinpaa.EvN
set_option linter.unusedSimpArgs false
set_option linter.unusedVariables false
def many (n : Nat) (g : Int) : Int := if g ≥ 0 then (n : Int) - 1 else n
def goneOk (n : Nat) (g : Int) : Prop := g = -1 ∨ (0 ≤ g ∧ g < (n : Int) ∧ 2 ≤ n)
theorem many_pos {n : Nat} {g : Int} (hn : 1 ≤ n) (hg : goneOk n g) : 0 < many n g := by
  unfold many goneOk at *
  split <;> omega
theorem many_hs {n : Nat} {g : Int} (hg : goneOk n g) : ((hs g n).length : Int) = many n g := by
  rw [hs_length]
  unfold many goneOk at *
  split <;> split <;> omega
def rooms (n : Nat) (g : Int) (len : Nat) (L : List Int) : List Int :=
  tab n (roomAt g ((len : Int) / many n g) (sorted L (hs g n)) ((len : Int) % many n g).toNat)
theorem next_ahead {L o : List Int} (ho : o.Pairwise (ahead L)) {i : Nat} (hi : i < o.length) (h : Int) (hm : h ∈ o) (hn : h ∉ o.take i) : h = o[i] ∨ ahead L o[i] h := by
  obtain ⟨j, hj, rfl⟩ := List.getElem_of_mem hm
  by_cases c : j < i
  · exact absurd (by rw [List.mem_take_iff_getElem]; exact ⟨j, by omega, rfl⟩) hn
  · by_cases c2 : j = i
    · left; simp [c2]
    · right
      rw [List.pairwise_iff_getElem] at ho
      exact ho i j hi hj (by omega)
theorem take_next {o : List Int} (ho : o.Nodup) {i : Nat} (hi : i < o.length) : o[i] ∉ o.take i := by
  intro h
  rw [List.mem_take_iff_getElem] at h
  obtain ⟨j, hj, e⟩ := h
  have := (List.getElem_inj ho).1 e
  omega
theorem take_succ_mem {o : List Int} {i : Nat} (hi : i < o.length) (h : Int) : h ∈ o.take (i + 1) ↔ h ∈ o.take i ∨ h = o[i] := by
  rw [List.take_succ_eq_append_getElem hi, List.mem_append, List.mem_singleton]
section
variable {n : Nat} {g : Int} {l L : List Int}
theorem spec_rooms_l1 (hn : 1 ≤ n ∧ n ≤ 6) (hg : goneOk n g) (hL : L.length = n) (hl : l.length ≤ 16) :
    ∀ d i : Nat, i + d = ((l.length : Int) % many n g).toNat →
    Cm (fun k => spec_l13Rooms.l1 k l g L (many n g) (tab n (roomAt g ((l.length : Int) / many n g) (sorted L (hs g n)) i)) (d : Int)) (rooms n g l.length L) := by
  have hm := many_pos hn.1 hg
  have hmn : many n g ≤ (n : Int) := by unfold many; split <;> omega
  have hb0 : 0 ≤ (l.length : Int) / many n g ∧ (l.length : Int) / many n g ≤ 16 := by
    refine ⟨Int.ediv_nonneg (by omega) (by omega), ?_⟩
    have := Int.ediv_le_self (many n g) (show (0 : Int) ≤ (l.length : Int) by omega)
    omega
  have hr := Int.emod_lt_of_pos (l.length : Int) hm
  have hr0 := Int.emod_nonneg (l.length : Int) (show many n g ≠ 0 by omega)
  have ho := sorted_sorted L (hs g n) (hs_lt g n)
  have hp := sorted_perm L (hs g n)
  have hol : ((sorted L (hs g n)).length : Int) = many n g := by rw [hp.length_eq]; exact many_hs hg
  have hnd : (sorted L (hs g n)).Nodup := by
    rw [hp.nodup_iff]
    exact (hs_lt g n).imp (by intro a b h; omega)
  generalize hb : (l.length : Int) / many n g = base at *
  generalize hoo : sorted L (hs g n) = o at *
  have hmem : ∀ h, h ∈ o ↔ (0 ≤ h ∧ h < (n : Int)) ∧ h ≠ g := by
    intro h
    rw [hp.mem_iff, mem_hs]
    constructor
    · rintro ⟨a, b, c⟩; exact ⟨⟨a, b⟩, c⟩
    · rintro ⟨⟨a, b⟩, c⟩; exact ⟨a, b, c⟩
  intro d
  induction d with
  | zero =>
    intro i hi
    refine cm_last (fun k => ?_)
    rw [spec_l13Rooms.l1, if_neg (by omega)]
    unfold rooms
    rw [hb, hoo, ← hi]
    rfl
  | succ d ih =>
    intro i hi
    have hio : i < o.length := by omega
    have hc : (0 ≤ o[i] ∧ o[i] < (n : Int)) ∧ o[i] ≠ g := (hmem _).1 (List.getElem_mem hio)
    obtain ⟨c, hcc⟩ : ∃ c : Nat, (c : Int) = o[i] := ⟨o[i].toNat, by omega⟩
    have hcn : c < n := by omega
    have hrc : roomAt g base o i o[i] = base := by
      unfold roomAt
      rw [if_neg (take_next hnd hio), if_neg hc.2]
    refine cm_step (g := fun k => spec_l13Rooms.l2 k l g L (many n g) (tab n (roomAt g base o i)) ((d + 1 : Nat) : Int) (-1) (n : Int) ((0 : Nat) : Int)) (fun k => ?_) ?_
    · rw [spec_l13Rooms.l1, if_pos (by omega), tab_length]
      rfl
    · refine rooms_l2 (c := o[i]) hn.2 hm hL hl hb.symm _ (tab_length _ _) _ _ ⟨hc.1, hc.2, ?_⟩ ?_ ?_ n 0 (-1) (by omega) (.inl ⟨rfl, fun h h0 h1 => by omega⟩)
      · rw [← hcc, rd_tab n _ c hcn, hcc]; exact hrc
      · rintro h ⟨h0, h1, h2⟩
        obtain ⟨m, rfl⟩ : ∃ m : Nat, (m : Int) = h := ⟨h.toNat, by omega⟩
        rw [rd_tab n _ m (by omega)] at h2
        refine next_ahead ho hio _ ((hmem _).2 ⟨h0, h1⟩) ?_
        intro ht
        unfold roomAt at h2
        rw [if_pos ht] at h2
        omega
      · have e1 : wrap64 (((d + 1 : Nat) : Int) - 1) = (d : Int) := by rw [wrap_in (by omega) (by omega)]; omega
        have e2 : rd (tab n (roomAt g base o i)) o[i] = base := by rw [← hcc, rd_tab n _ c hcn, hcc]; exact hrc
        rw [e1, e2, wrap_in (by omega) (by omega)]
        have e3 : (tab n (roomAt g base o i)).set (o[i]).toNat (base + 1) = tab n (roomAt g base o (i + 1)) := by
          rw [← hcc]
          refine tab_set n _ _ c _ hcn ?_ ?_
          · unfold roomAt
            rw [if_pos]
            rw [take_succ_mem hio]
            right; exact hcc
          · intro j hj hne
            unfold roomAt
            have : (j : Int) ∈ o.take (i + 1) ↔ (j : Int) ∈ o.take i := by
              rw [take_succ_mem hio]
              constructor
              · rintro (h | h)
                · exact h
                · omega
              · exact .inl
            simp only [this]
        rw [e3]
        exact ih (i + 1) (by omega)
theorem spec_rooms_f (hn : 1 ≤ n ∧ n ≤ 6) (hg : goneOk n g) (hgood : good (n : Int) l = true) :
    Cm (fun k => spec_l13Rooms.f k (n : Int) l g) (rooms n g l.length (loads (n : Int) l)) := by
  have hl : l.length ≤ 16 := (good_iff.1 hgood).2.2
  have hm := many_pos hn.1 hg
  have hr0 := Int.emod_nonneg (l.length : Int) (show many n g ≠ 0 by omega)
  have hL : (loads (n : Int) l).length = n := by rw [loads_length]; simp
  have h1 := spec_rooms_l1 (L := loads (n : Int) l) hn hg hL hl ((l.length : Int) % many n g).toNat 0 (by omega)
  have e0 : tab n (roomAt g ((l.length : Int) / many n g) (sorted (loads (n : Int) l) (hs g n)) 0) = tab n (roomAt g ((l.length : Int) / many n g) [] 0) := by
    congr 1
  have e1 : ((((l.length : Int) % many n g).toNat : Nat) : Int) = (l.length : Int) % many n g := by omega
  rw [e0, e1] at h1
  have h2 := rooms_l0 hn.2 hm hl rfl _ h1 n 0 (by omega)
  have e2 : tab n (fun h => if h < ((0 : Nat) : Int) then roomAt g ((l.length : Int) / many n g) [] 0 h else 0) = List.replicate n 0 := by
    rw [tab_zero]
    apply ext_rd
    · simp [tab_length]
    · intro i hi
      have hi' : i < n := by simpa [tab_length] using hi
      rw [rd_tab _ _ _ hi', rd_tab _ _ _ hi', if_neg (by omega)]
  rw [e2] at h2
  have h3 : Cm (fun k => spec_l13Rooms.j0 k (n : Int) l g (loads (n : Int) l) (many n g)) (rooms n g l.length (loads (n : Int) l)) := by
    refine cm_step (fun k => ?_) h2
    rw [spec_l13Rooms.j0, if_pos (by omega), if_pos (by omega)]
    simp
  unfold spec_l13Rooms.f
  refine cm_bind (cm_of_some (d := l.length) (fun k hk => spec_loads_f (n : Int) l hgood k hk)) ?_
  by_cases c : g ≥ 0
  · refine cm_yes c ?_
    have : wrap64 ((n : Int) - 1) = many n g := by unfold many; rw [if_pos c, wrap_in (by omega) (by omega)]
    rw [this]
    exact h3
  · refine cm_no c ?_
    have : (n : Int) = many n g := by unfold many; rw [if_neg c]
    have h4 := h3
    rw [← this] at h4
    exact h4
end
end Go.Proofs.Ytgcliajajcinpaa.Spread
end
section
namespace Go.Proofs.Ytgcliajajcinpaa.Spread
open Go.RowKit Go.Proofs.Ytgcliajajcinpaa.P Go.Proofs.YtgcliajajcinpaaW.PrintWords Go.Proofs.YtgcliajajcinpaaW.PrintLast Go.Proofs.YtgcliajajcinpaaW.PrintMore
open Go.Proofs.Ytgcliajajcinpaa.Pl Go.Proofs.Ytgcliajajcinpaa.Base Go.Proofs.Ytgcliajajcinpaa.Places Go.Proofs.Ytgcliajajcinpaa.EvN
set_option linter.unusedSimpArgs false
set_option linter.unusedVariables false
theorem same_fill : ∀ k, (∀ x7 x11 x106 x107 x117, impl_spread.l3 k x7 x11 x106 x107 x117 = spec_l13Spread.l2 k x7 x11 x117 x106 x107) ∧
    (∀ x7 x11 x16 x18 x106 x107 x117, impl_spread.l4 k x7 x11 x16 x18 x106 x107 x117 = spec_l13Spread.l3 k x7 x11 x117 x16 x18 x106 x107)
  | 0 => ⟨fun _ _ _ _ _ => by rw [impl_spread.l3, spec_l13Spread.l2], fun _ _ _ _ _ _ _ => by rw [impl_spread.l4, spec_l13Spread.l3]⟩
  | k + 1 => by
    obtain ⟨h3, h4⟩ := same_fill k
    constructor
    · intro x7 x11 x106 x107 x117
      rw [impl_spread.l3, spec_l13Spread.l2]
      simp only [h3, h4]
    · intro x7 x11 x16 x18 x106 x107 x117
      rw [impl_spread.l4, spec_l13Spread.l3]
      simp only [h3, h4]
theorem same_free : ∀ k x7 x11 x14 x117, impl_spread.l2 k x7 x11 x14 x117 = spec_l13Spread.l1 k x7 x11 x117 x14
  | 0, _, _, _, _ => by rw [impl_spread.l2, spec_l13Spread.l1]
  | k + 1, x7, x11, x14, x117 => by
    rw [impl_spread.l2, spec_l13Spread.l1]
    simp only [same_free k, (same_fill k).1]
theorem foldl_count_le : ∀ (l acc : List Int) (m : Int), 0 ≤ m → (∀ x ∈ acc, 0 ≤ x ∧ x ≤ m) → ∀ x ∈ l.foldl count acc, 0 ≤ x ∧ x ≤ m + (l.length : Int)
  | [], acc, m, _, h => by simpa using h
  | a :: t, acc, m, hm, h => by
    rw [List.foldl_cons]
    have := foldl_count_le t (count acc a) (m + 1) (by omega) (count_le hm h)
    intro x hx
    have := this x hx
    simp only [List.length_cons]
    omega
theorem loads_le (homes : Int) (l : List Int) : ∀ x ∈ loads homes l, 0 ≤ x ∧ x ≤ (l.length : Int) := by
  have := foldl_count_le l (List.replicate homes.toNat 0) 0 (by omega) (by intro x hx; rw [List.mem_replicate] at hx; omega)
  intro x hx
  have := this x hx
  omega
def roomI (base : Int) (r : Nat) (pre : List Int) (h : Int) : Int := if h ∈ pre.take r then base + 1 else if h ∈ pre then base else 0
section
variable {n : Nat} {g : Int} {l out L : List Int}
theorem impl_l1 (hn : 1 ≤ n ∧ n ≤ 6) (hl : l.length ≤ 16) {o : List Int} (ho : 0 < o.length) (hnd : o.Nodup) (hoh : ∀ h ∈ o, 0 ≤ h ∧ h < (n : Int)) (v : List Int)
    (hv : Cm (fun k => impl_spread.l2 k out (tab n (roomI ((l.length : Int) / (o.length : Int)) ((l.length : Int) % (o.length : Int)).toNat o)) (wrap64 ((out.length : Int) - 1)) L) v) :
    ∀ (rest pre : List Int), pre ++ rest = o → Cm (fun k => impl_spread.l1 k l out o (tab n (roomI ((l.length : Int) / (o.length : Int)) ((l.length : Int) % (o.length : Int)).toNat pre)) (o.length : Int) (pre.length : Int) L) v := by
  have hb0 : 0 ≤ (l.length : Int) / (o.length : Int) ∧ (l.length : Int) / (o.length : Int) ≤ 16 := by
    refine ⟨Int.ediv_nonneg (by omega) (by omega), ?_⟩
    have := Int.ediv_le_self (o.length : Int) (show (0 : Int) ≤ (l.length : Int) by omega)
    omega
  have hr0 := Int.emod_nonneg (l.length : Int) (show (o.length : Int) ≠ 0 by omega)
  have ho2 : o.length < 100000 := by
    have h1 : o.Nodup → o.length ≤ n := by
      intro _
      have : o ⊆ hs (-1) n := fun h hh => (mem_hs (-1) n h).2 ⟨(hoh h hh).1, (hoh h hh).2, by have := (hoh h hh).1; omega⟩
      have h2 := hnd.length_le_of_subset this
      have h3 := hs_length (-1) n
      rw [if_neg (by omega)] at h3
      omega
    have := h1 hnd
    omega
  intro rest
  induction rest with
  | nil =>
    intro pre e
    obtain rfl : pre = o := by simpa using e
    refine cm_step (fun k => ?_) hv
    rw [impl_spread.l1, if_neg (by omega)]
  | cons h t ih =>
    intro pre e
    have hlt := len_mid e
    have hho := hoh h (by rw [← e]; simp)
    obtain ⟨c, hc⟩ : ∃ c : Nat, (c : Int) = h := ⟨h.toNat, by omega⟩
    have hcn : c < n := by omega
    have hnp : h ∉ pre := by
      intro hp
      rw [← e, List.nodup_append] at hnd
      exact hnd.2.2 h hp h (by simp) rfl
    have h1 := ih (pre ++ [h]) (app_mid e)
    rw [len_one] at h1
    refine cm_step (fun k => ?_) h1
    rw [impl_spread.l1, if_pos (by omega), if_pos (by omega), if_pos (by omega), if_neg (by omega), rd_at e, if_pos (by omega), if_pos (by rw [tab_length]; omega), wrap_in (x := (l.length : Int) / (o.length : Int)) (by omega) (by omega), wrap_len hlt (by omega)]
    simp only [Option.bind_some]
    generalize hb : (l.length : Int) / (o.length : Int) = base at *
    generalize hrr : (l.length : Int) % (o.length : Int) = r at *
    have es : (tab n (roomI base r.toNat pre)).set h.toNat base = tab n (fun j => if j = h then base else roomI base r.toNat pre j) := by
      rw [← hc]
      refine tab_set n _ _ c base hcn ?_ ?_
      · simp
      · intro j hj hne
        show (if (j : Int) = (c : Int) then base else roomI base r.toNat pre (j : Int)) = roomI base r.toNat pre (j : Int)
        rw [if_neg (by omega)]
    have er : rd (tab n (fun j => if j = h then base else roomI base r.toNat pre j)) h = base := by
      rw [← hc, rd_tab n _ c hcn]
      simp
    have hin : ∀ j : Int, j ≠ h → roomI base r.toNat (pre ++ [h]) j = roomI base r.toNat pre j := by
      intro j hj
      unfold roomI
      have m1 : j ∈ (pre ++ [h]).take r.toNat ↔ j ∈ pre.take r.toNat := by
        rw [List.take_append, List.mem_append]
        constructor
        · rintro (h1 | h1)
          · exact h1
          · have := List.mem_of_mem_take h1
            simp at this
            exact absurd this hj
        · exact .inl
      have m2 : j ∈ pre ++ [h] ↔ j ∈ pre := by simp [hj]
      simp only [m1, m2]
    have hat : roomI base r.toNat (pre ++ [h]) h = if (pre.length : Int) < r then base + 1 else base := by
      unfold roomI
      have m2 : h ∈ pre ++ [h] := by simp
      rw [if_pos m2]
      by_cases cr : (pre.length : Int) < r
      · rw [if_pos cr, if_pos]
        rw [List.take_of_length_le (by simp; omega)]
        exact m2
      · rw [if_neg cr, if_neg]
        intro hm
        rw [List.take_append_of_le_length (by omega)] at hm
        exact hnp (List.mem_of_mem_take hm)
    rw [es]
    by_cases cr : (pre.length : Int) < r
    · rw [if_pos cr, er, wrap_in (by omega) (by omega)]
      congr 1
      rw [← hc]
      refine tab_set n _ _ c _ hcn ?_ ?_
      · rw [hc, hat, if_pos cr]
      · intro j hj hne
        rw [hc, hin j (by omega)]
        show roomI base r.toNat pre (j : Int) = if (j : Int) = h then base else roomI base r.toNat pre (j : Int)
        rw [if_neg (by omega)]
    · rw [if_neg cr]
      congr 1
      apply ext_rd
      · simp [tab_length]
      · intro j hj
        have hj' : j < n := by simpa [tab_length] using hj
        rw [rd_tab _ _ _ hj', rd_tab _ _ _ hj']
        by_cases ej : (j : Int) = h
        · rw [if_pos ej, ej, hat, if_neg cr]
        · rw [if_neg ej, hin j ej]
theorem impl_l0 (hn : 1 ≤ n ∧ n ≤ 6) (hg : goneOk n g) (hgood : good (n : Int) l = true) (v : List Int)
    (hv : Cm (fun k => spec_l13Spread.l1 k out (rooms n g l.length (loads (n : Int) l)) (loads (n : Int) l) (wrap64 ((out.length : Int) - 1))) v) :
    ∀ d j : Nat, j + d = n → Cm (fun k => impl_spread.l0 k (n : Int) l g out (hs g j) (n : Int) (j : Int)) v := by
  have hl : l.length ≤ 16 := (good_iff.1 hgood).2.2
  have hlen : ∀ j, (hs g j).length ≤ j := by
    intro j
    have := hs_length g j
    split at this <;> omega
  intro d
  induction d with
  | zero =>
    intro j hj
    obtain rfl : j = n := by omega
    have hL : (loads (j : Int) l).length = j := by rw [loads_length]; simp
    have hLb : ∀ i, 0 ≤ rd (loads (j : Int) l) i ∧ rd (loads (j : Int) l) i ≤ 1000 := by
      intro i
      have h1 := rd_le (m := (l.length : Int)) (by omega) (loads_le (j : Int) l) i
      omega
    have hp := sorted_perm (loads (j : Int) l) (hs g j)
    have hm := many_pos hn.1 hg
    have hol : ((sorted (loads (j : Int) l) (hs g j)).length : Int) = many j g := by rw [hp.length_eq]; exact many_hs hg
    have hnd : (sorted (loads (j : Int) l) (hs g j)).Nodup := by
      rw [hp.nodup_iff]
      exact (hs_lt g j).imp (by intro a b h; omega)
    have h1 := impl_l1 (out := out) (L := loads (j : Int) l) hn hl (o := sorted (loads (j : Int) l) (hs g j)) (by omega) hnd (fun h hh => by
      rw [hp.mem_iff, mem_hs] at hh
      exact ⟨hh.1, hh.2.1⟩) v (by
        rw [hol]
        refine cm_same (fun k => same_free k _ _ _ _) ?_
        have : tab j (roomI ((l.length : Int) / many j g) ((l.length : Int) % many j g).toNat (sorted (loads (j : Int) l) (hs g j))) = rooms j g l.length (loads (j : Int) l) := by
          unfold rooms
          apply ext_rd
          · simp [tab_length]
          · intro i hi
            have hi' : i < j := by simpa [tab_length] using hi
            rw [rd_tab _ _ _ hi', rd_tab _ _ _ hi']
            unfold roomI roomAt
            have : (i : Int) ∈ sorted (loads (j : Int) l) (hs g j) ↔ (i : Int) ≠ g := by
              rw [hp.mem_iff, mem_hs]
              constructor
              · rintro ⟨_, _, h⟩; exact h
              · intro h; exact ⟨by omega, by omega, h⟩
            by_cases c : (i : Int) = g
            · rw [c] at this ⊢
              simp [this]
            · simp [this, c]
        rw [this]
        exact hv) _ [] rfl
    have e0 : tab j (roomI ((l.length : Int) / ((sorted (loads (j : Int) l) (hs g j)).length : Int)) ((l.length : Int) % ((sorted (loads (j : Int) l) (hs g j)).length : Int)).toNat []) = List.replicate j 0 := by
      rw [tab_zero]
      congr 1
      funext h
      simp [roomI]
    rw [e0] at h1
    refine cm_step_bind (g := fun k t113 => (slices_SortStableFunc_int_int_of_impl_spread_1.f k (hs g j) t113).bind fun t117 => (if 0 ≤ (j : Int) then (if ((j : Int) : Int).toNat ≤ 35184372088832 then (impl_spread.l1 k l out t117 (List.replicate ((j : Int) : Int).toNat 0) ((hs g j).length : Int) 0 t113) else (none)) else (none))) (fun k => ?_) (cm_of_some (d := l.length) (fun k hk => impl_loads_f (j : Int) l hgood k hk)) ?_
    · rw [impl_spread.l0, if_neg (by omega)]
    · refine cm_bind (sort_f (loads (j : Int) l) hLb (hs g j) (by have := hlen j; omega) (fun p hpp => by
        rw [mem_hs] at hpp
        rw [hL]
        exact ⟨hpp.1, hpp.2.1⟩)) ?_
      refine cm_yes (by omega) (cm_yes (by omega) ?_)
      have e1 : ((hs g j).length : Int) = ((sorted (loads (j : Int) l) (hs g j)).length : Int) := by rw [hp.length_eq]
      rw [e1]
      exact h1
  | succ d ih =>
    intro j hj
    have h1 := ih (j + 1) (by omega)
    rw [hs_succ] at h1
    refine cm_step (fun k => ?_) h1
    have := hlen j
    rw [impl_spread.l0, if_pos (by omega), wrap_len (m := 100) (by omega) (by omega)]
    by_cases e : (j : Int) = g
    · rw [if_pos e, if_pos e]
    · rw [if_neg e, if_neg e, if_pos (by omega)]
end
end Go.Proofs.Ytgcliajajcinpaa.Spread
end
section
namespace Go.Proofs.Ytgcliajajcinpaa.Spread
open Go.RowKit Go.Proofs.Ytgcliajajcinpaa.P Go.Proofs.YtgcliajajcinpaaW.PrintWords Go.Proofs.YtgcliajajcinpaaW.PrintLast Go.Proofs.YtgcliajajcinpaaW.PrintMore
open Go.Proofs.Ytgcliajajcinpaa.Pl Go.Proofs.Ytgcliajajcinpaa.Base Go.Proofs.Ytgcliajajcinpaa.Places Go.Proofs.Ytgcliajajcinpaa.EvN
set_option linter.unusedSimpArgs false
set_option linter.unusedVariables false
theorem sum_set : ∀ (L : List Int) (i : Nat) (v : Int), i < L.length → (L.set i v).sum = L.sum - rd L (i : Int) + v
  | a :: t, 0, v, _ => by simp [rd]; omega
  | a :: t, i + 1, v, h => by
    have := sum_set t i v (by simpa using h)
    have e : rd (a :: t) ((i + 1 : Nat) : Int) = rd t (i : Int) := by
      unfold rd
      have h1 : (((i + 1 : Nat) : Int)).toNat = i + 1 := by omega
      have h2 : ((i : Nat) : Int).toNat = i := by omega
      rw [h1, h2]; simp
    rw [e]
    simp only [List.set_cons_succ, List.sum_cons]
    omega
def held (l : List Int) : Nat := l.countP (fun h => decide (h ≥ 0))
theorem held_cons (h : Int) (t : List Int) : held (h :: t) = held t + if h ≥ 0 then 1 else 0 := by
  unfold held
  rw [List.countP_cons]
  by_cases c : h ≥ 0 <;> simp [c]
theorem cnt_cons (j h : Int) (t : List Int) : List.count j (h :: t) = List.count j t + if h = j then 1 else 0 := by
  rw [List.count_cons]
  by_cases c : h = j <;> simp [c]
theorem foldl_count (n : Nat) : ∀ (l acc : List Int), acc.length = n → (∀ h ∈ l, -1 ≤ h ∧ h < (n : Int)) →
    (l.foldl count acc).sum = acc.sum + held l ∧ ∀ j : Nat, j < n → rd (l.foldl count acc) (j : Int) = rd acc (j : Int) + (List.count (j : Int) l : Nat)
  | [], acc, _, _ => by simp [held]
  | h :: t, acc, ha, hl => by
    have hh := hl h (by simp)
    rw [List.foldl_cons]
    have ih := foldl_count n t (count acc h) (by rw [count_length, ha]) (fun x hx => hl x (by simp [hx]))
    rw [ih.1, held_cons]
    by_cases c : h ≥ 0
    · have e1 : count acc h = acc.set h.toNat (rd acc h + 1) := by unfold count; rw [if_pos c]
      have e2 : ((h.toNat : Nat) : Int) = h := by omega
      constructor
      · rw [e1, sum_set _ _ _ (by omega), e2, if_pos c]
        omega
      · intro j hj
        rw [ih.2 j hj, e1, rd_set _ _ _ (by omega) _ (by omega), cnt_cons, e2]
        by_cases cj : (j : Int) = h
        · rw [if_pos cj, if_pos cj.symm, cj]; omega
        · rw [if_neg cj, if_neg (fun x => cj x.symm)]; omega
    · have e1 : count acc h = acc := by unfold count; rw [if_neg c]
      constructor
      · rw [e1, if_neg c]; omega
      · intro j hj
        rw [ih.2 j hj, e1, cnt_cons, if_neg (by omega)]
        omega
theorem loads_sum (n : Nat) (l : List Int) (hl : ∀ h ∈ l, -1 ≤ h ∧ h < (n : Int)) : (loads (n : Int) l).sum = held l ∧ ∀ j : Nat, j < n → rd (loads (n : Int) l) (j : Int) = (List.count (j : Int) l : Nat) := by
  have := foldl_count n l (List.replicate ((n : Int)).toNat 0) (by simp) hl
  unfold loads
  constructor
  · rw [this.1]; simp
  · intro j hj
    rw [this.2 j hj]
    have : rd (List.replicate ((n : Int)).toNat 0) (j : Int) = 0 := by
      rw [rd_get _ _ (by simpa using hj)]; simp
    omega
theorem tab_succ (n : Nat) (f : Int → Int) : tab (n + 1) f = tab n f ++ [f (n : Int)] := by
  unfold tab
  rw [List.range_succ, List.map_append]
  rfl
theorem tab_base (g base : Int) : ∀ n : Nat, (tab n (fun h => if h = g then 0 else base)).sum = base * ((hs g n).length : Int)
  | 0 => by simp [tab, hs]
  | n + 1 => by
    rw [tab_succ, List.sum_append, tab_base g base n, hs_succ]
    by_cases c : (n : Int) = g
    · simp [c]
    · simp [c, Int.mul_add]
theorem tab_rooms {n : Nat} {g base : Int} {o : List Int} (hnd : o.Nodup) (ho : ∀ h ∈ o, (0 ≤ h ∧ h < (n : Int)) ∧ h ≠ g) : ∀ r : Nat, r ≤ o.length → (tab n (roomAt g base o r)).sum = base * ((hs g n).length : Int) + r
  | 0, _ => by
    have : tab n (roomAt g base o 0) = tab n (fun h => if h = g then 0 else base) := by
      congr 1
    rw [this, tab_base]; simp
  | r + 1, h => by
    have ih := tab_rooms (base := base) hnd ho r (by omega)
    have hio : r < o.length := by omega
    have hc := ho _ (List.getElem_mem hio)
    obtain ⟨c, hcc⟩ : ∃ c : Nat, (c : Int) = o[r] := ⟨o[r].toNat, by omega⟩
    have hcn : c < n := by omega
    have e : tab n (roomAt g base o (r + 1)) = (tab n (roomAt g base o r)).set c (base + 1) := by
      symm
      refine tab_set n _ _ c _ hcn ?_ ?_
      · unfold roomAt
        rw [if_pos]
        rw [take_succ_mem hio]
        right; exact hcc
      · intro j hj hne
        unfold roomAt
        have : (j : Int) ∈ o.take (r + 1) ↔ (j : Int) ∈ o.take r := by
          rw [take_succ_mem hio]
          constructor
          · rintro (h | h)
            · exact h
            · omega
          · exact .inl
        simp only [this]
    rw [e, sum_set _ _ _ (by rw [tab_length]; exact hcn), ih, rd_tab n _ c hcn]
    have : roomAt g base o r (c : Int) = base := by
      unfold roomAt
      rw [hcc, if_neg (take_next hnd hio), if_neg hc.2]
    rw [this]
    omega
theorem rooms_sum {n : Nat} {g : Int} (hn : 1 ≤ n) (hg : goneOk n g) (len : Nat) (L : List Int) : (rooms n g len L).sum = len := by
  have hm := many_pos hn hg
  have hp := sorted_perm L (hs g n)
  have hr := Int.emod_lt_of_pos (len : Int) hm
  have hr0 := Int.emod_nonneg (len : Int) (show many n g ≠ 0 by omega)
  unfold rooms
  rw [tab_rooms (by
      rw [hp.nodup_iff]
      exact (hs_lt g n).imp (by intro a b h; omega)) (fun h hh => by
      rw [hp.mem_iff, mem_hs] at hh
      exact ⟨⟨hh.1, hh.2.1⟩, hh.2.2⟩) _ (by
      have := many_hs hg
      have := hp.length_eq
      omega), many_hs hg]
  have := Int.mul_ediv_add_emod (len : Int) (many n g)
  rw [Int.mul_comm] at this
  omega
theorem rooms_nonneg {n : Nat} {g : Int} (hn : 1 ≤ n) (hg : goneOk n g) (len : Nat) (L : List Int) (j : Nat) (hj : j < n) : 0 ≤ rd (rooms n g len L) (j : Int) := by
  have hm := many_pos hn hg
  unfold rooms
  rw [rd_tab _ _ _ hj]
  have := Int.ediv_nonneg (show (0 : Int) ≤ (len : Int) by omega) (show 0 ≤ many n g by omega)
  unfold roomAt
  split
  · omega
  · split <;> omega
theorem rooms_gone {n : Nat} {g : Int} (len : Nat) (L : List Int) (hg : 0 ≤ g ∧ g < (n : Int)) : rd (rooms n g len L) g = 0 := by
  obtain ⟨j, rfl⟩ : ∃ j : Nat, (j : Int) = g := ⟨g.toNat, by omega⟩
  unfold rooms
  rw [rd_tab _ _ _ (by omega)]
  unfold roomAt
  rw [if_neg, if_pos rfl]
  intro h
  have := List.mem_of_mem_take h
  rw [(sorted_perm L (hs (j : Int) n)).mem_iff, mem_hs] at this
  exact this.2.2 rfl
theorem rooms_length (n : Nat) (g : Int) (len : Nat) (L : List Int) : (rooms n g len L).length = n := tab_length _ _
def leave (R : List Int) : List Int → List Int → List Int → List Int × List Int
  | [], suf, L => (suf, L)
  | h :: t, suf, L => if h ≥ 0 ∧ rd L h > rd R h then leave R t (-1 :: suf) (L.set h.toNat (rd L h - 1)) else leave R t (h :: suf) L
theorem leave_length (R : List Int) : ∀ t suf L, (leave R t suf L).1.length = t.length + suf.length ∧ (leave R t suf L).2.length = L.length
  | [], suf, L => by simp [leave]
  | h :: t, suf, L => by
    unfold leave
    split
    · have := leave_length R t (-1 :: suf) (L.set h.toNat (rd L h - 1))
      simp at this ⊢
      omega
    · have := leave_length R t (h :: suf) L
      simp at this ⊢
      omega
theorem spec_leave {n : Nat} (hn : n ≤ 6) (R : List Int) (hR : R.length = n) (v : List Int) : ∀ (t suf L : List Int), t.length < 1000 → (∀ h ∈ t, -1 ≤ h ∧ h < (n : Int)) → L.length = n → (∀ j, -1000 ≤ rd L j - (t.length : Int) ∧ rd L j ≤ 1000) →
    Cm (fun k => spec_l13Spread.l2 k (leave R t suf L).1 R (leave R t suf L).2 ((leave R t suf L).1.length : Int) 0) v →
    Cm (fun k => spec_l13Spread.l1 k (t.reverse ++ suf) R L ((t.length : Int) - 1)) v
  | [], suf, L, _, _, hL, _, hv => by
    refine cm_step (fun k => ?_) hv
    rw [spec_l13Spread.l1, if_neg (by simp)]
    simp [leave]
  | h :: t, suf, L, hlt, hh, hL, hb, hv => by
    have h1 := hh h (by simp)
    have hbh := hb h
    simp only [List.length_cons] at hbh hlt hb
    have e1 : (h :: t).reverse ++ suf = t.reverse ++ h :: suf := by simp
    have e2 : (((h :: t).length : Nat) : Int) - 1 = (t.reverse.length : Int) := by simp
    have e3 : rd (t.reverse ++ h :: suf) (t.reverse.length : Int) = h := rd_mid _ _ _
    have e4 : (t.reverse.length : Int) = (t.length : Int) := by simp
    have e5 : wrap64 ((t.reverse.length : Int) - 1) = (t.length : Int) - 1 := by rw [e4, wrap_in (by omega) (by omega)]
    by_cases c : h ≥ 0 ∧ rd L h > rd R h
    · have h2 := spec_leave hn R hR v t (-1 :: suf) (L.set h.toNat (rd L h - 1)) (by omega) (fun x hx => hh x (by simp [hx])) (by simpa using hL) (fun j => by
        by_cases cj : j < 0
        · have : rd (L.set h.toNat (rd L h - 1)) j = rd (L.set h.toNat (rd L h - 1)) 0 := by
            unfold rd
            have : j.toNat = (0 : Int).toNat := by omega
            rw [this]
          rw [this, rd_set _ _ _ (by omega) _ (by omega)]
          have := hb 0
          split <;> omega
        · rw [rd_set _ _ _ (by omega) _ (by omega)]
          have := hb j
          split <;> omega) (by
        unfold leave at hv
        rw [if_pos c] at hv
        exact hv)
      refine cm_step (fun k => ?_) h2
      rw [e1, e2, spec_l13Spread.l1, if_pos (by omega), if_pos (by omega), if_pos (by simp; omega), e3, if_pos c.1, if_pos c.1, if_pos (by omega), if_pos (by omega), if_pos c.2, e5, wrap_in (by omega) (by omega)]
      congr 1
      have : ((t.reverse.length : Nat) : Int).toNat = t.reverse.length := by simp
      rw [this]
      simp
    · have h2 := spec_leave hn R hR v t (h :: suf) L (by omega) (fun x hx => hh x (by simp [hx])) hL (fun j => by have := hb j; omega) (by
        unfold leave at hv
        rw [if_neg c] at hv
        exact hv)
      refine cm_step (fun k => ?_) h2
      by_cases c0 : h ≥ 0
      · rw [e1, e2, spec_l13Spread.l1, if_pos (by omega), if_pos (by omega), if_pos (by simp; omega), e3, if_pos c0, if_pos c0, if_pos (by omega), if_pos (by omega), if_neg (fun x => c ⟨c0, x⟩), e5]
      · rw [e1, e2, spec_l13Spread.l1, if_pos (by omega), if_pos (by omega), if_pos (by simp; omega), e3, if_neg c0, e5]
end Go.Proofs.Ytgcliajajcinpaa.Spread
end
section
namespace Go.Proofs.Ytgcliajajcinpaa.Spread
open Go.RowKit Go.Proofs.Ytgcliajajcinpaa.P Go.Proofs.YtgcliajajcinpaaW.PrintWords Go.Proofs.YtgcliajajcinpaaW.PrintLast Go.Proofs.YtgcliajajcinpaaW.PrintMore
open Go.Proofs.Ytgcliajajcinpaa.Pl Go.Proofs.Ytgcliajajcinpaa.Base Go.Proofs.Ytgcliajajcinpaa.Places Go.Proofs.Ytgcliajajcinpaa.EvN
set_option linter.unusedSimpArgs false
set_option linter.unusedVariables false
theorem least {P : Nat → Prop} : ∀ m, (∃ s, s < m ∧ P s) → ∃ s, s < m ∧ P s ∧ ∀ i, i < s → ¬ P i
  | 0, h => by obtain ⟨s, h1, _⟩ := h; omega
  | m + 1, h => by
    by_cases c : ∃ s, s < m ∧ P s
    · obtain ⟨s, h1, h2, h3⟩ := least m c
      exact ⟨s, by omega, h2, h3⟩
    · obtain ⟨s, h1, h2⟩ := h
      have : s = m := by
        by_cases e : s = m
        · exact e
        · exact absurd ⟨s, by omega, h2⟩ c
      subst this
      exact ⟨s, by omega, h2, fun i hi hp => c ⟨i, hi, hp⟩⟩
theorem rd_cons_succ (a : Int) (t : List Int) (i : Nat) : rd (a :: t) ((i + 1 : Nat) : Int) = rd t (i : Int) := by
  unfold rd
  have h1 : (((i + 1 : Nat) : Int)).toNat = i + 1 := by omega
  have h2 : ((i : Nat) : Int).toNat = i := by omega
  rw [h1, h2]; simp
theorem rd_cons_zero (a : Int) (t : List Int) : rd (a :: t) ((0 : Nat) : Int) = a := by simp [rd]
theorem sum_le : ∀ (L R : List Int), L.length = R.length → (∀ j : Nat, j < L.length → rd L (j : Int) ≤ rd R (j : Int)) → L.sum ≤ R.sum ∧ (L.sum = R.sum → L = R)
  | [], [], _, _ => by simp
  | a :: t, b :: u, hl, h => by
    have h0 := h 0 (by simp)
    rw [rd_cons_zero, rd_cons_zero] at h0
    have ih := sum_le t u (by simpa using hl) (fun j hj => by
      have := h (j + 1) (by simpa using hj)
      rw [rd_cons_succ, rd_cons_succ] at this
      exact this)
    simp only [List.sum_cons]
    refine ⟨by omega, fun e => ?_⟩
    rw [ih.2 (by omega)]
    congr 1
    omega
theorem held_le (l : List Int) : held l ≤ l.length := List.countP_le_length
theorem held_app (l m : List Int) : held (l ++ m) = held l + held m := by unfold held; rw [List.countP_append]
theorem held_all {l : List Int} (h : ∀ x ∈ l, 0 ≤ x) : held l = l.length := by
  unfold held
  rw [List.countP_eq_length]
  intro a ha
  simpa using h a ha
theorem rd_app_left (l m : List Int) (i : Nat) (h : i < l.length) : rd (l ++ m) (i : Int) = rd l (i : Int) := by
  unfold rd
  simp [List.getElem?_append_left, h]
theorem spec_fill {n : Nat} (hn : n ≤ 6) (R : List Int) (hR : R.length = n) (hR2 : ∀ j, 0 ≤ rd R j ∧ rd R j ≤ 1000) (len : Nat) (hlen : len ≤ 16) (hRs : R.sum = len) :
    ∀ (todo done L : List Int), done.length + todo.length = len → (∀ h ∈ done, 0 ≤ h ∧ h < (n : Int)) → (∀ h ∈ todo, -1 ≤ h ∧ h < (n : Int)) → L.length = n →
    (∀ j : Nat, j < n → rd L (j : Int) = (List.count (j : Int) (done ++ todo) : Nat)) → (∀ j : Nat, j < n → rd L (j : Int) ≤ rd R (j : Int)) → L.sum = held (done ++ todo) →
    ∃ v, Cm (fun k => spec_l13Spread.l2 k (done ++ todo) R L (len : Int) (done.length : Int)) v ∧ v.length = len ∧ (∀ h ∈ v, 0 ≤ h ∧ h < (n : Int)) ∧ (∀ j : Nat, j < n → ((List.count (j : Int) v : Nat) : Int) = rd R (j : Int)) ∧
      (∀ i : Nat, i < len → rd (done ++ todo) (i : Int) ≥ 0 → rd v (i : Int) = rd (done ++ todo) (i : Int))
  | [], done, L, hd, hdd, _, hL, hc, hle, hs => by
    refine ⟨done, ?_, by simpa using hd, hdd, ?_, ?_⟩
    · refine cm_last (fun k => ?_)
      rw [spec_l13Spread.l2, if_neg (by simp at hd; omega)]
      simp
    · have h1 := sum_le L R (by omega) (fun j hj => hle j (by omega))
      have h2 : held (done ++ []) = len := by
        simp only [List.append_nil]
        rw [held_all (fun x hx => (hdd x hx).1)]
        simpa using hd
      have h3 := h1.2 (by rw [hs, hRs, h2])
      intro j hj
      rw [← h3, hc j hj]
      simp
    · intro i _ _
      simp
  | h :: t, done, L, hd, hdd, ht, hL, hc, hle, hs => by
    have hh := ht h (by simp)
    simp only [List.length_cons] at hd
    have e1 : (done ++ [h]) ++ t = done ++ h :: t := by simp
    by_cases c : h ≥ 0
    · obtain ⟨v, hv, hv2⟩ := spec_fill hn R hR hR2 len hlen hRs t (done ++ [h]) L (by simp; omega) (by
        intro x hx
        rw [List.mem_append, List.mem_singleton] at hx
        rcases hx with hx | rfl
        · exact hdd x hx
        · exact ⟨c, hh.2⟩) (fun x hx => ht x (by simp [hx])) hL (by rw [e1]; exact hc) hle (by rw [e1]; exact hs)
      rw [e1] at hv hv2
      refine ⟨v, ?_, hv2⟩
      refine cm_step (fun k => ?_) hv
      rw [spec_l13Spread.l2, if_pos (by omega), if_pos (by omega), if_pos (by simp; omega), rd_mid, if_pos c, len_one, wrap_len (m := 100) (by omega) (by omega)]
    · have hneg : h = -1 := by omega
      have hex : ∃ s, s < n ∧ rd L (s : Int) < rd R (s : Int) := by
        apply Classical.byContradiction
        intro hno
        have h1 := (sum_le R L (by omega) (fun j hj => by
          apply Classical.byContradiction
          intro hlt
          exact hno ⟨j, by omega, by omega⟩)).1
        have h2 : held (done ++ h :: t) < len := by
          rw [held_app, held_cons, if_neg c]
          have := held_le done
          have := held_le t
          omega
        omega
      obtain ⟨s, hs1, hs2, hs3⟩ := least n hex
      have hset : (done ++ h :: t).set done.length (s : Int) = done ++ (s : Int) :: t := by simp
      have e2 : (done ++ [(s : Int)]) ++ t = done ++ (s : Int) :: t := by simp
      have hcs := hc s hs1
      have hRb := hR2 (s : Int)
      obtain ⟨v, hv, hvl, hvb, hvc, hvk⟩ := spec_fill hn R hR hR2 len hlen hRs t (done ++ [(s : Int)]) (L.set s (rd L (s : Int) + 1)) (by simp; omega) (by
        intro x hx
        rw [List.mem_append, List.mem_singleton] at hx
        rcases hx with hx | rfl
        · exact hdd x hx
        · exact ⟨by omega, by omega⟩) (fun x hx => ht x (by simp [hx])) (by simpa using hL) (by
          intro j hj
          rw [e2, rd_set _ _ _ (by omega) _ (by omega)]
          have h0 := hc j hj
          rw [List.count_append, cnt_cons] at h0 ⊢
          by_cases ej : (j : Int) = (s : Int)
          · rw [if_pos ej, if_pos ej.symm]
            rw [if_neg (by omega)] at h0
            rw [ej] at h0
            rw [ej]
            omega
          · rw [if_neg ej, if_neg (fun x => ej x.symm)]
            rw [if_neg (by omega)] at h0
            omega) (by
          intro j hj
          rw [rd_set _ _ _ (by omega) _ (by omega)]
          by_cases ej : (j : Int) = (s : Int)
          · rw [if_pos ej, ej]; omega
          · rw [if_neg ej]; exact hle j hj) (by
          rw [sum_set _ _ _ (by omega), e2, hs, held_app, held_app, held_cons, held_cons, if_neg c, if_pos (by omega)]
          omega)
      rw [e2] at hv hvk
      refine ⟨v, ?_, hvl, hvb, hvc, ?_⟩
      · have hslot : ∀ d j : Nat, j + d = s → Cm (fun k => spec_l13Spread.l3 k (done ++ h :: t) R L (done.length : Int) (j : Int) (len : Int) (done.length : Int)) v := by
          intro d
          induction d with
          | zero =>
            intro j hj
            obtain rfl : j = s := by omega
            refine cm_step (fun k => ?_) hv
            rw [spec_l13Spread.l3, if_pos (by omega), if_pos (by omega), if_pos (by omega), if_neg (by omega), if_pos (by omega), if_pos (by simp; omega)]
            have a1 : ((done.length : Nat) : Int).toNat = done.length := by simp
            have a2 : ((j : Nat) : Int).toNat = j := by simp
            rw [a1, a2, hset, wrap_in (x := rd L (j : Int) + 1) (by omega) (by omega), len_one, wrap_len (m := 100) (by omega) (by omega)]
          | succ d ih =>
            intro j hj
            have h1 := ih (j + 1) (by omega)
            have h2 := hs3 j (by omega)
            refine cm_step (fun k => ?_) h1
            rw [spec_l13Spread.l3, if_pos (by omega), if_pos (by omega), if_pos (by omega), if_pos (by omega), wrap_len (m := 100) (by omega) (by omega)]
        refine cm_step (fun k => ?_) (hslot s 0 (by omega))
        rw [spec_l13Spread.l2, if_pos (by omega), if_pos (by omega), if_pos (by simp; omega), rd_mid, if_neg c]
        rfl
      · intro i hi hr
        by_cases ei : i = done.length
        · subst ei
          rw [rd_mid] at hr
          exact absurd hr c
        · have : rd (done ++ h :: t) (i : Int) = rd (done ++ (s : Int) :: t) (i : Int) := by
            rw [← hset, rd_set _ _ _ (by simp) _ (by omega), if_neg (by omega)]
          rw [this] at hr ⊢
          exact hvk i hi hr
theorem leave_inv {n : Nat} (R : List Int) : ∀ (t suf L : List Int), L.length = n → (∀ h ∈ t, -1 ≤ h ∧ h < (n : Int)) → (∀ h ∈ suf, -1 ≤ h ∧ h < (n : Int)) →
    (∀ j : Nat, j < n → rd L (j : Int) = (List.count (j : Int) t : Nat) + (List.count (j : Int) suf : Nat)) → (∀ j : Nat, j < n → ((List.count (j : Int) suf : Nat) : Int) ≤ rd R (j : Int)) → L.sum = held t + held suf →
    (∀ h ∈ (leave R t suf L).1, -1 ≤ h ∧ h < (n : Int)) ∧ (∀ j : Nat, j < n → rd (leave R t suf L).2 (j : Int) = (List.count (j : Int) (leave R t suf L).1 : Nat)) ∧
      (∀ j : Nat, j < n → rd (leave R t suf L).2 (j : Int) ≤ rd R (j : Int)) ∧ (leave R t suf L).2.sum = held (leave R t suf L).1
  | [], suf, L, hL, _, hsb, hc, hle, hs => by
    simp only [leave]
    refine ⟨hsb, fun j hj => by have := hc j hj; simp at this; exact this, fun j hj => by have := hc j hj; simp at this; have := hle j hj; omega, by simp [held] at hs ⊢; exact hs⟩
  | h :: t, suf, L, hL, htb, hsb, hc, hle, hs => by
    have hh := htb h (by simp)
    have hneg : ∀ j : Nat, ¬ (-1 : Int) = (j : Int) := by intro j; omega
    unfold leave
    by_cases c : h ≥ 0 ∧ rd L h > rd R h
    · rw [if_pos c]
      refine leave_inv R t (-1 :: suf) (L.set h.toNat (rd L h - 1)) (by simpa using hL) (fun x hx => htb x (by simp [hx])) (by
        intro x hx
        rw [List.mem_cons] at hx
        rcases hx with rfl | hx
        · omega
        · exact hsb x hx) ?_ ?_ ?_
      · intro j hj
        have h0 := hc j hj
        rw [rd_set _ _ _ (by omega) _ (by omega)]
        rw [cnt_cons] at h0 ⊢
        rw [if_neg (hneg j)]
        have e2 : ((h.toNat : Nat) : Int) = h := by omega
        rw [e2]
        by_cases ej : (j : Int) = h
        · rw [if_pos ej.symm] at h0
          rw [if_pos ej, ← ej]
          omega
        · rw [if_neg (fun x => ej x.symm)] at h0
          rw [if_neg ej]
          omega
      · intro j hj
        rw [cnt_cons, if_neg (hneg j)]
        exact hle j hj
      · have e2 : ((h.toNat : Nat) : Int) = h := by omega
        rw [sum_set _ _ _ (by omega), e2, hs, held_cons, held_cons, if_pos c.1, if_neg (by omega)]
        omega
    · rw [if_neg c]
      refine leave_inv R t (h :: suf) L hL (fun x hx => htb x (by simp [hx])) (by
        intro x hx
        rw [List.mem_cons] at hx
        rcases hx with rfl | hx
        · exact hh
        · exact hsb x hx) ?_ ?_ ?_
      · intro j hj
        have h0 := hc j hj
        rw [cnt_cons] at h0 ⊢
        omega
      · intro j hj
        have h0 := hc j hj
        have h1 := hle j hj
        rw [cnt_cons] at h0 ⊢
        by_cases ej : h = (j : Int)
        · rw [if_pos ej] at h0 ⊢
          have : ¬ rd L h > rd R h := fun x => c ⟨by omega, x⟩
          rw [ej] at this
          omega
        · rw [if_neg ej]; omega
      · rw [hs, held_cons, held_cons]
        omega
def empt (g h : Int) : Int := if h ≥ 0 ∧ h = g then -1 else h
theorem leave_rel {n : Nat} {g : Int} (hg : 0 ≤ g ∧ g < (n : Int)) (R : List Int) (hRg : rd R g = 0) : ∀ (t suf L L' : List Int), L.length = n → L'.length = n → (∀ h ∈ t, -1 ≤ h ∧ h < (n : Int)) →
    (∀ j : Int, 0 ≤ j → j ≠ g → rd L j = rd L' j) → rd L g = (List.count g t : Nat) → rd L' g = 0 → leave R t suf L = leave R (t.map (empt g)) suf L'
  | [], suf, L, L', hL, hL', _, he, h1, h2 => by
    simp only [leave, List.map_nil]
    congr 1
    apply ext_rd (by omega)
    intro j hj
    by_cases e : (j : Int) = g
    · rw [e, h1, h2]; simp
    · exact he j (by omega) e
  | h :: t, suf, L, L', hL, hL', ht, he, h1, h2 => by
    have hh := ht h (by simp)
    simp only [List.map_cons, leave]
    rw [cnt_cons] at h1
    by_cases c : h = g
    · have e0 : empt g h = -1 := by unfold empt; rw [if_pos ⟨by omega, c⟩]
      rw [if_pos c] at h1
      rw [e0, if_pos ⟨by omega, by rw [c, h1, hRg]; omega⟩, if_neg (by omega)]
      refine leave_rel hg R hRg t (-1 :: suf) _ L' (by simpa using hL) hL' (fun x hx => ht x (by simp [hx])) ?_ ?_ h2
      · intro j hj hne
        rw [rd_set _ _ _ (by omega) _ hj, if_neg (by omega)]
        exact he j hj hne
      · rw [rd_set _ _ _ (by omega) _ hg.1, if_pos (by omega), c, h1]
        omega
    · have e0 : empt g h = h := by unfold empt; rw [if_neg (fun x => c x.2)]
      rw [if_neg c] at h1
      rw [e0]
      by_cases c0 : h ≥ 0
      · have e3 := he h c0 c
        rw [e3]
        by_cases c2 : rd L' h > rd R h
        · rw [if_pos ⟨c0, c2⟩, if_pos ⟨c0, c2⟩]
          refine leave_rel hg R hRg t (-1 :: suf) _ _ (by simpa using hL) (by simpa using hL') (fun x hx => ht x (by simp [hx])) ?_ ?_ ?_
          · intro j hj hne
            rw [rd_set _ _ _ (by omega) _ hj, rd_set _ _ _ (by omega) _ hj]
            split
            · rfl
            · exact he j hj hne
          · rw [rd_set _ _ _ (by omega) _ hg.1, if_neg (by omega), h1]; simp
          · rw [rd_set _ _ _ (by omega) _ hg.1, if_neg (by omega), h2]
        · rw [if_neg (fun x => c2 x.2), if_neg (fun x => c2 x.2)]
          exact leave_rel hg R hRg t (h :: suf) L L' hL hL' (fun x hx => ht x (by simp [hx])) he (by rw [h1]; simp) h2
      · rw [if_neg (fun x => c0 x.1), if_neg (fun x => c0 x.1)]
        exact leave_rel hg R hRg t (h :: suf) L L' hL hL' (fun x hx => ht x (by simp [hx])) he (by rw [h1]; simp) h2
end Go.Proofs.Ytgcliajajcinpaa.Spread
end
section
namespace Go.Proofs.Ytgcliajajcinpaa.Spread
open Go.RowKit Go.Proofs.Ytgcliajajcinpaa.P Go.Proofs.YtgcliajajcinpaaW.PrintWords Go.Proofs.YtgcliajajcinpaaW.PrintLast Go.Proofs.YtgcliajajcinpaaW.PrintMore
open Go.Proofs.Ytgcliajajcinpaa.Pl Go.Proofs.Ytgcliajajcinpaa.Base Go.Proofs.Ytgcliajajcinpaa.Places Go.Proofs.Ytgcliajajcinpaa.EvN
set_option linter.unusedSimpArgs false
set_option linter.unusedVariables false
theorem empt_none {g h : Int} (hg : g < 0) : empt g h = h := by
  unfold empt
  rw [if_neg (by omega)]
theorem empt_bound {n : Nat} {g : Int} {l : List Int} (hl : ∀ h ∈ l, -1 ≤ h ∧ h < (n : Int)) : ∀ h ∈ l.map (empt g), -1 ≤ h ∧ h < (n : Int) := by
  intro h hh
  rw [List.mem_map] at hh
  obtain ⟨a, ha, rfl⟩ := hh
  have := hl a ha
  unfold empt
  split <;> omega
theorem good_empt {n : Nat} {g : Int} {l : List Int} (h : good (n : Int) l = true) : good (n : Int) (l.map (empt g)) = true := by
  rw [good_iff] at h ⊢
  exact ⟨empt_bound h.1, h.2.1, by simpa using h.2.2⟩
theorem count_empt {g : Int} {l : List Int} {j : Int} (hj : 0 ≤ j) (hne : j ≠ g) : List.count j (l.map (empt g)) = List.count j l := by
  induction l with
  | nil => rfl
  | cons a t ih =>
    rw [List.map_cons, cnt_cons, cnt_cons, ih]
    unfold empt
    by_cases c : a ≥ 0 ∧ a = g
    · rw [if_pos c, if_neg (by omega), if_neg (by omega)]
    · rw [if_neg c]
theorem count_gone {g : Int} {l : List Int} (hg : 0 ≤ g) : List.count g (l.map (empt g)) = 0 := by
  rw [List.count_eq_zero]
  intro h
  rw [List.mem_map] at h
  obtain ⟨a, _, h2⟩ := h
  unfold empt at h2
  split at h2 <;> omega
theorem ins_congr {L L' : List Int} {x : Int} : ∀ {s : List Int}, rd L x = rd L' x → (∀ p ∈ s, rd L p = rd L' p) → ins L x s = ins L' x s
  | [], _, _ => rfl
  | p :: t, hx, hs => by
    rw [ins, ins, hx, hs p (by simp), ins_congr hx (fun q hq => hs q (by simp [hq]))]
theorem insAll_congr {L L' : List Int} : ∀ {t s : List Int}, (∀ p ∈ t, rd L p = rd L' p) → (∀ p ∈ s, rd L p = rd L' p) → insAll L s t = insAll L' s t
  | [], _, _, _ => rfl
  | x :: t, s, ht, hs => by
    rw [insAll, insAll, ins_congr (ht x (by simp)) hs]
    refine insAll_congr (fun p hp => ht p (by simp [hp])) ?_
    intro p hp
    rw [(ins_perm L' x s).mem_iff, List.mem_cons] at hp
    rcases hp with rfl | hp
    · exact ht _ (by simp)
    · exact hs p hp
theorem rooms_congr {n : Nat} {g : Int} {len : Nat} {L L' : List Int} (h : ∀ j : Int, 0 ≤ j → j < (n : Int) → j ≠ g → rd L j = rd L' j) : rooms n g len L = rooms n g len L' := by
  unfold rooms sorted
  rw [insAll_congr (L := L) (L' := L') (fun p hp => by
    rw [mem_hs] at hp
    exact h p hp.1 hp.2.1 hp.2.2) (by simp)]
theorem spec_l0 {n : Nat} {g : Int} (m : List Int) (hm16 : m.length ≤ 16) (v : List Int) : ∀ (rest pre : List Int), pre ++ rest = m →
    Cm (fun k => spec_l13Spread.l0 k (n : Int) g (m.map (empt g)) (m.length : Int) (m.length : Int)) v →
    Cm (fun k => spec_l13Spread.l0 k (n : Int) g (pre.map (empt g) ++ rest) (m.length : Int) (pre.length : Int)) v
  | [], pre, e, hv => by
    have : pre = m := by simpa using e
    subst this
    simpa using hv
  | h :: t, pre, e, hv => by
    have hlt := len_mid e
    have h1 := spec_l0 m hm16 v t (pre ++ [h]) (app_mid e) hv
    rw [len_one] at h1
    have e2 : (pre ++ [h]).map (empt g) ++ t = pre.map (empt g) ++ empt g h :: t := by simp
    rw [e2] at h1
    have e3 : (pre.length : Int) = ((pre.map (empt g)).length : Int) := by simp
    have e4 : rd (pre.map (empt g) ++ h :: t) (pre.length : Int) = h := by rw [e3]; exact rd_mid _ _ _
    refine cm_step (fun k => ?_) h1
    rw [spec_l13Spread.l0, if_pos (by omega), if_pos (by omega), if_pos (by simp; omega), e4, wrap_len hlt (by omega)]
    by_cases c : h ≥ 0
    · by_cases c2 : h = g
      · rw [if_pos c, if_pos c2]
        have : empt g h = -1 := by unfold empt; rw [if_pos ⟨c, c2⟩]
        rw [this]
        congr 1
        have : ((pre.length : Nat) : Int).toNat = (pre.map (empt g)).length := by simp
        rw [this]
        simp
      · rw [if_pos c, if_neg c2]
        have : empt g h = h := by unfold empt; rw [if_neg (fun x => c2 x.2)]
        rw [this]
    · rw [if_neg c]
      have : empt g h = h := by unfold empt; rw [if_neg (fun x => c x.1)]
      rw [this]
theorem spread_one {n : Nat} {g : Int} {l : List Int} (hg : goneOk n g) (hgood : good (n : Int) l = true) :
    ∃ v o, Cm (fun k => spec_l13Spread.f k (n : Int) l g) v ∧ Cm (fun k => impl_spread.f k (n : Int) l g) v ∧ v.length = l.length ∧ (∀ h ∈ v, 0 ≤ h ∧ h < (n : Int)) ∧
      (∀ j : Nat, j < n → ((List.count (j : Int) v : Nat) : Int) = rd (rooms n g l.length (loads (n : Int) l)) (j : Int)) ∧
      o = (leave (rooms n g l.length (loads (n : Int) l)) l.reverse [] (loads (n : Int) l)).1 ∧ (∀ i : Nat, i < l.length → rd o (i : Int) ≥ 0 → rd v (i : Int) = rd o (i : Int)) := by
  obtain ⟨hlb, hn', hl16⟩ := good_iff.1 hgood
  have hn : 1 ≤ n ∧ n ≤ 6 := by omega
  have hmg := good_empt (g := g) hgood
  have hmb := (good_iff.1 hmg).1
  have hml : (l.map (empt g)).length = l.length := by simp
  have hLm : (loads (n : Int) (l.map (empt g))).length = n := by rw [loads_length]; simp
  have hLl : (loads (n : Int) l).length = n := by rw [loads_length]; simp
  have hcm := loads_sum n (l.map (empt g)) hmb
  have hcl := loads_sum n l hlb
  have hrr : rooms n g l.length (loads (n : Int) l) = rooms n g l.length (loads (n : Int) (l.map (empt g))) := by
    refine rooms_congr (fun j h0 h1 h2 => ?_)
    obtain ⟨i, rfl⟩ : ∃ i : Nat, (i : Int) = j := ⟨j.toNat, by omega⟩
    rw [hcl.2 i (by omega), hcm.2 i (by omega), count_empt h0 h2]
  have hlv : leave (rooms n g l.length (loads (n : Int) l)) l.reverse [] (loads (n : Int) l) = leave (rooms n g l.length (loads (n : Int) l)) (l.map (empt g)).reverse [] (loads (n : Int) (l.map (empt g))) := by
    rcases hg with h1 | h1
    · have : l.map (empt g) = l := by
        have h2 : ∀ x ∈ l, empt g x = x := fun x _ => empt_none (by omega)
        rw [List.map_congr_left h2]
        simp
      rw [this]
    · have h3 : (l.map (empt g)).reverse = l.reverse.map (empt g) := by simp
      obtain ⟨i, hi⟩ : ∃ i : Nat, (i : Int) = g := ⟨g.toNat, by omega⟩
      rw [h3]
      refine leave_rel ⟨h1.1, h1.2.1⟩ _ (rooms_gone _ _ ⟨h1.1, h1.2.1⟩) _ _ _ _ hLl hLm (fun x hx => hlb x (by simpa using hx)) ?_ ?_ ?_
      · intro j h0 hne
        by_cases c : j < (n : Int)
        · obtain ⟨i, rfl⟩ : ∃ i : Nat, (i : Int) = j := ⟨j.toNat, by omega⟩
          rw [hcl.2 i (by omega), hcm.2 i (by omega), count_empt h0 hne]
        · unfold rd
          rw [List.getD_eq_getElem?_getD, List.getD_eq_getElem?_getD, List.getElem?_eq_none (by omega), List.getElem?_eq_none (by omega)]
      · rw [← hi, hcl.2 i (by omega)]; simp
      · have h5 := hcm.2 i (by omega)
        rw [hi, count_gone h1.1] at h5
        exact h5
  generalize hR : rooms n g l.length (loads (n : Int) l) = R at *
  have hRl : R.length = n := by rw [← hR]; exact rooms_length _ _ _ _
  have hRs : R.sum = l.length := by rw [← hR]; exact rooms_sum hn.1 hg _ _
  have hRn : ∀ j : Nat, j < n → 0 ≤ rd R (j : Int) := by
    intro j hj
    rw [← hR]
    exact rooms_nonneg hn.1 hg _ _ j hj
  have hinv := leave_inv (n := n) R (l.map (empt g)).reverse [] (loads (n : Int) (l.map (empt g))) hLm (fun x hx => hmb x (by rw [List.mem_reverse] at hx; exact hx)) (by simp) (by
    intro j hj
    rw [hcm.2 j hj, List.count_reverse]; simp) (by
    intro j hj
    have := hRn j hj
    simpa using this) (by
    rw [hcm.1]
    unfold held
    rw [List.countP_reverse]; simp)
  have hll := leave_length R (l.map (empt g)).reverse [] (loads (n : Int) (l.map (empt g)))
  generalize ho : leave R (l.map (empt g)).reverse [] (loads (n : Int) (l.map (empt g))) = oL at *
  have hRb : ∀ j, 0 ≤ rd R j ∧ rd R j ≤ 1000 := by
    intro j
    have h0 : ∀ x ∈ R, 0 ≤ x ∧ x ≤ 16 := by
      intro x hx
      obtain ⟨i, hi, rfl⟩ := List.getElem_of_mem hx
      have h1 := hRn i (by omega)
      rw [rd_get _ _ hi] at h1
      refine ⟨h1, ?_⟩
      have h2 := sum_set R i 0 hi
      rw [rd_get _ _ hi] at h2
      have h3 : 0 ≤ (R.set i 0).sum := by
        have h4 := (sum_le (List.replicate n 0) (R.set i 0) (by simp; omega) (fun j hj => by
          have hj' : j < n := by simpa using hj
          rw [rd_set _ _ _ hi _ (by omega), rd_get _ _ hj]
          simp only [List.getElem_replicate]
          split
          · omega
          · exact hRn j hj')).1
        have h5 : (List.replicate n (0 : Int)).sum = 0 := by simp
        omega
      omega
    have := rd_le (m := 16) (by omega) h0 j
    omega
  obtain ⟨v, hv, hvl, hvb, hvc, hvk⟩ := spec_fill hn.2 R hRl hRb l.length hl16 hRs oL.1 [] oL.2 (by simp at hll ⊢; exact hll.1) (by simp) hinv.1 (by rw [hll.2]; exact hLm) (by simpa using hinv.2.1) hinv.2.2.1 (by simpa using hinv.2.2.2)
  have hLmb : ∀ i, 0 ≤ rd (loads (n : Int) (l.map (empt g))) i ∧ rd (loads (n : Int) (l.map (empt g))) i ≤ 16 := by
    intro i
    have h1 := rd_le (m := ((l.map (empt g)).length : Int)) (by omega) (loads_le (n : Int) (l.map (empt g))) i
    omega
  have hLlb : ∀ i, 0 ≤ rd (loads (n : Int) l) i ∧ rd (loads (n : Int) l) i ≤ 16 := by
    intro i
    have h1 := rd_le (m := (l.length : Int)) (by omega) (loads_le (n : Int) l) i
    omega
  have hlen1 : (oL.1.length : Int) = (l.length : Int) := by have := hll.1; simp at this; omega
  have hvA : Cm (fun k => spec_l13Spread.l2 k oL.1 R oL.2 (oL.1.length : Int) 0) v := by rw [hlen1]; simpa using hv
  have hv1 : Cm (fun k => spec_l13Spread.l1 k (l.map (empt g)) R (loads (n : Int) (l.map (empt g))) (((l.map (empt g)).length : Int) - 1)) v := by
    have h1 := spec_leave hn.2 R hRl v (l.map (empt g)).reverse [] (loads (n : Int) (l.map (empt g))) (by simp; omega) (fun x hx => hmb x (by rw [List.mem_reverse] at hx; exact hx)) hLm (fun j => by
      have := hLmb j
      simp
      omega) (by rw [ho]; exact hvA)
    simpa using h1
  have hv2 : Cm (fun k => spec_l13Spread.l1 k l R (loads (n : Int) l) ((l.length : Int) - 1)) v := by
    have h1 := spec_leave hn.2 R hRl v l.reverse [] (loads (n : Int) l) (by simp; omega) (fun x hx => hlb x (by rw [List.mem_reverse] at hx; exact hx)) hLl (fun j => by
      have := hLlb j
      simp
      omega) (by rw [hlv]; exact hvA)
    simpa using h1
  have hw : wrap64 ((l.length : Int) - 1) = (l.length : Int) - 1 := wrap_in (by omega) (by omega)
  refine ⟨v, oL.1, ?_, ?_, hvl, hvb, hvc, ?_, ?_⟩
  · unfold spec_l13Spread.f
    simp only [Option.bind_some, List.nil_append, List.length_nil, Nat.zero_add]
    refine cm_yes (by omega) ?_
    refine spec_l0 l hl16 v l [] rfl ?_
    refine cm_step_bind (g := fun k t109 => (spec_l13Loads.f k (n : Int) (l.map (empt g))).bind fun t112 => spec_l13Spread.l1 k (l.map (empt g)) t109 t112 (wrap64 (((l.map (empt g)).length : Int) - 1))) (fun k => ?_) (spec_rooms_f hn hg hmg) ?_
    · rw [spec_l13Spread.l0, if_neg (by omega)]
    · refine cm_bind (cm_of_some (d := (l.map (empt g)).length) (fun k hk => spec_loads_f (n : Int) (l.map (empt g)) hmg k hk)) ?_
      rw [hml, hw]
      rw [hml] at hv1
      rw [← hrr]
      exact hv1
  · unfold impl_spread.f
    simp only [Option.bind_some, List.nil_append, List.length_nil, Nat.zero_add]
    refine cm_yes (by omega) ?_
    refine impl_l0 hn hg hgood v ?_ n 0 (by omega)
    rw [hR, hw]
    exact hv2
  · rw [hlv]
  · simpa using hvk
end Go.Proofs.Ytgcliajajcinpaa.Spread
end
section
namespace Go.Proofs.Ytgcliajajcinpaa.Spread
open Go.RowKit Go.Proofs.Ytgcliajajcinpaa.P Go.Proofs.YtgcliajajcinpaaW.PrintWords Go.Proofs.YtgcliajajcinpaaW.PrintLast Go.Proofs.YtgcliajajcinpaaW.PrintMore
open Go.Proofs.Ytgcliajajcinpaa.Pl Go.Proofs.Ytgcliajajcinpaa.Base Go.Proofs.Ytgcliajajcinpaa.Places Go.Proofs.Ytgcliajajcinpaa.EvN Go.Proofs.Ytgcliajajcinpaa.Moves
set_option linter.unusedSimpArgs false
set_option linter.unusedVariables false
def sumJ (f : Nat → Int) : Nat → Int
  | 0 => 0
  | n + 1 => sumJ f n + f n
theorem sumJ_le {f g : Nat → Int} : ∀ n, (∀ j, j < n → f j ≤ g j) → sumJ f n ≤ sumJ g n
  | 0, _ => Int.le_refl _
  | n + 1, h => by
    have h1 := sumJ_le n (fun j hj => h j (by omega))
    have h2 := h n (by omega)
    unfold sumJ
    omega
theorem sumJ_add (f g : Nat → Int) : ∀ n, sumJ (fun j => f j + g j) n = sumJ f n + sumJ g n
  | 0 => rfl
  | n + 1 => by unfold sumJ; rw [sumJ_add f g n]; omega
theorem sumJ_more {f g : Nat → Int} {i : Nat} : ∀ n, (∀ j, j < n → g j ≤ f j) → i < n → g i + 1 ≤ f i → sumJ g n + 1 ≤ sumJ f n
  | 0, _, hi, _ => absurd hi (by omega)
  | n + 1, h, hi, h1 => by
    unfold sumJ
    by_cases c : i = n
    · subst c
      have := sumJ_le (f := g) (g := f) i (fun j hj => h j (by omega))
      omega
    · have := sumJ_more n (fun j hj => h j (by omega)) (by omega) h1
      have := h n (by omega)
      omega
theorem sum_sumJ : ∀ (n : Nat) (L : List Int), L.length = n → L.sum = sumJ (fun j => rd L (j : Int)) n := by
  intro n
  induction n with
  | zero =>
    intro L hL
    have : L = [] := List.length_eq_zero_iff.1 hL
    subst this
    rfl
  | succ n ih =>
    intro L hL
    have hne : L ≠ [] := by intro e; rw [e] at hL; simp at hL
    have e := List.dropLast_concat_getLast hne
    have hd : L.dropLast.length = n := by simp [hL]
    have h1 := ih L.dropLast hd
    have e2 : ∀ m, m ≤ n → sumJ (fun j => rd L (j : Int)) m = sumJ (fun j => rd L.dropLast (j : Int)) m := by
      intro m
      induction m with
      | zero => intro _; rfl
      | succ m ihm =>
        intro hm
        unfold sumJ
        rw [ihm (by omega)]
        have : rd L (m : Int) = rd L.dropLast (m : Int) := by
          rw [← e, rd_app_left _ _ m (by omega)]
          simp
        rw [this]
    unfold sumJ
    rw [e2 n (Nat.le_refl _), ← h1]
    have h3 : rd L (n : Int) = L.getLast hne := by
      have h4 : rd (L.dropLast ++ [L.getLast hne]) (L.dropLast.length : Int) = L.getLast hne := rd_mid _ _ _
      rw [e, hd] at h4
      exact h4
    rw [h3]
    have h5 : (L.dropLast ++ [L.getLast hne]).sum = L.dropLast.sum + L.getLast hne := by simp
    rw [e] at h5
    exact h5
def stayAt (j : Int) : List Int → List Int → Nat
  | a :: ta, b :: tb => (if a = j ∧ b = j then 1 else 0) + stayAt j ta tb
  | _, _ => 0
theorem stayAt_le (j : Int) : ∀ a b : List Int, stayAt j a b ≤ List.count j a ∧ stayAt j a b ≤ List.count j b
  | [], _ => by simp [stayAt]
  | _ :: _, [] => by simp [stayAt]
  | a :: ta, b :: tb => by
    have := stayAt_le j ta tb
    rw [cnt_cons, cnt_cons]
    simp only [stayAt]
    by_cases h : a = j <;> by_cases h2 : b = j <;> simp [h, h2] <;> omega
theorem moves_stay {n : Nat} : ∀ a b : List Int, a.length = b.length → (∀ h ∈ b, 0 ≤ h ∧ h < (n : Int)) → (a.length : Int) - moves a b ≤ sumJ (fun j => ((stayAt (j : Int) a b : Nat) : Int)) n
  | [], [], _, _ => by
    have : ∀ n, sumJ (fun j => ((stayAt (j : Int) [] [] : Nat) : Int)) n = 0 := by
      intro n
      induction n with
      | zero => rfl
      | succ n ih => unfold sumJ; rw [ih]; simp [stayAt]
    rw [this]
    simp [moves]
  | [], _ :: _, h, _ => by simp at h
  | _ :: _, [], h, _ => by simp at h
  | a :: ta, b :: tb, h, hb => by
    have ih := moves_stay (n := n) ta tb (by simpa using h) (fun x hx => hb x (by simp [hx]))
    have hbb := hb b (by simp)
    simp only [moves, List.length_cons]
    by_cases c : a = b
    · rw [if_pos c]
      subst c
      obtain ⟨i, rfl⟩ : ∃ i : Nat, (i : Int) = a := ⟨a.toNat, by omega⟩
      have := sumJ_more (f := fun j => ((stayAt (j : Int) ((i : Int) :: ta) ((i : Int) :: tb) : Nat) : Int)) (g := fun j => ((stayAt (j : Int) ta tb : Nat) : Int)) (i := i) n (fun j _ => by simp only [stayAt]; omega) (by omega) (by simp only [stayAt]; simp; omega)
      omega
    · rw [if_neg c]
      have := sumJ_le (f := fun j => ((stayAt (j : Int) ta tb : Nat) : Int)) (g := fun j => ((stayAt (j : Int) (a :: ta) (b :: tb) : Nat) : Int)) n (fun j _ => by simp only [stayAt]; omega)
      omega
theorem moves_keep : ∀ l v o : List Int, v.length = l.length → o.length = l.length → (∀ i : Nat, i < l.length → rd o (i : Int) ≥ 0 → rd v (i : Int) = rd l (i : Int)) → moves l v ≤ (l.length : Int) - (held o : Int)
  | [], [], [], _, _, _ => by simp [moves, held]
  | [], _ :: _, _, h, _, _ => by simp at h
  | [], _, _ :: _, _, h, _ => by simp at h
  | _ :: _, [], _, h, _, _ => by simp at h
  | _ :: _, _, [], _, h, _ => by simp at h
  | a :: l, b :: v, c :: o, h1, h2, h3 => by
    have ih := moves_keep l v o (by simpa using h1) (by simpa using h2) (fun i hi hr => by
      have := h3 (i + 1) (by simp; omega)
      rw [rd_cons_succ, rd_cons_succ, rd_cons_succ] at this
      exact this hr)
    have h0 := h3 0 (by simp)
    rw [rd_cons_zero, rd_cons_zero, rd_cons_zero] at h0
    rw [held_cons]
    simp only [moves, List.length_cons]
    by_cases e : c ≥ 0
    · have := h0 e
      subst this
      rw [if_pos e, if_pos rfl]
      omega
    · rw [if_neg e]
      split <;> omega
theorem leave_min {n : Nat} (R : List Int) : ∀ (t suf L : List Int), L.length = n → (∀ h ∈ t, -1 ≤ h ∧ h < (n : Int)) → ∀ j : Nat, j < n → rd L (j : Int) ≤ rd (leave R t suf L).2 (j : Int) ∨ rd R (j : Int) ≤ rd (leave R t suf L).2 (j : Int)
  | [], suf, L, _, _, j, _ => by simp [leave]
  | h :: t, suf, L, hL, ht, j, hj => by
    have hh := ht h (by simp)
    unfold leave
    by_cases c : h ≥ 0 ∧ rd L h > rd R h
    · rw [if_pos c]
      have := leave_min (n := n) R t (-1 :: suf) (L.set h.toNat (rd L h - 1)) (by simpa using hL) (fun x hx => ht x (by simp [hx])) j hj
      rw [rd_set _ _ _ (by omega) _ (by omega)] at this
      by_cases e : (j : Int) = ((h.toNat : Nat) : Int)
      · rw [if_pos e] at this
        have e2 : (j : Int) = h := by omega
        rw [e2] at this ⊢
        omega
      · rw [if_neg e] at this
        exact this
    · rw [if_neg c]
      exact leave_min R t (h :: suf) L hL (fun x hx => ht x (by simp [hx])) j hj
theorem leave_keep (R : List Int) : ∀ (t suf L : List Int), ∃ p, (leave R t suf L).1 = p ++ suf ∧ p.length = t.length ∧ ∀ i : Nat, i < p.length → rd p (i : Int) ≥ 0 → rd p (i : Int) = rd t.reverse (i : Int)
  | [], suf, L => ⟨[], by simp [leave], rfl, fun i hi => by simp at hi⟩
  | h :: t, suf, L => by
    have key : ∀ (x : Int) (L2 : List Int), (x ≥ 0 → x = h) → ∃ p, (leave R t (x :: suf) L2).1 = p ++ suf ∧ p.length = (h :: t).length ∧ ∀ i : Nat, i < p.length → rd p (i : Int) ≥ 0 → rd p (i : Int) = rd (h :: t).reverse (i : Int) := by
      intro x L2 hx
      obtain ⟨p, e, hl, hk⟩ := leave_keep R t (x :: suf) L2
      refine ⟨p ++ [x], by rw [e]; simp, by simp [hl], ?_⟩
      intro i hi hr
      rw [List.reverse_cons]
      have hrl : t.reverse.length = p.length := by simp [hl]
      by_cases c : i < p.length
      · rw [rd_app_left _ _ i c] at hr ⊢
        rw [rd_app_left _ _ i (by omega)]
        exact hk i c hr
      · have e1 : i = p.length := by simp at hi; omega
        subst e1
        have h1 : rd (p ++ [x]) (p.length : Int) = x := rd_mid _ _ _
        have h2 : rd (t.reverse ++ [h]) (t.reverse.length : Int) = h := rd_mid _ _ _
        rw [hrl] at h2
        rw [h1] at hr ⊢
        rw [h2]
        exact hx hr
    unfold leave
    split
    · exact key (-1) _ (fun h => by omega)
    · exact key h _ (fun _ => rfl)
theorem mem_take_of {L o : List Int} (ho : o.Pairwise (ahead L)) {r : Nat} {a b : Int} (ha : a ∈ o.take r) (hb : b ∈ o) (h : rd L a < rd L b) : b ∈ o.take r := by
  rw [← List.take_append_drop r o] at ho hb
  rw [List.mem_append] at hb
  rcases hb with hb | hb
  · exact hb
  · rw [List.pairwise_append] at ho
    have := ho.2.2 a ha b hb
    unfold ahead at this
    omega
theorem rd_rooms {n : Nat} (len : Nat) (L : List Int) {j : Nat} (hj : j < n) : rd (rooms n (-1) len L) (j : Int) = (len : Int) / many n (-1) + (if (j : Int) ∈ (sorted L (hs (-1) n)).take ((len : Int) % many n (-1)).toNat then 1 else 0) := by
  unfold rooms
  rw [rd_tab _ _ _ hj]
  unfold roomAt
  split
  · rfl
  · rw [if_neg (by omega)]; omega
theorem rooms_best {n : Nat} (hn : 1 ≤ n) (len : Nat) (L M : List Int) :
    sumJ (fun j => min (rd L (j : Int)) (rd (rooms n (-1) len M) (j : Int))) n ≤ sumJ (fun j => min (rd L (j : Int)) (rd (rooms n (-1) len L) (j : Int))) n := by
  have s1 := rooms_sum hn (.inl rfl) len L
  have s2 := rooms_sum hn (.inl rfl) len M
  rw [sum_sumJ n _ (rooms_length _ _ _ _)] at s1 s2
  generalize hq : (len : Int) / many n (-1) = q at *
  by_cases c : ∀ j : Nat, j < n → (j : Int) ∈ (sorted L (hs (-1) n)).take ((len : Int) % many n (-1)).toNat → q < rd L (j : Int)
  · have h1 := sumJ_le (f := fun j => min (rd L (j : Int)) (rd (rooms n (-1) len M) (j : Int)) + rd (rooms n (-1) len L) (j : Int)) (g := fun j => min (rd L (j : Int)) (rd (rooms n (-1) len L) (j : Int)) + rd (rooms n (-1) len M) (j : Int)) n (fun j hj => by
      have a := c j hj
      have b1 := rd_rooms len L hj
      have b2 := rd_rooms len M hj
      rw [hq] at b1 b2
      rw [b1, b2]
      by_cases x : (j : Int) ∈ (sorted L (hs (-1) n)).take ((len : Int) % many n (-1)).toNat
      · have := a x
        rw [if_pos x]
        split <;> omega
      · rw [if_neg x]
        split <;> omega)
    rw [sumJ_add, sumJ_add] at h1
    omega
  · obtain ⟨i, hi, hm, hle⟩ : ∃ i : Nat, i < n ∧ (i : Int) ∈ (sorted L (hs (-1) n)).take ((len : Int) % many n (-1)).toNat ∧ rd L (i : Int) ≤ q := by
      apply Classical.byContradiction
      intro hno
      exact c (fun j hj hx => by
        apply Classical.byContradiction
        intro hlt
        exact hno ⟨j, hj, hx, by omega⟩)
    refine sumJ_le n (fun j hj => ?_)
    have b1 := rd_rooms len L hj
    have b2 := rd_rooms len M hj
    rw [hq] at b1 b2
    rw [b1, b2]
    by_cases g : rd L (j : Int) ≤ q
    · split <;> split <;> omega
    · have hin : (j : Int) ∈ sorted L (hs (-1) n) := by
        rw [(sorted_perm L (hs (-1) n)).mem_iff, mem_hs]
        omega
      have := mem_take_of (sorted_sorted L (hs (-1) n) (hs_lt (-1) n)) hm hin (by omega)
      rw [if_pos this]
      split <;> omega
theorem fewest {n : Nat} {l v o : List Int} (hgood : good (n : Int) l = true) (hvl : v.length = l.length)
    (hvk : ∀ i : Nat, i < l.length → rd (leave (rooms n (-1) l.length (loads (n : Int) l)) l.reverse [] (loads (n : Int) l)).1 (i : Int) ≥ 0 → rd v (i : Int) = rd (leave (rooms n (-1) l.length (loads (n : Int) l)) l.reverse [] (loads (n : Int) l)).1 (i : Int))
    (hol : o.length = l.length) (hob : ∀ h ∈ o, 0 ≤ h ∧ h < (n : Int)) (M : List Int) (hoc : ∀ j : Nat, j < n → ((List.count (j : Int) o : Nat) : Int) = rd (rooms n (-1) l.length M) (j : Int)) : moves l v ≤ moves l o := by
  obtain ⟨hlb, hn', hl16⟩ := good_iff.1 hgood
  have hn : 1 ≤ n := by omega
  have hLl : (loads (n : Int) l).length = n := by rw [loads_length]; simp
  have hcl := loads_sum n l hlb
  have hRn := rooms_nonneg hn (g := -1) (.inl rfl) l.length (loads (n : Int) l)
  have hinv := leave_inv (n := n) (rooms n (-1) l.length (loads (n : Int) l)) l.reverse [] (loads (n : Int) l) hLl (fun x hx => hlb x (by simpa using hx)) (by simp) (by
    intro j hj
    rw [hcl.2 j hj, List.count_reverse]; simp) (by
    intro j hj
    have := hRn j hj
    simpa using this) (by
    rw [hcl.1]
    unfold held
    rw [List.countP_reverse]; simp)
  have hmin := leave_min (n := n) (rooms n (-1) l.length (loads (n : Int) l)) l.reverse [] (loads (n : Int) l) hLl (fun x hx => hlb x (by simpa using hx))
  obtain ⟨p, hp1, hp2, hp3⟩ := leave_keep (rooms n (-1) l.length (loads (n : Int) l)) l.reverse [] (loads (n : Int) l)
  have hll := leave_length (rooms n (-1) l.length (loads (n : Int) l)) l.reverse [] (loads (n : Int) l)
  have hbest := rooms_best hn l.length (loads (n : Int) l) M
  generalize rooms n (-1) l.length (loads (n : Int) l) = R at *
  generalize leave R l.reverse [] (loads (n : Int) l) = oL at *
  rw [List.append_nil] at hp1
  rw [List.length_reverse] at hp2
  rw [List.reverse_reverse] at hp3
  rw [← hp1] at hp2 hp3
  have k1 := moves_keep l v oL.1 hvl hp2 (fun i hi hr => by rw [hvk i hi hr]; exact hp3 i (by omega) hr)
  have k2 := moves_stay (n := n) l o hol.symm hob
  have k3 : sumJ (fun j => ((stayAt (j : Int) l o : Nat) : Int)) n ≤ sumJ (fun j => min (rd (loads (n : Int) l) (j : Int)) (rd (rooms n (-1) l.length M) (j : Int))) n := sumJ_le n (fun j hj => by
    have h1 := stayAt_le (j : Int) l o
    have h2 := hoc j hj
    have h3 := hcl.2 j hj
    rw [← h2, h3]
    omega)
  have k4 : sumJ (fun j => min (rd (loads (n : Int) l) (j : Int)) (rd R (j : Int))) n ≤ sumJ (fun j => rd oL.2 (j : Int)) n := sumJ_le n (fun j hj => by
    have := hmin j hj
    omega)
  have k5 := hinv.2.2.2
  rw [sum_sumJ n oL.2 (by omega)] at k5
  omega
end Go.Proofs.Ytgcliajajcinpaa.Spread
end
section
namespace Go.Proofs.Ytgcliajajcinpaa.Even
open Go.RowKit Go.Proofs.Ytgcliajajcinpaa.P Go.Proofs.YtgcliajajcinpaaW.PrintWords Go.Proofs.YtgcliajajcinpaaW.PrintLast Go.Proofs.YtgcliajajcinpaaW.PrintMore
open Go.Proofs.Ytgcliajajcinpaa.Pl Go.Proofs.Ytgcliajajcinpaa.Base Go.Proofs.Ytgcliajajcinpaa.Places Go.Proofs.Ytgcliajajcinpaa.EvN
set_option linter.unusedSimpArgs false
set_option linter.unusedVariables false
theorem index_l0 (v : Int) (l : List Int) (hl : l.length ≤ 1048576) : ∀ (rest pre : List Int), pre ++ rest = l →
    ∃ r : Int, Cm (fun k => slices_Index_int_int.l0 k l v (l.length : Int) (pre.length : Int)) r ∧ (r ≥ 0 ↔ v ∈ rest)
  | [], pre, e => by
    have := len_end e
    refine ⟨-1, cm_last (fun k => ?_), by simp⟩
    rw [slices_Index_int_int.l0, if_neg (by omega)]
  | h :: t, pre, e => by
    have hlt := len_mid e
    by_cases c : v = h
    · refine ⟨(pre.length : Int), cm_last (fun k => ?_), by simp [c]⟩
      rw [slices_Index_int_int.l0, if_pos (by omega), if_pos (by omega), if_pos (by omega), rd_at e, if_pos c]
    · obtain ⟨r, h1, h2⟩ := index_l0 v l hl t (pre ++ [h]) (app_mid e)
      rw [len_one] at h1
      refine ⟨r, cm_step (fun k => ?_) h1, by rw [h2]; simp [c]⟩
      rw [slices_Index_int_int.l0, if_pos (by omega), if_pos (by omega), if_pos (by omega), rd_at e, if_neg c, wrap_len hlt (by omega)]
theorem contains_f (v : Int) (l : List Int) (hl : l.length ≤ 1048576) : Cm (fun k => slices_Contains_int_int.f k l v) (decide (v ∈ l)) := by
  obtain ⟨r, h1, h2⟩ := index_l0 v l hl l [] rfl
  unfold slices_Contains_int_int.f slices_Index_int_int.f
  refine cm_bind (t := r) (by simpa using h1) (cm_now fun _ => ?_)
  have : decide (r ≥ 0) = decide (v ∈ l) := by rw [decide_eq_decide]; exact h2
  rw [this]
theorem has_l0 (v : Int) (l : List Int) (hl : l.length ≤ 1048576) : ∀ (rest pre : List Int), pre ++ rest = l →
    Cm (fun k => spec_l1Has.l0 k v l (l.length : Int) (pre.length : Int)) (decide (v ∈ rest))
  | [], pre, e => by
    have := len_end e
    refine cm_last (fun k => ?_)
    rw [spec_l1Has.l0, if_neg (by omega)]
    simp
  | h :: t, pre, e => by
    have hlt := len_mid e
    by_cases c : h = v
    · refine cm_last (fun k => ?_)
      rw [spec_l1Has.l0, if_pos (by omega), if_pos (by omega), if_pos (by omega), rd_at e, if_pos c]
      simp [c]
    · have h1 := has_l0 v l hl t (pre ++ [h]) (app_mid e)
      rw [len_one] at h1
      have e2 : decide (v ∈ h :: t) = decide (v ∈ t) := by
        have c2 : ¬ v = h := fun x => c x.symm
        rw [decide_eq_decide]; simp [c2]
      rw [e2]
      refine cm_step (fun k => ?_) h1
      rw [spec_l1Has.l0, if_pos (by omega), if_pos (by omega), if_pos (by omega), rd_at e, if_neg c, wrap_len hlt (by omega)]
theorem has_f (v : Int) (l : List Int) (hl : l.length ≤ 1048576) : Cm (fun k => spec_l1Has.f k l v) (decide (v ∈ l)) := by
  unfold spec_l1Has.f
  have := has_l0 v l hl l [] rfl
  simpa using this
theorem max_l0 (l : List Int) (hl : l.length ≤ 1048576) : ∀ (rest pre : List Int) (m : Int), pre ++ rest = l → m ∈ pre → (∀ x ∈ pre, x ≤ m) →
    ∃ r, Cm (fun k => slices_Max_int_int.l0 k l m (pre.length : Int)) r ∧ r ∈ l ∧ ∀ x ∈ l, x ≤ r
  | [], pre, m, e, hm, hx => by
    have := len_end e
    obtain rfl : pre = l := by simpa using e
    refine ⟨m, cm_last (fun k => ?_), hm, hx⟩
    rw [slices_Max_int_int.l0, if_neg (by omega)]
  | h :: t, pre, m, e, hm, hx => by
    have hlt := len_mid e
    have hmx : mx m h = m ∧ h ≤ m ∨ mx m h = h ∧ m ≤ h := by unfold mx; split <;> omega
    obtain ⟨r, h1, h2⟩ := max_l0 l hl t (pre ++ [h]) (mx m h) (app_mid e) (by
      rcases hmx with c | c
      · rw [c.1]; simp [hm]
      · rw [c.1]; simp) (by
      intro x hxx
      rw [List.mem_append, List.mem_singleton] at hxx
      rcases hxx with hxx | rfl
      · have := hx x hxx
        omega
      · omega)
    rw [len_one] at h1
    refine ⟨r, cm_step (fun k => ?_) h1, h2⟩
    rw [slices_Max_int_int.l0, if_pos (by omega), if_pos (by omega), rd_at e, wrap_len hlt (by omega)]
theorem max_f (l : List Int) (hl : l.length ≤ 1048576) (h0 : 0 < l.length) : ∃ r, Cm (fun k => slices_Max_int_int.f k l) r ∧ r ∈ l ∧ ∀ x ∈ l, x ≤ r := by
  match l, h0 with
  | a :: t, _ =>
    obtain ⟨r, h1, h2⟩ := max_l0 (a :: t) hl t [a] a rfl (by simp) (by simp)
    refine ⟨r, ?_, h2⟩
    unfold slices_Max_int_int.f
    refine cm_no (by simp; omega) (cm_yes (by simp) ?_)
    simpa [rd] using h1
theorem min_l0 (l : List Int) (hl : l.length ≤ 1048576) : ∀ (rest pre : List Int) (m : Int), pre ++ rest = l → m ∈ pre → (∀ x ∈ pre, m ≤ x) →
    ∃ r, Cm (fun k => slices_Min_int_int.l0 k l m (pre.length : Int)) r ∧ r ∈ l ∧ ∀ x ∈ l, r ≤ x
  | [], pre, m, e, hm, hx => by
    have := len_end e
    obtain rfl : pre = l := by simpa using e
    refine ⟨m, cm_last (fun k => ?_), hm, hx⟩
    rw [slices_Min_int_int.l0, if_neg (by omega)]
  | h :: t, pre, m, e, hm, hx => by
    have hlt := len_mid e
    have hmx : mn m h = m ∧ m ≤ h ∨ mn m h = h ∧ h ≤ m := by unfold mn; split <;> omega
    obtain ⟨r, h1, h2⟩ := min_l0 l hl t (pre ++ [h]) (mn m h) (app_mid e) (by
      rcases hmx with c | c
      · rw [c.1]; simp [hm]
      · rw [c.1]; simp) (by
      intro x hxx
      rw [List.mem_append, List.mem_singleton] at hxx
      rcases hxx with hxx | rfl
      · have := hx x hxx
        omega
      · omega)
    rw [len_one] at h1
    refine ⟨r, cm_step (fun k => ?_) h1, h2⟩
    rw [slices_Min_int_int.l0, if_pos (by omega), if_pos (by omega), rd_at e, wrap_len hlt (by omega)]
theorem min_f (l : List Int) (hl : l.length ≤ 1048576) (h0 : 0 < l.length) : ∃ r, Cm (fun k => slices_Min_int_int.f k l) r ∧ r ∈ l ∧ ∀ x ∈ l, r ≤ x := by
  match l, h0 with
  | a :: t, _ =>
    obtain ⟨r, h1, h2⟩ := min_l0 (a :: t) hl t [a] a rfl (by simp) (by simp)
    refine ⟨r, ?_, h2⟩
    unfold slices_Min_int_int.f
    refine cm_no (by simp; omega) (cm_yes (by simp) ?_)
    simpa [rd] using h1
theorem spec_l1 (l : List Int) (hl : l.length ≤ 1048576) (hb : ∀ x ∈ l, 0 ≤ x ∧ x ≤ 1000) (a i : Int) (v : Bool × Bool) : ∀ (rest pre : List Int), pre ++ rest = l →
    ((∀ b ∈ rest, ¬ a > b + 1) → Cm (fun k => spec_IsEven.l0 k l (l.length : Int) (wrap64 (i + 1))) v) → ((∃ b ∈ rest, a > b + 1) → v = (false, true)) →
    Cm (fun k => spec_IsEven.l1 k l a (l.length : Int) i (l.length : Int) (pre.length : Int)) v
  | [], pre, e, h1, _ => by
    have := len_end e
    refine cm_step (fun k => ?_) (h1 (by simp))
    rw [spec_IsEven.l1, if_neg (by omega)]
  | h :: t, pre, e, h1, h2 => by
    have hlt := len_mid e
    have hh := hb h (by rw [← e]; simp)
    by_cases c : a > h + 1
    · have := h2 ⟨h, by simp, c⟩
      subst this
      refine cm_last (fun k => ?_)
      rw [spec_IsEven.l1, if_pos (by omega), if_pos (by omega), if_pos (by omega), rd_at e, wrap_in (x := h + 1) (by omega) (by omega), if_pos c]
    · have h3 := spec_l1 l hl hb a i v t (pre ++ [h]) (app_mid e) (fun hx => h1 (by
        intro b hb2
        rw [List.mem_cons] at hb2
        rcases hb2 with rfl | hb2
        · exact c
        · exact hx b hb2)) (fun ⟨b, hb2, hx⟩ => h2 ⟨b, by simp [hb2], hx⟩)
      rw [len_one] at h3
      refine cm_step (fun k => ?_) h3
      rw [spec_IsEven.l1, if_pos (by omega), if_pos (by omega), if_pos (by omega), rd_at e, wrap_in (x := h + 1) (by omega) (by omega), if_neg c, wrap_len hlt (by omega)]
open Classical in
theorem spec_l0 (l : List Int) (hl : l.length ≤ 1048576) (hb : ∀ x ∈ l, 0 ≤ x ∧ x ≤ 1000) : ∀ (rest pre : List Int), pre ++ rest = l →
    Cm (fun k => spec_IsEven.l0 k l (l.length : Int) (pre.length : Int)) (decide (∀ a ∈ rest, ∀ b ∈ l, ¬ a > b + 1), true)
  | [], pre, e => by
    have := len_end e
    refine cm_last (fun k => ?_)
    rw [spec_IsEven.l0, if_neg (by omega)]
    simp
  | h :: t, pre, e => by
    have hlt := len_mid e
    have h1 := spec_l0 l hl hb t (pre ++ [h]) (app_mid e)
    rw [len_one] at h1
    refine cm_step (g := fun k => spec_IsEven.l1 k l h (l.length : Int) (pre.length : Int) (l.length : Int) 0) (fun k => ?_) ?_
    · rw [spec_IsEven.l0, if_pos (by omega), if_pos (by omega), if_pos (by omega), rd_at e]
    · have h2 := spec_l1 l hl hb h (pre.length : Int) (decide (∀ a ∈ h :: t, ∀ b ∈ l, ¬ a > b + 1), true) l [] rfl (by
        intro hx
        rw [wrap_len hlt (by omega)]
        have : decide (∀ a ∈ h :: t, ∀ b ∈ l, ¬ a > b + 1) = decide (∀ a ∈ t, ∀ b ∈ l, ¬ a > b + 1) := by
          rw [decide_eq_decide]
          constructor
          · intro h3 a ha; exact h3 a (by simp [ha])
          · intro h3 a ha
            rw [List.mem_cons] at ha
            rcases ha with rfl | ha
            · exact hx
            · exact h3 a ha
        rw [this]
        exact h1) (by
        rintro ⟨b, hb2, hx⟩
        have : ¬ ∀ a ∈ h :: t, ∀ b ∈ l, ¬ a > b + 1 := fun h3 => h3 h (by simp) b hb2 hx
        rw [decide_eq_false this])
      simpa using h2
theorem isEven_f (a : Int) (l : List Int) (hl : l.length ≤ 1048576) : ∃ (v : Bool × Bool) (K : Nat), (∀ k, K ≤ k → spec_IsEven.f k a l = some v) ∧ (∀ k, K ≤ k → impl_IsEven.f k a l = some v) := by
  have key : ∃ v, Cm (fun k => spec_IsEven.f k a l) v ∧ Cm (fun k => impl_IsEven.f k a l) v := by
    have hs : Cm (fun k => spec_GoodPlaces.f k a l) (good a l) := cm_of_some (d := l.length) (fun k hk => spec_f a l hl k hk)
    have hi : Cm (fun k => impl_arePlaces.f k a l) (good a l) := cm_of_some (d := l.length) (fun k hk => are_f a l hl k hk)
    unfold spec_IsEven.f impl_IsEven.f
    by_cases hg : good a l = true
    · have hg3 := good_iff.1 hg
      have hL : 0 < (loads a l).length := by rw [loads_length]; omega
      have hL2 : (loads a l).length ≤ 1048576 := by rw [loads_length]; omega
      have hb : ∀ x ∈ loads a l, 0 ≤ x ∧ x ≤ 1000 := by
        have h0 : ∀ (m acc : List Int) (b : Int), 0 ≤ b → (∀ x ∈ acc, 0 ≤ x ∧ x ≤ b) → ∀ x ∈ m.foldl count acc, 0 ≤ x ∧ x ≤ b + (m.length : Int) := by
          intro m
          induction m with
          | nil => intro acc b _ h x hx; have := h x hx; simp; omega
          | cons c t ih =>
            intro acc b h1 h2 x hx
            rw [List.foldl_cons] at hx
            have := ih (count acc c) (b + 1) (by omega) (count_le h1 h2) x hx
            simp only [List.length_cons]
            omega
        intro x hx
        have := h0 l (List.replicate a.toNat 0) 0 (by omega) (by intro y hy; rw [List.mem_replicate] at hy; omega) x hx
        omega
      by_cases hc : (-1) ∈ l
      · refine ⟨(false, true), ?_, ?_⟩
        · refine cm_bind hs (cm_yes hg (cm_bind (has_f (-1) l hl) (cm_yes (by simp [hc]) (cm_now fun _ => rfl))))
        · refine cm_bind hi (cm_yes hg (cm_bind (cm_of_some (d := l.length) (fun k hk => impl_loads_f a l hg k hk)) (cm_bind (contains_f (-1) l hl) (cm_yes (by simp [hc]) (cm_now fun _ => rfl)))))
      · obtain ⟨M, hM, hM1, hM2⟩ := max_f (loads a l) hL2 hL
        obtain ⟨m, hm, hm1, hm2⟩ := min_f (loads a l) hL2 hL
        have b1 := hb M hM1
        have b2 := hb m hm1
        classical
        have h0 := spec_l0 (loads a l) hL2 hb (loads a l) [] rfl
        refine ⟨(decide (∀ x ∈ loads a l, ∀ y ∈ loads a l, ¬ x > y + 1), true), ?_, ?_⟩
        · refine cm_bind hs (cm_yes hg (cm_bind (has_f (-1) l hl) (cm_no (by simp [hc]) (cm_bind (cm_of_some (d := l.length) (fun k hk => spec_loads_f a l hg k hk)) ?_))))
          simpa using h0
        · refine cm_bind hi (cm_yes hg (cm_bind (cm_of_some (d := l.length) (fun k hk => impl_loads_f a l hg k hk)) (cm_bind (contains_f (-1) l hl) (cm_no (by simp [hc]) (cm_bind hM (cm_bind hm (cm_now fun _ => ?_)))))))
          rw [wrap_in (by omega) (by omega)]
          congr 2
          rw [decide_eq_decide]
          constructor
          · intro h x hx y hy
            have := hM2 x hx
            have := hm2 y hy
            omega
          · intro h
            have := h M hM1 m hm1
            omega
    · refine ⟨(false, false), cm_bind hs (cm_no hg (cm_now fun _ => rfl)), cm_bind hi (cm_no hg (cm_now fun _ => rfl))⟩
  obtain ⟨v, ⟨K, hK⟩, ⟨M, hM⟩⟩ := key
  exact ⟨v, K + M, fun k hk => hK k (by omega), fun k hk => hM k (by omega)⟩
end Go.Proofs.Ytgcliajajcinpaa.Even
end
section
namespace Go.Proofs.Ytgcliajajcinpaa.Spread
open Go.RowKit Go.Proofs.Ytgcliajajcinpaa.P Go.Proofs.YtgcliajajcinpaaW.PrintWords Go.Proofs.YtgcliajajcinpaaW.PrintLast Go.Proofs.YtgcliajajcinpaaW.PrintMore
open Go.Proofs.Ytgcliajajcinpaa.Pl Go.Proofs.Ytgcliajajcinpaa.Base Go.Proofs.Ytgcliajajcinpaa.Places Go.Proofs.Ytgcliajajcinpaa.EvN
set_option linter.unusedSimpArgs false
set_option linter.unusedVariables false
theorem nat_home3 {a : Int} {l : List Int} (h : good a l = true) : ∃ n : Nat, a = (n : Int) := ⟨a.toNat, by have := (good_iff.1 h).2.1; omega⟩
theorem dropHome_f (a : Int) (l : List Int) (g : Int) (hl : l.length ≤ 1048576) : ∃ (v : List Int × Bool) (K : Nat), v.1.length ≤ 16 ∧ (∀ k, K ≤ k → spec_DropHome.f k a l g = some v) ∧ (∀ k, K ≤ k → impl_DropHome.f k a l g = some v) := by
  by_cases hg : good a l = true
  · obtain ⟨n, rfl⟩ := nat_home3 hg
    have hn := (good_iff.1 hg).2.1
    by_cases hc : 2 ≤ n ∧ 0 ≤ g ∧ g < (n : Int)
    · obtain ⟨v, _, hs, hi, hvl, _⟩ := spread_one (g := g) (.inr ⟨hc.2.1, hc.2.2, hc.1⟩) hg
      obtain ⟨K, hK⟩ := hs
      obtain ⟨M, hM⟩ := hi
      refine ⟨(v, true), K + M + l.length + 1, by have := (good_iff.1 hg).2.2; simp only; omega, fun k hk => ?_, fun k hk => ?_⟩
      · unfold spec_DropHome.f
        refine bnd (spec_f _ _ hl k (by omega)) ?_
        rw [if_pos hg, if_neg (by omega), if_neg (by omega), if_neg (by omega)]
        exact bnd (hK k (by omega)) rfl
      · unfold impl_DropHome.f
        refine bnd (are_f _ _ hl k (by omega)) ?_
        rw [if_pos hg, if_neg (by omega), wrap_in (by omega) (by omega)]
        refine bnd (in_f g 0 _) ?_
        rw [if_pos (by simp only [decide_eq_true_eq]; omega)]
        exact bnd (hM k (by omega)) rfl
    · refine ⟨([], false), l.length + 1, by simp, fun k hk => ?_, fun k hk => ?_⟩
      · unfold spec_DropHome.f
        refine bnd (spec_f _ _ hl k (by omega)) ?_
        rw [if_pos hg]
        by_cases c1 : (n : Int) < 2
        · rw [if_pos c1]
        · rw [if_neg c1]
          by_cases c2 : g < 0
          · rw [if_pos c2]
          · rw [if_neg c2, if_pos (by omega)]
      · unfold impl_DropHome.f
        refine bnd (are_f _ _ hl k (by omega)) ?_
        rw [if_pos hg]
        by_cases c1 : (n : Int) < 2
        · rw [if_pos c1]
        · rw [if_neg c1, wrap_in (by omega) (by omega)]
          refine bnd (in_f g 0 _) ?_
          rw [if_neg (by simp only [decide_eq_true_eq]; omega)]
  · refine ⟨([], false), l.length + 1, by simp, fun k hk => ?_, fun k hk => ?_⟩
    · unfold spec_DropHome.f
      refine bnd (spec_f _ _ hl k (by omega)) ?_
      rw [if_neg hg]
    · unfold impl_DropHome.f
      refine bnd (are_f _ _ hl k (by omega)) ?_
      rw [if_neg hg]
end Go.Proofs.Ytgcliajajcinpaa.Spread
end
section
namespace Go.Proofs.Ytgcliajajcinpaa.Spread
open Go.RowKit Go.Proofs.Ytgcliajajcinpaa.P Go.Proofs.YtgcliajajcinpaaW.PrintWords Go.Proofs.YtgcliajajcinpaaW.PrintLast Go.Proofs.YtgcliajajcinpaaW.PrintMore
open Go.Proofs.Ytgcliajajcinpaa.Pl Go.Proofs.Ytgcliajajcinpaa.Base Go.Proofs.Ytgcliajajcinpaa.Places Go.Proofs.Ytgcliajajcinpaa.EvN
set_option linter.unusedSimpArgs false
set_option linter.unusedVariables false
theorem nat_home {a : Int} {l : List Int} (h : good a l = true) : ∃ n : Nat, a = (n : Int) := ⟨a.toNat, by have := (good_iff.1 h).2.1; omega⟩
theorem spreadEven_f (a : Int) (l : List Int) (hl : l.length ≤ 1048576) : ∃ (v : List Int × Bool) (K : Nat), v.1.length ≤ 16 ∧ (∀ k, K ≤ k → spec_SpreadEven.f k a l = some v) ∧ (∀ k, K ≤ k → impl_SpreadEven.f k a l = some v) := by
  by_cases hg : good a l = true
  · obtain ⟨n, rfl⟩ := nat_home hg
    obtain ⟨v, _, hs, hi, hvl, _⟩ := spread_one (g := -1) (.inl rfl) hg
    obtain ⟨K, hK⟩ := hs
    obtain ⟨M, hM⟩ := hi
    refine ⟨(v, true), K + M + l.length + 1, by have := (good_iff.1 hg).2.2; simp only; omega, fun k hk => ?_, fun k hk => ?_⟩
    · unfold spec_SpreadEven.f
      refine bnd (spec_f _ _ hl k (by omega)) ?_
      rw [if_pos hg]
      exact bnd (hK k (by omega)) rfl
    · unfold impl_SpreadEven.f
      refine bnd (are_f _ _ hl k (by omega)) ?_
      rw [if_pos hg]
      exact bnd (hM k (by omega)) rfl
  · refine ⟨([], false), l.length + 1, by simp, fun k hk => ?_, fun k hk => ?_⟩
    · unfold spec_SpreadEven.f
      refine bnd (spec_f _ _ hl k (by omega)) ?_
      rw [if_neg hg]
    · unfold impl_SpreadEven.f
      refine bnd (are_f _ _ hl k (by omega)) ?_
      rw [if_neg hg]
end Go.Proofs.Ytgcliajajcinpaa.Spread
end
section
namespace Go.Proofs.Ytgcliajajcinpaa.Lp
open Go.RowKit Go.Proofs.YtgcliajajcinpaaW.PrintWords
open Go.Proofs.Ytgcliajajcinpaa.Pl Go.Proofs.Ytgcliajajcinpaa.EvN
def okFrom {α : Type} (p : List α → α → Bool) : List α → List α → Bool
  | _, [] => true
  | pre, h :: t => p pre h && okFrom p (pre ++ [h]) t
theorem all_cm {α ρ : Type} {L : Nat → Int → Option ρ} (xs : List α) (p : List α → α → Bool) {fin no : ρ}
    (hstep : ∀ pre h t, pre ++ h :: t = xs → pre.length < xs.length → p pre h = true → ∀ v, Cm (fun k => L k ((pre.length + 1 : Nat) : Int)) v → Cm (fun k => L k (pre.length : Int)) v)
    (hno : ∀ pre h t, pre ++ h :: t = xs → pre.length < xs.length → p pre h = false → Cm (fun k => L k (pre.length : Int)) no)
    (hend : okFrom p [] xs = true → Cm (fun k => L k (xs.length : Int)) fin) : Cm (fun k => L k 0) (if okFrom p [] xs = true then fin else no) := by
  have key : ∀ (rest pre : List α), pre ++ rest = xs → (okFrom p pre rest = okFrom p [] xs) → Cm (fun k => L k (pre.length : Int)) (if okFrom p pre rest = true then fin else no) := by
    intro rest
    induction rest with
    | nil =>
      intro pre e h
      rw [List.append_nil] at e
      subst e
      simp only [okFrom, if_true] at h ⊢
      exact hend h.symm
    | cons x t ih =>
      intro pre e h
      by_cases c : p pre x = true
      · have h2 : okFrom p pre (x :: t) = okFrom p (pre ++ [x]) t := by simp only [okFrom, c, Bool.true_and]
        rw [h2] at h ⊢
        have h3 := ih (pre ++ [x]) (app_mid e) h
        rw [len_one] at h3
        exact hstep pre x t e (len_mid e) c _ h3
      · have c2 : p pre x = false := by simpa using c
        have h2 : okFrom p pre (x :: t) = false := by simp only [okFrom, c2, Bool.false_and]
        rw [h2]
        simpa using hno pre x t e (len_mid e) c2
  exact key xs [] rfl rfl
theorem okFrom_all {α : Type} (p : α → Bool) : ∀ (rest pre : List α), okFrom (fun _ h => p h) pre rest = rest.all p
  | [], _ => rfl
  | x :: t, pre => by simp only [okFrom, List.all_cons, okFrom_all p t]
theorem every_cm {α ρ : Type} {L : Nat → Int → Option ρ} (xs : List α) (p : α → Bool) {fin no : ρ}
    (hstep : ∀ pre h t, pre ++ h :: t = xs → pre.length < xs.length → p h = true → ∀ v, Cm (fun k => L k ((pre.length + 1 : Nat) : Int)) v → Cm (fun k => L k (pre.length : Int)) v)
    (hno : ∀ pre h t, pre ++ h :: t = xs → pre.length < xs.length → p h = false → Cm (fun k => L k (pre.length : Int)) no)
    (hend : xs.all p = true → Cm (fun k => L k (xs.length : Int)) fin) : Cm (fun k => L k 0) (if xs.all p = true then fin else no) := by
  have := all_cm (L := L) xs (fun _ h => p h) hstep hno (by rw [okFrom_all]; exact hend)
  rw [okFrom_all] at this
  exact this
def foundAt {α ρ : Type} (p : α → Bool) (found : Nat → α → ρ) (none_ : ρ) : Nat → List α → ρ
  | _, [] => none_
  | i, h :: t => if p h = true then found i h else foundAt p found none_ (i + 1) t
theorem find_cm {α ρ : Type} {L : Nat → Int → Option ρ} (xs : List α) (p : α → Bool) (found : Nat → α → ρ) {none_ : ρ}
    (hstep : ∀ pre h t, pre ++ h :: t = xs → pre.length < xs.length → p h = false → ∀ v, Cm (fun k => L k ((pre.length + 1 : Nat) : Int)) v → Cm (fun k => L k (pre.length : Int)) v)
    (hyes : ∀ pre h t, pre ++ h :: t = xs → pre.length < xs.length → p h = true → Cm (fun k => L k (pre.length : Int)) (found pre.length h))
    (hend : Cm (fun k => L k (xs.length : Int)) none_) : Cm (fun k => L k 0) (foundAt p found none_ 0 xs) := by
  have key : ∀ (rest pre : List α), pre ++ rest = xs → Cm (fun k => L k (pre.length : Int)) (foundAt p found none_ pre.length rest) := by
    intro rest
    induction rest with
    | nil =>
      intro pre e
      rw [List.append_nil] at e
      subst e
      exact hend
    | cons x t ih =>
      intro pre e
      unfold foundAt
      by_cases c : p x = true
      · rw [if_pos c]
        exact hyes pre x t e (len_mid e) c
      · rw [if_neg c]
        have h3 := ih (pre ++ [x]) (app_mid e)
        rw [len_one] at h3
        exact hstep pre x t e (len_mid e) (by simpa using c) _ h3
  exact key xs [] rfl
theorem found_any {α : Type} (p : α → Bool) : ∀ (l : List α) (i : Nat), decide (foundAt p (fun i _ => (i : Int)) (-1) i l ≥ 0) = l.any p
  | [], _ => by simp [foundAt]
  | h :: t, i => by
    unfold foundAt
    by_cases c : p h = true
    · rw [if_pos c]; simp [c]
    · rw [if_neg c, found_any p t (i + 1)]; simp [c]
theorem same_cm {α ρ : Type} {L : Nat → Int → Option ρ} (xs : List α) {fin : ρ}
    (hstep : ∀ pre h t, pre ++ h :: t = xs → pre.length < xs.length → ∀ v, Cm (fun k => L k ((pre.length + 1 : Nat) : Int)) v → Cm (fun k => L k (pre.length : Int)) v)
    (hend : Cm (fun k => L k (xs.length : Int)) fin) : Cm (fun k => L k 0) fin := by
  have := every_cm (L := L) xs (fun _ => true) (fin := fin) (no := fin) (fun pre h t e hl _ => hstep pre h t e hl) (fun _ _ _ _ _ hp => by cases hp) (fun _ => hend)
  have h : (xs.all fun _ => true) = true := by simp
  rw [if_pos h] at this
  exact this
theorem cm_if {α : Type} {c : Prop} [Decidable c] {x y : Nat → Option α} {v : α} (h : c → Cm x v) (h2 : ¬ c → Cm y v) : Cm (fun k => if c then x k else y k) v := by
  by_cases hc : c
  · exact cm_yes hc (h hc)
  · exact cm_no hc (h2 hc)
theorem cm_val {α : Type} {f : Nat → Option α} {u v : α} (h : Cm f u) (e : u = v) : Cm f v := e ▸ h
end Go.Proofs.Ytgcliajajcinpaa.Lp
end
section
namespace Go.Proofs.Ytgcliajajcinpaa.Pick
open Go.RowKit Go.Proofs.YtgcliajajcinpaaW.PrintWords
open Go.Proofs.Ytgcliajajcinpaa.Pl Go.Proofs.Ytgcliajajcinpaa.EvN Go.Proofs.Ytgcliajajcinpaa.Lp
set_option linter.unusedVariables false
set_option linter.unusedSimpArgs false
end Go.Proofs.Ytgcliajajcinpaa.Pick
end
section
namespace Go.Proofs.Ytgcliajajcinpaa.Draw
open Go.RowKit Go.Proofs.Ytgcliajajcinpaa.P Go.Proofs.YtgcliajajcinpaaW.PrintWords Go.Proofs.YtgcliajajcinpaaW.PrintLast Go.Proofs.YtgcliajajcinpaaW.PrintMore
open Go.Proofs.Ytgcliajajcinpaa.Pl Go.Proofs.Ytgcliajajcinpaa.EvN Go.Proofs.Ytgcliajajcinpaa.Lp Go.Proofs.Ytgcliajajcinpaa.Pick
set_option linter.unusedSimpArgs false
set_option linter.unusedVariables false
theorem wf_u8 {x : Int} (h : (Lit.int .u8 x).wf = true) : 0 ≤ x ∧ x ≤ 255 := by
  simp [Lit.wf] at h
  have h1 : IntKind.u8.min = 0 := by decide
  have h2 : IntKind.u8.max = 255 := by decide
  omega
def Bytes (s : List Int) : Prop := s.length ≤ 4611686018427387904 ∧ ∀ x ∈ s, 0 ≤ x ∧ x ≤ 255
theorem and_255 (a : Int) : 0 ≤ Go.bits .and .u64 a 255 ∧ Go.bits .and .u64 a 255 ≤ 255 := by
  have h : (BitVec.ofInt 64 a &&& BitVec.ofInt 64 255).toNat ≤ 255 := by
    rw [BitVec.toNat_and]
    exact Nat.and_le_right
  show 0 ≤ IntKind.u64.wrap ((BitVec.ofInt 64 a &&& BitVec.ofInt 64 255).toNat : Int) ∧ IntKind.u64.wrap ((BitVec.ofInt 64 a &&& BitVec.ofInt 64 255).toNat : Int) ≤ 255
  generalize (BitVec.ofInt 64 a &&& BitVec.ofInt 64 255).toNat = z at h
  simp [IntKind.wrap, IntKind.bits, IntKind.signed]
  omega
theorem rd_mem {l : List Int} {i : Int} (h0 : 0 ≤ i) (h : i < (l.length : Int)) : rd l i ∈ l := by
  have h2 : i.toNat < l.length := by omega
  have : rd l i = l[i.toNat] := by
    show l.getD _ _ = _
    simp [List.getD, h2]
  rw [this]
  exact List.getElem_mem h2
theorem next_f {s : List Int} (hs : Bytes s) (p st : Int) (h0 : 0 ≤ p) (h1 : p ≤ 4611686018427387904) : ∃ b q u, spec_l1Cur_next.f s p st = some (b, q, u) ∧ (0 ≤ b ∧ b ≤ 255) ∧ (p ≤ q ∧ q ≤ p + 1) := by
  have hw : wrap64 (p + 1) = p + 1 := wrap_in (by omega) (by omega)
  have hb : ∀ a : Int, 0 ≤ wrap64 (Go.bits .and .u64 a 255) ∧ wrap64 (Go.bits .and .u64 a 255) ≤ 255 := by
    intro a
    have := and_255 a
    rw [wrap_in (by omega) (by omega)]
    exact this
  unfold spec_l1Cur_next.f
  rw [hw]
  by_cases c : p < (s.length : Int)
  · rw [if_pos c, if_pos h0]
    have hr := hs.2 _ (rd_mem h0 c)
    by_cases d : p + 1 ≤ (s.length : Int)
    · rw [if_pos d]
      exact ⟨_, _, _, rfl, by rw [wrap_in (by omega) (by omega)]; exact hr, by omega⟩
    · rw [if_neg d]
      exact ⟨_, _, _, rfl, hb _, by omega⟩
  · rw [if_neg c]
    by_cases d : p + 1 ≤ (s.length : Int)
    · rw [if_pos d]
      exact ⟨_, _, _, rfl, by omega, by omega⟩
    · rw [if_neg d]
      exact ⟨_, _, _, rfl, hb _, by omega⟩
theorem pick_f {s : List Int} (hs : Bytes s) (p st : Int) (h0 : 0 ≤ p) (h1 : p ≤ 4611686018427387000) (a : Int) : ∃ b q u, spec_l1Cur_pick.f s p st a = some (b, q, u) ∧ (0 ≤ b ∧ (b < a ∨ b = 0)) ∧ (p ≤ q ∧ q ≤ p + 2) := by
  unfold spec_l1Cur_pick.f
  by_cases c : a ≤ 1
  · rw [if_pos c]
    exact ⟨_, _, _, rfl, by omega, by omega⟩
  · rw [if_neg c]
    obtain ⟨b, q, u, e, hb, hq⟩ := next_f hs p st h0 (by omega)
    rw [e]
    simp only [Option.bind_some]
    by_cases d : a > 200
    · rw [if_pos d]
      obtain ⟨b2, q2, u2, e2, hb2, hq2⟩ := next_f hs q u (by omega) (by omega)
      rw [e2]
      simp only [Option.bind_some]
      rw [if_neg (by omega)]
      refine ⟨_, _, _, rfl, ?_, by omega⟩
      rw [wrap_in (x := b * 256) (by omega) (by omega), wrap_in (x := b * 256 + b2) (by omega) (by omega)]
      exact ⟨Int.tmod_nonneg _ (by omega), .inl (Int.tmod_lt_of_pos _ (by omega))⟩
    · rw [if_neg d, if_neg (by omega)]
      exact ⟨_, _, _, rfl, ⟨Int.tmod_nonneg _ (by omega), .inl (Int.tmod_lt_of_pos _ (by omega))⟩, by omega⟩
theorem one_f {s : List Int} (hs : Bytes s) (p st : Int) (h0 : 0 ≤ p) (h1 : p ≤ 4611686018427387000) (a : Int) : ∃ b q u, spec_l1Cur_one.f s p st a = some (b, q, u) ∧ (p ≤ q ∧ q ≤ p + 2) := by
  obtain ⟨b, q, u, e, _, hq⟩ := pick_f hs p st h0 h1 a
  unfold spec_l1Cur_one.f
  rw [e]
  exact ⟨_, _, _, rfl, hq⟩
theorem among_f {s : List Int} (hs : Bytes s) (p st : Int) (h0 : 0 ≤ p) (h1 : p ≤ 4611686018427387000) (l : List Int) (hl : 1 ≤ l.length) : ∃ b q u, spec_l1Cur_among.f s p st l = some (b, q, u) ∧ b ∈ l ∧ (p ≤ q ∧ q ≤ p + 2) := by
  obtain ⟨b, q, u, e, hb, hq⟩ := pick_f hs p st h0 h1 (l.length : Int)
  unfold spec_l1Cur_among.f
  rw [e]
  simp only [Option.bind_some]
  rw [if_pos hb.1, if_pos (by omega)]
  exact ⟨_, _, _, rfl, rd_mem hb.1 (by omega), hq⟩
end Go.Proofs.Ytgcliajajcinpaa.Draw
end
section
namespace Go.Proofs.Ytgcliajajcinpaa.Sets
open Go.RowKit Go.Proofs.YtgcliajajcinpaaW.PrintWords Go.Proofs.YtgcliajajcinpaaW.PrintLast Go.Proofs.YtgcliajajcinpaaW.PrintMore
open Go.Proofs.Ytgcliajajcinpaa.Pl Go.Proofs.Ytgcliajajcinpaa.EvN Go.Proofs.Ytgcliajajcinpaa.Lp
set_option linter.unusedSimpArgs false
set_option linter.unusedVariables false
end Go.Proofs.Ytgcliajajcinpaa.Sets
end
section
namespace Go.Proofs.Ytgcliajajcinpaa.Mem
open Go.RowKit Go.Proofs.Ytgcliajajcinpaa.P Go.Proofs.YtgcliajajcinpaaW.PrintWords Go.Proofs.YtgcliajajcinpaaW.PrintLast Go.Proofs.YtgcliajajcinpaaW.PrintMore
open Go.Proofs.Ytgcliajajcinpaa.Pl Go.Proofs.Ytgcliajajcinpaa.EvN Go.Proofs.Ytgcliajajcinpaa.Lp Go.Proofs.Ytgcliajajcinpaa.Sets
set_option linter.unusedSimpArgs false
set_option linter.unusedVariables false
theorem in_f (a b c : Int) : impl_in.f a b c = some (decide (b ≤ a ∧ a ≤ c)) := by
  unfold impl_in.f
  by_cases h : a ≥ b
  · rw [if_pos h]; congr 1; rw [decide_eq_decide]; omega
  · rw [if_neg h]; congr 1; symm; rw [decide_eq_false_iff_not]; omega
theorem l1In_f (a b c : Int) : spec_l1In.f a b c = some (decide (b ≤ a ∧ a ≤ c)) := by
  unfold spec_l1In.f
  by_cases h : a ≥ b
  · rw [if_pos h]; congr 1; rw [decide_eq_decide]; omega
  · rw [if_neg h]; congr 1; symm; rw [decide_eq_false_iff_not]; omega
end Go.Proofs.Ytgcliajajcinpaa.Mem
end
section
namespace Go.Proofs.Ytgcliajajcinpaa.Mem
open Go.RowKit Go.Proofs.Ytgcliajajcinpaa.P Go.Proofs.YtgcliajajcinpaaW.PrintWords Go.Proofs.YtgcliajajcinpaaW.PrintLast Go.Proofs.YtgcliajajcinpaaW.PrintMore
open Go.Proofs.Ytgcliajajcinpaa.Pl Go.Proofs.Ytgcliajajcinpaa.EvN Go.Proofs.Ytgcliajajcinpaa.Lp Go.Proofs.Ytgcliajajcinpaa.Sets
set_option linter.unusedSimpArgs false
set_option linter.unusedVariables false
theorem has_f (l : List Int) (n : Int) (hl : l.length ≤ 4611686018427387904) : Cm (fun k => spec_l1Has.f k l n) (decide (n ∈ l)) := by
  unfold spec_l1Has.f
  have := every_cm (L := fun k i => spec_l1Has.l0 k n l (l.length : Int) i) l (fun x => decide (x ≠ n)) (fin := false) (no := true) ?_ ?_ ?_
  · refine cm_val this ?_
    by_cases c : n ∈ l
    · simp [c]
    · simp [c]
      intro x hx e
      subst e
      exact c hx
  · intro pre h t e hlt hp v hv
    simp only [decide_eq_true_eq] at hp
    refine cm_step (fun k => by rw [spec_l1Has.l0]) ?_
    simp only [rd_at e, wrap_len hlt hl]
    repeat (first | assumption | exact cm_now (fun _ => rfl) | refine cm_yes (by first | omega | assumption | (simp; done) | (simp; omega)) ?_ | refine cm_no (by first | omega | assumption | (simp; done) | (simp; omega)) ?_)
  · intro pre h t e hlt hp
    simp only [decide_eq_false_iff_not, ne_eq, Decidable.not_not] at hp
    refine cm_step (fun k => by rw [spec_l1Has.l0]) ?_
    simp only [rd_at e, wrap_len hlt hl]
    repeat (first | assumption | exact cm_now (fun _ => rfl) | refine cm_yes (by first | omega | assumption | (simp; done) | (simp; omega)) ?_ | refine cm_no (by first | omega | assumption | (simp; done) | (simp; omega)) ?_)
  · intro _
    refine cm_step (fun k => by rw [spec_l1Has.l0]) ?_
    repeat (first | assumption | exact cm_now (fun _ => rfl) | refine cm_yes (by first | omega | assumption | (simp; done) | (simp; omega)) ?_ | refine cm_no (by first | omega | assumption | (simp; done) | (simp; omega)) ?_)
theorem contains_f (l : List Int) (n : Int) (hl : l.length ≤ 4611686018427387904) : Cm (fun k => slices_Contains_int_int.f k l n) (decide (n ∈ l)) := by
  unfold slices_Contains_int_int.f slices_Index_int_int.f
  refine cm_bind (t := foundAt (fun x => decide (n = x)) (fun i _ => (i : Int)) (-1) 0 l) ?_ (cm_now fun _ => ?_)
  · refine find_cm (L := fun k i => slices_Index_int_int.l0 k l n (l.length : Int) i) l (fun x => decide (n = x)) (fun i _ => (i : Int)) (none_ := (-1 : Int)) ?_ ?_ ?_
    · intro pre h t e hlt hp v hv
      simp only [decide_eq_false_iff_not] at hp
      refine cm_step (fun k => by rw [slices_Index_int_int.l0]) ?_
      simp only [rd_at e, wrap_len hlt hl]
      repeat (first | assumption | exact cm_now (fun _ => rfl) | refine cm_yes (by first | omega | assumption | (simp; done) | (simp; omega)) ?_ | refine cm_no (by first | omega | assumption | (simp; done) | (simp; omega)) ?_)
    · intro pre h t e hlt hp
      simp only [decide_eq_true_eq] at hp
      refine cm_step (fun k => by rw [slices_Index_int_int.l0]) ?_
      simp only [rd_at e, wrap_len hlt hl]
      repeat (first | assumption | exact cm_now (fun _ => rfl) | refine cm_yes (by first | omega | assumption | (simp; done) | (simp; omega)) ?_ | refine cm_no (by first | omega | assumption | (simp; done) | (simp; omega)) ?_)
    · refine cm_step (fun k => by rw [slices_Index_int_int.l0]) ?_
      repeat (first | assumption | exact cm_now (fun _ => rfl) | refine cm_yes (by first | omega | assumption | (simp; done) | (simp; omega)) ?_ | refine cm_no (by first | omega | assumption | (simp; done) | (simp; omega)) ?_)
  · rw [found_any]
    congr 1
    rw [Bool.eq_iff_iff]
    simp
end Go.Proofs.Ytgcliajajcinpaa.Mem
end
section
namespace Go.Proofs.Ytgcliajajcinpaa.Hlp
open Go.RowKit Go.Proofs.Ytgcliajajcinpaa.P Go.Proofs.YtgcliajajcinpaaW.PrintWords Go.Proofs.YtgcliajajcinpaaW.PrintLast Go.Proofs.YtgcliajajcinpaaW.PrintMore
open Go.Proofs.Ytgcliajajcinpaa.Pl Go.Proofs.Ytgcliajajcinpaa.EvN Go.Proofs.Ytgcliajajcinpaa.Lp Go.Proofs.Ytgcliajajcinpaa.Pick Go.Proofs.Ytgcliajajcinpaa.Mem
set_option linter.unusedSimpArgs false
set_option linter.unusedVariables false
theorem sameInts_self (l : List Int) (hl : l.length ≤ 4611686018427387904) : Cm (fun k => laws_sameInts.f k l l) true := by
  unfold laws_sameInts.f
  refine cm_yes rfl ?_
  refine same_cm (L := fun k i => laws_sameInts.l0 k l l (l.length : Int) i) l ?_ ?_
  · intro pre h t e hlt v hv
    refine cm_step (fun k => by rw [laws_sameInts.l0]) ?_
    simp only [wrap_len hlt hl]
    exact cm_yes (by omega) (cm_yes (by omega) (cm_yes (by omega) (cm_yes (by omega) (cm_yes (by trivial) hv))))
  · refine cm_step (fun k => by rw [laws_sameInts.l0]) ?_
    exact cm_no (by omega) (cm_now fun _ => rfl)
theorem lawHas_v (l : List Int) (x : Int) (hl : l.length ≤ 4611686018427387904) : Cm (fun k => laws_has.f k l x) (decide (x ∈ l)) := by
  unfold laws_has.f
  have := every_cm (L := fun k i => laws_has.l0 k x l (l.length : Int) i) l (fun y => !decide (y = x)) (fin := false) (no := true) ?_ ?_ ?_
  · refine cm_val this ?_
    by_cases c : x ∈ l
    · rw [if_neg, decide_eq_true c]
      rw [List.all_eq_true]
      intro h
      have := h x c
      simp at this
    · rw [if_pos, decide_eq_false c]
      rw [List.all_eq_true]
      intro y hy
      have : y ≠ x := fun e => c (e ▸ hy)
      simp [this]
  · intro pre h t e hlt hp v hv
    refine cm_step (fun k => by rw [laws_has.l0]) ?_
    simp only [wrap_len hlt hl, rd_at e]
    exact cm_yes (by omega) (cm_yes (by omega) (cm_yes (by omega) (cm_no (by simpa using hp) hv)))
  · intro pre h t e hlt hp
    refine cm_step (fun k => by rw [laws_has.l0]) ?_
    simp only [wrap_len hlt hl, rd_at e]
    exact cm_yes (by omega) (cm_yes (by omega) (cm_yes (by omega) (cm_yes (by simpa using hp) (cm_now fun _ => rfl))))
  · intro _
    refine cm_step (fun k => by rw [laws_has.l0]) ?_
    exact cm_no (by omega) (cm_now fun _ => rfl)
end Go.Proofs.Ytgcliajajcinpaa.Hlp
end
section
namespace Go.Proofs.Ytgcliajajcinpaa.SpreadI
open Go.RowKit Go.Proofs.Ytgcliajajcinpaa.P Go.Proofs.YtgcliajajcinpaaW.PrintWords Go.Proofs.YtgcliajajcinpaaW.PrintLast Go.Proofs.YtgcliajajcinpaaW.PrintMore
open Go.Proofs.Ytgcliajajcinpaa.Pl Go.Proofs.Ytgcliajajcinpaa.Base Go.Proofs.Ytgcliajajcinpaa.Places Go.Proofs.Ytgcliajajcinpaa.EvN Go.Proofs.Ytgcliajajcinpaa.Lp Go.Proofs.Ytgcliajajcinpaa.Moves Go.Proofs.Ytgcliajajcinpaa.Spread Go.Proofs.Ytgcliajajcinpaa.Draw Go.Proofs.Ytgcliajajcinpaa.Even Go.Proofs.Ytgcliajajcinpaa.Hlp
set_option linter.unusedSimpArgs false
set_option linter.unusedVariables false
theorem cm_at {α : Type} {F : Nat → Option α} {v : α} {K : Nat} (h : ∀ k, K ≤ k → F k = some v) : Cm F v := ⟨K, h⟩
theorem places_go {s : List Int} (hs : Bytes s) (a : Int) : ∀ (d : Nat) (acc : List Int) (p st : Int), acc.length + d ≤ 17 → 0 ≤ p → p + 2 * (d : Int) ≤ 4611686018427370000 →
    ∃ l q u, Cm (fun k => spec_l1Cur_places.l0 k a acc (d : Int) s p st) (a, l, q, u) ∧ l.length ≤ 17 ∧ (p ≤ q ∧ q ≤ p + 2 * (d : Int) + 4)
  | 0, acc, p, st, ha, h0, h1 => by
    by_cases c : (acc.length : Int) > 0
    · obtain ⟨b, q, u, e, hq⟩ := one_f hs p st h0 (by omega) 30
      cases b with
      | true =>
        obtain ⟨b2, q2, u2, e2, _, hq2⟩ := among_f hs q u (by omega) (by omega) [-2, a] (by simp)
        refine ⟨acc.set (0 : Int).toNat b2, q2, u2, ?_, by simp; omega, by omega⟩
        refine cm_step (fun k => by rw [spec_l1Cur_places.l0]) ?_
        exact cm_no (by omega) (cm_yes c (cm_bind (cm_now fun _ => e) (cm_yes rfl (cm_bind (cm_now fun _ => e2) (cm_yes c (cm_now fun _ => rfl))))))
      | false =>
        refine ⟨acc, q, u, ?_, by omega, by omega⟩
        refine cm_step (fun k => by rw [spec_l1Cur_places.l0]) ?_
        exact cm_no (by omega) (cm_yes c (cm_bind (cm_now fun _ => e) (cm_no (by simp) (cm_now fun _ => rfl))))
    · refine ⟨acc, p, st, ?_, by omega, by omega⟩
      refine cm_step (fun k => by rw [spec_l1Cur_places.l0]) ?_
      exact cm_no (by omega) (cm_no c (cm_now fun _ => rfl))
  | d + 1, acc, p, st, ha, h0, h1 => by
    obtain ⟨b, q, u, e, _, hq⟩ := pick_f hs p st h0 (by omega) (wrap64 (a + 1))
    obtain ⟨l, q2, u2, x, y, z⟩ := places_go hs a d (acc ++ [wrap64 (b - 1)]) q u (by simp; omega) (by omega) (by omega)
    refine ⟨l, q2, u2, ?_, y, by omega⟩
    refine cm_step (fun k => by rw [spec_l1Cur_places.l0]) ?_
    simp only [show wrap64 (((d + 1 : Nat) : Int) - 1) = (d : Int) from by rw [wrap_in (by omega) (by omega)]; omega]
    exact cm_yes (by omega) (cm_bind (cm_now fun _ => e) (cm_yes (by omega) x))
theorem places_draw {s : List Int} (hs : Bytes s) : ∃ a l q u, Cm (fun k => spec_l1Cur_places.f k s 0 0) (a, l, q, u) ∧ (1 ≤ a ∧ a ≤ 5) ∧ l.length ≤ 17 ∧ (0 ≤ q ∧ q ≤ 100) := by
  obtain ⟨b, q, u, e, hb, hq⟩ := pick_f hs 0 0 (by omega) (by omega) 5
  obtain ⟨b2, q2, u2, e2, hb2, hq2⟩ := pick_f hs q u (by omega) (by omega) 12
  obtain ⟨b3, q3, u3, e3, hq3⟩ := one_f hs q2 u2 (by omega) (by omega) 20
  have ew : wrap64 (1 + b) = 1 + b := wrap_in (by omega) (by omega)
  have key : ∀ (d : Nat) (p st : Int), d ≤ 17 → 0 ≤ p → p ≤ 20 → ∃ l q u, Cm (fun k => spec_l1Cur_places.j0 k (1 + b) (d : Int) s p st) (1 + b, l, q, u) ∧ l.length ≤ 17 ∧ (p ≤ q ∧ q ≤ p + 2 * (d : Int) + 4) := by
    intro d p st hd h0 h1
    obtain ⟨l, q, u, x, y, z⟩ := places_go hs (1 + b) d [] p st (by simp; omega) h0 (by omega)
    refine ⟨l, q, u, ?_, y, z⟩
    refine cm_step (fun k => by rw [spec_l1Cur_places.j0]) ?_
    exact x
  unfold spec_l1Cur_places.f
  cases b3 with
  | true =>
    obtain ⟨b4, q4, u4, e4, hb4, hq4⟩ := pick_f hs q3 u3 (by omega) (by omega) 2
    obtain ⟨m, hm⟩ := Int.eq_ofNat_of_zero_le (show 0 ≤ 16 + b4 by omega)
    obtain ⟨l, q5, u5, x, y, z⟩ := key m q4 u4 (by omega) (by omega) (by omega)
    refine ⟨1 + b, l, q5, u5, ?_, by omega, y, by omega⟩
    refine cm_bind (cm_now fun _ => e) (cm_bind (cm_now fun _ => e2) (cm_bind (cm_now fun _ => e3) (cm_yes rfl (cm_bind (cm_now fun _ => e4) ?_))))
    have ew2 : wrap64 (16 + b4) = (m : Int) := by rw [wrap_in (by omega) (by omega), hm]
    rw [ew, ew2]
    exact x
  | false =>
    obtain ⟨m, hm⟩ := Int.eq_ofNat_of_zero_le (show 0 ≤ b2 by omega)
    obtain ⟨l, q5, u5, x, y, z⟩ := key m q3 u3 (by omega) (by omega) (by omega)
    refine ⟨1 + b, l, q5, u5, ?_, by omega, y, by omega⟩
    refine cm_bind (cm_now fun _ => e) (cm_bind (cm_now fun _ => e2) (cm_bind (cm_now fun _ => e3) (cm_no (by simp) ?_)))
    rw [ew, show b2 = (m : Int) from hm]
    exact x
theorem draw_places {s : List Int} (hs : Bytes s) : ∃ a l, Cm (fun k => spec_DrawSpreadEven.f k s) (a, l) ∧ (1 ≤ a ∧ a ≤ 5) ∧ l.length ≤ 17 := by
  obtain ⟨a, l, q, u, x, y, z, _⟩ := places_draw hs
  refine ⟨a, l, ?_, y, z⟩
  unfold spec_DrawSpreadEven.f
  refine cm_bind (t := (a, l)) ?_ (cm_now fun _ => rfl)
  unfold spec_DrawGoodPlaces.f
  exact cm_bind x (cm_now fun _ => rfl)
theorem draw_drop {s : List Int} (hs : Bytes s) : ∃ a l g, Cm (fun k => spec_DrawDropHome.f k s) (a, l, g) ∧ l.length ≤ 17 := by
  obtain ⟨a, l, q, u, x, y, z, w⟩ := places_draw hs
  obtain ⟨b, q1, u1, e1, hb1, hq1⟩ := pick_f hs q u (by omega) (by omega) (wrap64 (a + 1))
  obtain ⟨b2, q2, u2, e2, hb2, hq2⟩ := pick_f hs q1 u1 (by omega) (by omega) 2
  obtain ⟨b3, q3, u3, e3, hb3, hq3⟩ := pick_f hs q2 u2 (by omega) (by omega) 2
  refine ⟨a, l, wrap64 (b - (wrap64 (b2 * b3))), ?_, z⟩
  unfold spec_DrawDropHome.f
  exact cm_bind x (cm_bind (cm_now fun _ => e1) (cm_bind (cm_now fun _ => e2) (cm_bind (cm_now fun _ => e3) (cm_now fun _ => rfl))))
theorem moves_go {s : List Int} (hs : Bytes s) (l : List Int) (n : Nat) (hn : n ≤ 17) : ∀ (d i : Nat) (m : List Int) (p st : Int), i + d = n → m.length = n → 0 ≤ p → p + 4 * (d : Int) ≤ 1000 →
    ∃ v, Cm (fun k => spec_DrawMovesTo.l0 k l m (n : Int) (i : Int) s p st) (l, v) ∧ v.length ≤ 18
  | 0, i, m, p, st, hi, hm, h0, h1 => by
    obtain ⟨b, q, u, e, hq⟩ := one_f hs p st h0 (by omega) 20
    cases b with
    | true =>
      refine ⟨m ++ [0], ?_, by simp; omega⟩
      refine cm_step (fun k => by rw [spec_DrawMovesTo.l0]) ?_
      exact cm_no (by omega) (cm_bind (cm_now fun _ => e) (cm_yes rfl (cm_yes (by omega) (cm_now fun _ => rfl))))
    | false =>
      refine ⟨m, ?_, by omega⟩
      refine cm_step (fun k => by rw [spec_DrawMovesTo.l0]) ?_
      exact cm_no (by omega) (cm_bind (cm_now fun _ => e) (cm_no (by simp) (cm_now fun _ => rfl)))
  | d + 1, i, m, p, st, hi, hm, h0, h1 => by
    obtain ⟨b, q, u, e, hq⟩ := one_f hs p st h0 (by omega) 3
    have ew : wrap64 ((i : Int) + 1) = ((i + 1 : Nat) : Int) := by rw [wrap_in (by omega) (by omega)]; omega
    cases b with
    | true =>
      obtain ⟨b2, q2, u2, e2, hb2, hq2⟩ := pick_f hs q u (by omega) (by omega) 5
      obtain ⟨v, x, y⟩ := moves_go hs l n hn d (i + 1) (m.set (i : Int).toNat (wrap64 (b2 - 1))) q2 u2 (by omega) (by simpa using hm) (by omega) (by omega)
      refine ⟨v, ?_, y⟩
      refine cm_step (fun k => by rw [spec_DrawMovesTo.l0]) ?_
      simp only [ew]
      exact cm_yes (by omega) (cm_bind (cm_now fun _ => e) (cm_yes (by trivial) (cm_bind (cm_now fun _ => e2) (cm_yes (by omega) (cm_yes (by omega) x)))))
    | false =>
      obtain ⟨v, x, y⟩ := moves_go hs l n hn d (i + 1) m q u (by omega) hm (by omega) (by omega)
      refine ⟨v, ?_, y⟩
      refine cm_step (fun k => by rw [spec_DrawMovesTo.l0]) ?_
      simp only [ew]
      exact cm_yes (by omega) (cm_bind (cm_now fun _ => e) (cm_no (by simp) x))
theorem draw_moves {s : List Int} (hs : Bytes s) : ∃ a b, Cm (fun k => spec_DrawMovesTo.f k s) (a, b) ∧ a.length ≤ 17 ∧ b.length ≤ 18 := by
  obtain ⟨a, l, q, u, x, y, z, w⟩ := places_draw hs
  obtain ⟨v, h1, h2⟩ := moves_go hs l l.length z l.length 0 l q u (by omega) rfl (by omega) (by omega)
  refine ⟨l, v, ?_, z, h2⟩
  unfold spec_DrawMovesTo.f
  simp only [Option.bind_some, List.nil_append, List.length_nil, Nat.zero_add]
  exact cm_bind x (cm_yes (by simp only; omega) h1)
theorem draw_even {s : List Int} (hs : Bytes s) : ∃ a l, Cm (fun k => spec_DrawIsEven.f k s) (a, l) ∧ l.length ≤ 17 := by
  obtain ⟨a, l, q, u, x, y, z, w⟩ := places_draw hs
  obtain ⟨v, K, hv, h1, _⟩ := spreadEven_f a l (by omega)
  have h2 := cm_at h1
  obtain ⟨v1, v2⟩ := v
  by_cases c : v2 = true
  · obtain ⟨b, q1, u1, e1, hq1⟩ := one_f hs q u (by omega) (by omega) 2
    cases b with
    | true =>
      refine ⟨a, v1, ?_, by simp only at hv; omega⟩
      unfold spec_DrawIsEven.f
      exact cm_bind x (cm_bind h2 (cm_yes c (cm_bind (cm_now fun _ => e1) (cm_yes rfl (cm_now fun _ => rfl)))))
    | false =>
      refine ⟨a, l, ?_, z⟩
      unfold spec_DrawIsEven.f
      exact cm_bind x (cm_bind h2 (cm_yes c (cm_bind (cm_now fun _ => e1) (cm_no (by simp) (cm_now fun _ => rfl)))))
  · refine ⟨a, l, ?_, z⟩
    unfold spec_DrawIsEven.f
    exact cm_bind x (cm_bind h2 (cm_no c (cm_now fun _ => rfl)))
theorem number_f {s : List Int} (hs : Bytes s) : ∃ v, Cm (fun k => laws_numberOf.f k s) v ∧ 0 ≤ v ∧ v < 1000003 := by
  unfold laws_numberOf.f
  have h1 := hs.1
  have key : ∀ (d i : Nat) (x : Int), i + d = s.length → 0 ≤ x → x < 1000003 → ∃ v, Cm (fun k => laws_numberOf.l0 k x s (s.length : Int) (i : Int)) v ∧ 0 ≤ v ∧ v < 1000003 := by
    intro d
    induction d with
    | zero =>
      intro i x hi h0 h2
      refine ⟨x, ?_, h0, h2⟩
      refine cm_step (fun k => by rw [laws_numberOf.l0]) ?_
      exact cm_no (by omega) (cm_now fun _ => rfl)
    | succ d ih =>
      intro i x hi h0 h2
      have hb := hs.2 (rd s (i : Int)) (rd_mem (by omega) (by omega))
      have e1 : wrap64 (31 * x) = 31 * x := wrap_in (by omega) (by omega)
      have e2 : wrap64 (rd s (i : Int)) = rd s (i : Int) := wrap_in (by omega) (by omega)
      have e3 : wrap64 (31 * x + rd s (i : Int)) = 31 * x + rd s (i : Int) := wrap_in (by omega) (by omega)
      obtain ⟨v, a, b⟩ := ih (i + 1) (Int.tmod (31 * x + rd s (i : Int)) 1000003) (by omega) (Int.tmod_nonneg _ (by omega)) (Int.tmod_lt_of_pos _ (by omega))
      refine ⟨v, ?_, b⟩
      refine cm_step (fun k => by rw [laws_numberOf.l0]) ?_
      simp only [e1, e2, e3, wrap_len (n := i) (m := s.length) (by omega) h1]
      exact cm_yes (by omega) (cm_yes (by omega) (cm_yes (by omega) a))
  exact key s.length 0 0 (by omega) (by omega) (by omega)
theorem even_v {n : Nat} {l v : List Int} (hg : good (n : Int) l = true) (hvl : v.length = l.length) (hvb : ∀ h ∈ v, 0 ≤ h ∧ h < (n : Int)) (hvc : ∀ j : Nat, j < n → ((List.count (j : Int) v : Nat) : Int) = rd (rooms n (-1) l.length (loads (n : Int) l)) (j : Int)) :
    good (n : Int) v = true ∧ Cm (fun k => impl_IsEven.f k (n : Int) v) (true, true) := by
  obtain ⟨hlb, hn', hl16⟩ := good_iff.1 hg
  have hgv : good (n : Int) v = true := good_iff.2 ⟨fun h hh => by have := hvb h hh; omega, hn', by omega⟩
  refine ⟨hgv, ?_⟩
  have hi : Cm (fun k => impl_arePlaces.f k (n : Int) v) (good (n : Int) v) := cm_of_some (d := v.length) (fun k hk => are_f (n : Int) v (by omega) k hk)
  have hL : (loads (n : Int) v).length = n := by rw [loads_length]; simp
  obtain ⟨M, hM, hM1, hM2⟩ := max_f (loads (n : Int) v) (by omega) (by omega)
  obtain ⟨m, hm, hm1, hm2⟩ := min_f (loads (n : Int) v) (by omega) (by omega)
  have hc := loads_sum n v (fun h hh => by have := hvb h hh; omega)
  have hat : ∀ x ∈ loads (n : Int) v, (l.length : Int) / many n (-1) ≤ x ∧ x ≤ (l.length : Int) / many n (-1) + 1 := by
    intro x hx
    obtain ⟨j, hj, rfl⟩ := List.getElem_of_mem hx
    have h1 := hc.2 j (by omega)
    rw [rd_get _ _ hj] at h1
    have h2 := hvc j (by omega)
    rw [rd_rooms l.length (loads (n : Int) l) (show j < n by omega)] at h2
    split at h2 <;> omega
  have a1 := hat M hM1
  have a2 := hat m hm1
  have hq : 0 ≤ (l.length : Int) / many n (-1) ∧ (l.length : Int) / many n (-1) ≤ 100 := by
    have hm0 := many_pos (n := n) (g := -1) (by omega) (.inl rfl)
    refine ⟨Int.ediv_nonneg (by omega) (by omega), ?_⟩
    have := Int.ediv_le_self (many n (-1)) (show (0 : Int) ≤ (l.length : Int) by omega)
    omega
  have hno : (-1) ∉ v := fun h => by have := hvb _ h; omega
  unfold impl_IsEven.f
  refine cm_bind hi (cm_yes hgv (cm_bind (cm_of_some (d := v.length) (fun k hk => impl_loads_f (n : Int) v hgv k hk)) (cm_bind (contains_f (-1) v (by omega)) (cm_no (by simp [hno]) (cm_bind hM (cm_bind hm (cm_now fun _ => ?_)))))))
  rw [wrap_in (by omega) (by omega), decide_eq_true (by omega)]
theorem spread_cm {n : Nat} {l v : List Int} (hg : good (n : Int) l = true) (hvl : v.length = l.length) (hs : Cm (fun k => spec_l13Spread.f k (n : Int) l (-1)) v) (hi : Cm (fun k => impl_spread.f k (n : Int) l (-1)) v) :
    Cm (fun k => spec_SpreadEven.f k (n : Int) l) (v, true) ∧ Cm (fun k => impl_SpreadEven.f k (n : Int) l) (v, true) ∧ Cm (fun k => spec_FewestMoves.f k (n : Int) l) (moves l v, true) ∧ Cm (fun k => impl_FewestMoves.f k (n : Int) l) (moves l v, true) := by
  have hl := (good_iff.1 hg).2.2
  have g1 : Cm (fun k => spec_GoodPlaces.f k (n : Int) l) (good (n : Int) l) := cm_of_some (d := l.length) (fun k hk => spec_f (n : Int) l (by omega) k hk)
  have g2 : Cm (fun k => impl_arePlaces.f k (n : Int) l) (good (n : Int) l) := cm_of_some (d := l.length) (fun k hk => are_f (n : Int) l (by omega) k hk)
  have m1 : Cm (fun k => spec_l13Moves.f k l v) (moves l v) := cm_of_some (d := l.length) (fun k hk => spec_moves_f l v (by omega) hvl.symm k hk)
  have m2 : Cm (fun k => impl_elsewhere.f k l v) (moves l v) := cm_of_some (d := l.length) (fun k hk => impl_moves_f l v (by omega) hvl.symm k hk)
  unfold spec_SpreadEven.f impl_SpreadEven.f spec_FewestMoves.f impl_FewestMoves.f
  exact ⟨cm_bind g1 (cm_yes hg (cm_bind hs (cm_now fun _ => rfl))), cm_bind g2 (cm_yes hg (cm_bind hi (cm_now fun _ => rfl))), cm_bind g1 (cm_yes hg (cm_bind hs (cm_bind m1 (cm_now fun _ => rfl)))), cm_bind g2 (cm_yes hg (cm_bind hi (cm_bind m2 (cm_now fun _ => rfl))))⟩
theorem bad_cm {a : Int} {l : List Int} (hl : l.length ≤ 1048576) (hg : ¬ good a l = true) :
    Cm (fun k => spec_SpreadEven.f k a l) ([], false) ∧ Cm (fun k => impl_SpreadEven.f k a l) ([], false) ∧ Cm (fun k => spec_FewestMoves.f k a l) (0, false) ∧ Cm (fun k => impl_FewestMoves.f k a l) (0, false) := by
  have g1 : Cm (fun k => spec_GoodPlaces.f k a l) (good a l) := cm_of_some (d := l.length) (fun k hk => spec_f a l hl k hk)
  have g2 : Cm (fun k => impl_arePlaces.f k a l) (good a l) := cm_of_some (d := l.length) (fun k hk => are_f a l hl k hk)
  unfold spec_SpreadEven.f impl_SpreadEven.f spec_FewestMoves.f impl_FewestMoves.f
  exact ⟨cm_bind g1 (cm_no hg (cm_now fun _ => rfl)), cm_bind g2 (cm_no hg (cm_now fun _ => rfl)), cm_bind g1 (cm_no hg (cm_now fun _ => rfl)), cm_bind g2 (cm_no hg (cm_now fun _ => rfl))⟩
theorem movesTo_cm (a b : List Int) (ha : a.length ≤ 1048576) (hb : b.length ≤ 1048576) : Cm (fun k => spec_MovesTo.f k a b) (movesTo a b) ∧ Cm (fun k => impl_MovesTo.f k a b) (movesTo a b) :=
  ⟨cm_of_some (fun k hk => spec_movesTo_f a b ha hb k hk), cm_of_some (fun k hk => impl_movesTo_f a b ha hb k hk)⟩
theorem movesTo_v {a b : List Int} (ha : ∀ h ∈ a, -1 ≤ h) (hb : ∀ h ∈ b, -1 ≤ h) (hl : a.length = b.length) : movesTo a b = (moves a b, true) := by
  have h1 : a.any low = false := by rw [List.any_eq_false]; intro x hx; have := ha x hx; simp [low]; omega
  have h2 : b.any low = false := by rw [List.any_eq_false]; intro x hx; have := hb x hx; simp [low]; omega
  unfold movesTo
  rw [if_pos ⟨by rw [h1, h2]; rfl, hl⟩]
theorem moves_self : ∀ l : List Int, moves l l = 0
  | [] => rfl
  | a :: l => by simp [moves, moves_self l]
end Go.Proofs.Ytgcliajajcinpaa.SpreadI
end
section
namespace Go.Proofs.Ytgcliajajcinpaa.Pure
open Go.RowKit Go.Proofs.Ytgcliajajcinpaa.P Go.Proofs.YtgcliajajcinpaaW.PrintWords Go.Proofs.YtgcliajajcinpaaW.PrintLast Go.Proofs.YtgcliajajcinpaaW.PrintMore
open Go.Proofs.Ytgcliajajcinpaa.Pl Go.Proofs.Ytgcliajajcinpaa.Base Go.Proofs.Ytgcliajajcinpaa.Places Go.Proofs.Ytgcliajajcinpaa.EvN Go.Proofs.Ytgcliajajcinpaa.Lp Go.Proofs.Ytgcliajajcinpaa.Moves Go.Proofs.Ytgcliajajcinpaa.Spread Go.Proofs.Ytgcliajajcinpaa.Draw Go.Proofs.Ytgcliajajcinpaa.Even Go.Proofs.Ytgcliajajcinpaa.Hlp Go.Proofs.Ytgcliajajcinpaa.SpreadI
set_option linter.unusedVariables false
set_option linter.unusedSimpArgs false
theorem last_f {l1 : List Int} (hs : Bytes l1) : Cm (fun k => laws_FnSpread.j4 k l1) true := by
  obtain ⟨p, q, g, d1, hq⟩ := draw_drop hs
  obtain ⟨u, v, d2, hu, hv⟩ := draw_moves hs
  obtain ⟨r, t, d3, ht⟩ := draw_even hs
  obtain ⟨x, _, hx, x1, x2⟩ := dropHome_f p q g (by omega)
  obtain ⟨y, _, y1, y2⟩ := isEven_f r t (by omega)
  have m := movesTo_cm u v (by omega) (by omega)
  refine cm_step (fun k => by rw [laws_FnSpread.j4]) ?_
  refine cm_bind d1 ?_
  refine cm_bind (cm_at x2) ?_
  refine cm_bind (cm_at x1) ?_
  refine cm_bind d2 ?_
  refine cm_bind m.2 ?_
  refine cm_bind m.1 ?_
  refine cm_bind d3 ?_
  refine cm_bind (cm_at y2) ?_
  refine cm_bind (cm_at y1) ?_
  refine cm_yes (by simp) ?_
  refine cm_bind (sameInts_self x.1 (by omega)) ?_
  refine cm_yes rfl ?_
  refine cm_yes (by simp) ?_
  refine cm_yes rfl ?_
  refine cm_yes (by simp) ?_
  exact cm_now fun _ => by simp
theorem other_f {n : Nat} {b : Int} (hn : 1 ≤ n ∧ n ≤ 6) (hb : 0 ≤ b ∧ b ≤ 255) : ¬ wrap64 ((n : Int) + 1) = 0 ∧ (-1 ≤ wrap64 ((Int.tmod (wrap64 b) (wrap64 ((n : Int) + 1))) - 1) ∧ wrap64 ((Int.tmod (wrap64 b) (wrap64 ((n : Int) + 1))) - 1) < (n : Int)) := by
  have r0 := Int.tmod_nonneg ((n : Int) + 1) hb.1
  have r1 := Int.tmod_lt_of_pos b (show (0 : Int) < (n : Int) + 1 by omega)
  rw [wrap_in (x := (n : Int) + 1) (by omega) (by omega), wrap_in (x := b) (by omega) (by omega), wrap_in (x := Int.tmod b ((n : Int) + 1) - 1) (by omega) (by omega)]
  omega
theorem next_i {i m : Nat} (h : i < m) (hm : m ≤ 1000) : wrap64 ((i : Int) + 1) = ((i + 1 : Nat) : Int) := by
  rw [wrap_in (by omega) (by omega)]
  omega
theorem FnSpread : laws_FnSpread.Pure := by
  intro l0 l1 a0 a1 a2 b0 b1 b2
  refine cm_ex (v := true) ?_
  unfold laws_FnSpread.f
  refine cm_if (fun _ => cm_now fun _ => rfl) (fun _ => ?_)
  have hs0 : Bytes l0 := ⟨by omega, fun x hx => wf_u8 (a2 x hx)⟩
  have hs1 : Bytes l1 := ⟨by omega, fun x hx => wf_u8 (b2 x hx)⟩
  have tl := last_f hs1
  obtain ⟨a, l, d0, ha, hl⟩ := draw_places hs0
  have lo := loadsOf_length a l
  have lo1 : Cm (fun k => spec_LoadsOf.f k a l) (loadsOf a l) := cm_of_some (d := l.length) (fun k hk => spec_loadsOf_f a l (by omega) k hk)
  have lo2 : Cm (fun k => impl_LoadsOf.f k a l) (loadsOf a l) := cm_of_some (d := l.length) (fun k hk => impl_loadsOf_f a l (by omega) k hk)
  have gp : Cm (fun k => impl_GoodPlaces.f k a l) (good a l) := cm_of_some (d := l.length) (fun k hk => impl_f a l (by omega) k hk)
  by_cases g : good a l = true
  · obtain ⟨n, rfl⟩ := nat_home g
    obtain ⟨hlb, hn', hl16⟩ := good_iff.1 g
    obtain ⟨v, o, s1, s2, hvl, hvb, hvc, ho, hvk⟩ := spread_one (g := -1) (.inl rfl) g
    subst ho
    obtain ⟨c1, c2, c3, c4⟩ := spread_cm g hvl s1 s2
    obtain ⟨gv, ev⟩ := even_v g hvl hvb hvc
    obtain ⟨v2, o2, t1, t2, hvl2, hvb2, hvc2, ho2, hvk2⟩ := spread_one (g := -1) (.inl rfl) gv
    subst ho2
    have f0 : moves v v2 = 0 := by
      have h1 := fewest gv hvl2 hvk2 rfl hvb (loads (n : Int) l) (by rw [hvl]; exact hvc)
      rw [moves_self] at h1
      have := moves_le v v2
      omega
    have e4 := (spread_cm gv hvl2 t1 t2).2.2.2
    rw [f0] at e4
    have em : movesTo l v = (moves l v, true) := movesTo_v (fun h hh => (hlb h hh).1) (fun h hh => by have := hvb h hh; omega) hvl.symm
    have m1 := (movesTo_cm l v (by omega) (by omega)).2
    rw [em] at m1
    refine cm_bind d0 ?_
    refine cm_bind c2 ?_
    refine cm_bind c1 ?_
    refine cm_bind c4 ?_
    refine cm_bind c3 ?_
    refine cm_bind lo2 ?_
    refine cm_bind lo1 ?_
    refine cm_no (by simp) ?_
    refine cm_bind (sameInts_self v (by omega)) ?_
    refine cm_yes rfl ?_
    refine cm_no (by simp) ?_
    refine cm_yes rfl ?_
    refine cm_no (by simp) ?_
    refine cm_bind (sameInts_self _ (by omega)) ?_
    refine cm_yes rfl ?_
    refine cm_bind gp ?_
    rw [g]
    refine cm_step (fun k => by rw [laws_FnSpread.j0]) ?_
    refine cm_no (by simp) ?_
    refine cm_yes rfl ?_
    refine cm_bind ev ?_
    refine cm_bind m1 ?_
    refine cm_bind e4 ?_
    refine cm_yes rfl ?_
    refine cm_yes rfl ?_
    refine cm_yes rfl ?_
    refine cm_yes rfl ?_
    refine cm_yes rfl ?_
    refine cm_step (fun k => by rw [laws_FnSpread.j1]) ?_
    simp only [Option.bind_some]
    refine cm_no (by simp) (cm_yes (by omega) (cm_yes (by omega) ?_))
    have hj3 : Cm (fun k => laws_FnSpread.j3 k l1 (n : Int) l false) true := by
      refine cm_step (fun k => by rw [laws_FnSpread.j3]) ?_
      refine cm_no (by simp) (cm_if (fun c => ?_) (fun _ => tl))
      obtain ⟨z, hz, hz0, hz1⟩ := number_f hs1
      refine cm_bind hz (cm_no (by omega) ?_)
      have q0 := Int.tmod_nonneg (n : Int) hz0
      have q1 := Int.tmod_lt_of_pos z (show (0 : Int) < (n : Int) by omega)
      have hgone : goneOk n (Int.tmod z (n : Int)) := .inr ⟨q0, q1, by omega⟩
      obtain ⟨w, _, _, w2, hwl, hwb, hwc, _⟩ := spread_one hgone g
      have hd : Cm (fun k => impl_DropHome.f k (n : Int) l (Int.tmod z (n : Int))) (w, true) := by
        have g2 : Cm (fun k => impl_arePlaces.f k (n : Int) l) (good (n : Int) l) := cm_of_some (d := l.length) (fun k hk => are_f (n : Int) l (by omega) k hk)
        unfold impl_DropHome.f
        refine cm_bind g2 (cm_yes g (cm_no (by omega) ?_))
        rw [wrap_in (by omega) (by omega)]
        refine cm_bind (cm_now fun _ => in_f (Int.tmod z (n : Int)) 0 ((n : Int) - 1)) (cm_yes (by simp only [decide_eq_true_eq]; omega) (cm_bind w2 (cm_now fun _ => rfl)))
      have n1 : ¬ (Int.tmod z (n : Int)) ∈ w := by
        intro hh
        obtain ⟨j, hj⟩ := Int.eq_ofNat_of_zero_le q0
        have h1 := hwc j (by omega)
        rw [← hj] at h1
        rw [rooms_gone _ _ ⟨q0, q1⟩] at h1
        have := List.count_pos_iff.2 hh
        omega
      have n2 : ¬ (-1) ∈ w := fun hh => by have := hwb _ hh; omega
      have k1 := lawHas_v w (Int.tmod z (n : Int)) (by omega)
      have k2 := lawHas_v w (-1) (by omega)
      rw [decide_eq_false n1] at k1
      rw [decide_eq_false n2] at k2
      exact cm_bind hd (cm_yes rfl (cm_bind k1 (cm_no (by simp) (cm_bind k2 (cm_no (by simp) (cm_yes (by simp only [hwl]) tl))))))
    have hend : ∀ m : List Int, m.length = l.length → (∀ h ∈ m, -1 ≤ h ∧ h < (n : Int)) → Cm (fun k => laws_FnSpread.l0 k l1 (n : Int) l (moves l v) m (m.length : Int) (m.length : Int)) true := by
      intro m hm hmb
      have gm : good (n : Int) m = true := good_iff.2 ⟨hmb, hn', by omega⟩
      obtain ⟨w, o3, x1, x2, hwl, hwb, hwc, _, _⟩ := spread_one (g := -1) (.inl rfl) gm
      have y2 := (spread_cm gm hwl x1 x2).2.1
      have em2 : movesTo l w = (moves l w, true) := movesTo_v (fun h hh => (hlb h hh).1) (fun h hh => by have := hwb h hh; omega) (by omega)
      have y3 := (movesTo_cm l w (by omega) (by omega)).2
      rw [em2] at y3
      have hf := fewest g hvl hvk (by omega) hwb (loads (n : Int) m) (by rw [← hm]; exact hwc)
      refine cm_step (fun k => by rw [laws_FnSpread.l0]) ?_
      refine cm_no (by omega) (cm_bind y2 (cm_bind y3 (cm_yes rfl (cm_yes rfl ?_))))
      rw [decide_eq_false (by omega)]
      exact hj3
    have key : ∀ (d i : Nat) (m : List Int), i + d = l.length → m.length = l.length → (∀ h ∈ m, -1 ≤ h ∧ h < (n : Int)) → Cm (fun k => laws_FnSpread.l0 k l1 (n : Int) l (moves l v) m (m.length : Int) (i : Int)) true := by
      intro d
      induction d with
      | zero =>
        intro i m hi hm hb
        have e : i = m.length := by omega
        rw [e]
        exact hend m hm hb
      | succ d ih =>
        intro i m hi hm hb
        have hset : ∀ (m : List Int) (x : Int), (∀ h ∈ m, -1 ≤ h ∧ h < (n : Int)) → (-1 ≤ x ∧ x < (n : Int)) → ∀ h ∈ m.set (i : Int).toNat x, -1 ≤ h ∧ h < (n : Int) := by
          intro m x h1 h2 h hh
          rcases List.mem_or_eq_of_mem_set hh with h3 | h3
          · exact h1 h h3
          · rw [h3]; exact h2
        have h1 := hset m (-1) hb (by omega)
        have h3 : i < l.length := by omega
        have h4 : l.length ≤ 1000 := by omega
        have h5 : (1 ≤ n ∧ n ≤ 6) := by omega
        have h6 : i + 1 + d = l.length := by omega
        have h7 : (i : Int) < (m.length : Int) := by omega
        have h8 : (0 : Int) ≤ (i : Int) := by omega
        refine cm_step (fun k => by rw [laws_FnSpread.l0]) ?_
        simp only [Option.bind_some]
        refine cm_yes h7 ?_
        refine cm_yes h8 ?_
        refine cm_yes h7 ?_
        refine cm_if (fun c => ?_) (fun _ => ?_)
        · have hbt := hs1.2 (rd l1 (i : Int)) (rd_mem h8 c)
          have ho := other_f h5 hbt
          refine cm_no ho.1 ?_
          have := ih (i + 1) ((m.set (i : Int).toNat (-1)).set (i : Int).toNat (wrap64 ((Int.tmod (wrap64 (rd l1 (i : Int))) (wrap64 ((n : Int) + 1))) - 1))) h6 (by rw [List.length_set, List.length_set]; exact hm) (hset _ _ h1 ho.2)
          rw [List.length_set, List.length_set, ← next_i h3 h4] at this
          exact this
        · have := ih (i + 1) (m.set (i : Int).toNat (-1)) h6 (by rw [List.length_set]; exact hm) h1
          rw [List.length_set, ← next_i h3 h4] at this
          exact this
    have := key l.length 0 (List.replicate l.length 0) (by omega) (by simp) (by intro h hh; rw [List.mem_replicate] at hh; omega)
    have e3 : ((l.length : Int)).toNat = l.length := by simp
    rw [e3]
    exact this
  · have g0 : good a l = false := by simpa using g
    obtain ⟨c1, c2, c3, c4⟩ := bad_cm (a := a) (l := l) (by omega) g
    refine cm_bind d0 ?_
    refine cm_bind c2 ?_
    refine cm_bind c1 ?_
    refine cm_bind c4 ?_
    refine cm_bind c3 ?_
    refine cm_bind lo2 ?_
    refine cm_bind lo1 ?_
    refine cm_no (by simp) ?_
    refine cm_bind (sameInts_self [] (by simp)) ?_
    refine cm_yes rfl ?_
    refine cm_no (by simp) ?_
    refine cm_yes rfl ?_
    refine cm_no (by simp) ?_
    refine cm_bind (sameInts_self _ (by omega)) ?_
    refine cm_yes rfl ?_
    refine cm_bind gp ?_
    rw [g0]
    refine cm_step (fun k => by rw [laws_FnSpread.j0]) ?_
    exact cm_no (by simp) (cm_no (by simp) tl)
end Go.Proofs.Ytgcliajajcinpaa.Pure
end
