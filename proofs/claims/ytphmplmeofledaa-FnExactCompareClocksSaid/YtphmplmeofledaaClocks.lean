/- Clocks: what the tests, the joins and the comparings of lists of numbers come to in both programs. -/
import Derived.Test.YtphmplmeofledaaPx5
import Derived.Test.YtphmplmeofledaaPx6
import Derived.Test.YtphmplmeofledaaPx9
import Derived.Test.YtphmplmeofledaaPx10
import Derived.Test.YtphmplmeofledaaBase
namespace Go.Proofs.Ytphmplmeofledaa.Clocks
open Go.RowKit Go.Proofs.Ytphmplmeofledaa.P Go.Proofs.YtphmplmeofledaaW.PrintWords Go.Proofs.YtphmplmeofledaaW.PrintLast Go.Proofs.YtphmplmeofledaaW.PrintMore
open Go.Proofs.Ytphmplmeofledaa.Pl Go.Proofs.Ytphmplmeofledaa.Base

def inK (n : Int) : Bool := decide (0 ≤ n ∧ n ≤ 1000)
def clock (l : List Int) : Bool := l.all inK && decide (1 ≤ l.length ∧ l.length ≤ 5)
def clocks (a b : List Int) : Bool := clock a && clock b && decide (a.length = b.length)
theorem clock_len {l : List Int} (h : clock l = true) : 1 ≤ l.length ∧ l.length ≤ 5 := by
  simp only [clock, Bool.and_eq_true, decide_eq_true_eq] at h
  exact h.2
theorem clock_all {l : List Int} (h : clock l = true) : ∀ x ∈ l, 0 ≤ x ∧ x ≤ 1000 := by
  simp only [clock, Bool.and_eq_true, List.all_eq_true, inK, decide_eq_true_eq] at h
  exact h.1
theorem clocks_iff {a b : List Int} : clocks a b = true ↔ clock a = true ∧ clock b = true ∧ a.length = b.length := by
  simp [clocks, and_assoc]
theorem spec_clock_l0 (l : List Int) (hl : l.length ≤ 1048576) : ∀ (rest pre : List Int) (k : Nat), pre ++ rest = l → rest.length < k →
    spec_l7Clock.l0 k l l (l.length : Int) (pre.length : Int) = some (rest.all inK && decide (1 ≤ l.length ∧ l.length ≤ 5)) := by
  intro rest
  induction rest with
  | nil =>
    intro pre k e hk
    obtain ⟨k, rfl⟩ := round hk
    have := len_end e
    simp only [spec_l7Clock.l0]
    rw [if_neg (by omega), l1In_f]
    simp only [Option.bind_some, List.all_nil, Bool.true_and, Option.some.injEq]
    congr 1
    apply propext
    omega
  | cons h t ih =>
    intro pre k e hk
    obtain ⟨k, rfl⟩ := round hk
    have hlt := len_mid e
    simp only [spec_l7Clock.l0]
    rw [if_pos (by omega), if_pos (by omega), if_pos (by omega), rd_at e, wrap_len hlt (by omega), l1In_f]
    have := ih (pre ++ [h]) k (app_mid e) (by simpa using hk)
    rw [len_one] at this
    rw [this]
    by_cases h1 : 0 ≤ h ∧ h ≤ 1000 <;> simp [inK, h1]
theorem spec_clock_f (l : List Int) (hl : l.length ≤ 1048576) (k : Nat) (hk : l.length < k) : spec_l7Clock.f k l = some (clock l) := by
  unfold spec_l7Clock.f
  exact spec_clock_l0 l hl l [] k rfl hk
theorem impl_are_l0 (a b : List Int) (hl : a.length ≤ 1048576) : ∀ (ra rb pa pb : List Int) (k : Nat), pa ++ ra = a → pb ++ rb = b → pa.length = pb.length → ra.length = rb.length → ra.length < k →
    impl_areClocks.l0 k b a (a.length : Int) (pa.length : Int) = some (ra.all inK && rb.all inK) := by
  intro ra
  induction ra with
  | nil =>
    intro rb pa pb k ea eb hp hr hk
    obtain ⟨k, rfl⟩ := round hk
    have := len_end ea
    obtain rfl : rb = [] := List.length_eq_zero_iff.1 hr.symm
    simp only [impl_areClocks.l0]
    rw [if_neg (by omega)]
    rfl
  | cons x ta ih =>
    intro rb pa pb k ea eb hp hr hk
    obtain ⟨k, rfl⟩ := round hk
    match rb, hr with
    | y :: tb, hr =>
    have hlt := len_mid ea
    have hltb := len_mid eb
    have e2 : rd b (pa.length : Int) = y := by rw [hp]; exact rd_at eb
    have := ih tb (pa ++ [x]) (pb ++ [y]) k (app_mid ea) (app_mid eb) (by simpa using hp) (by simpa using hr) (by simpa using hk)
    rw [len_one] at this
    simp only [impl_areClocks.l0]
    rw [if_pos (by omega), if_pos (by omega), if_pos (by omega), rd_at ea, e2, wrap_len hlt (by omega), in_f, in_f, this]
    simp only [Option.bind_some]
    by_cases hx : 0 ≤ x ∧ x ≤ 1000
    · rw [if_pos (by simpa using hx), if_pos (by omega)]
      by_cases hy : 0 ≤ y ∧ y ≤ 1000
      · rw [if_pos (by simpa using hy)]; simp [inK, hx, hy]
      · rw [if_neg (by simpa using hy)]; simp [inK, hy]
    · rw [if_neg (by simpa using hx)]; simp [inK, hx]
theorem impl_are_f (a b : List Int) (hl : a.length ≤ 1048576) (k : Nat) (hk : a.length + 1 < k) : impl_areClocks.f k a b = some (clocks a b) := by
  unfold impl_areClocks.f
  obtain ⟨k, rfl⟩ := round hk
  by_cases he : a.length = b.length
  · rw [if_pos (by omega), in_f]
    simp only [Option.bind_some, impl_areClocks.j0]
    by_cases h1 : 1 ≤ a.length ∧ a.length ≤ 5
    · have := impl_are_l0 a b hl a b [] [] k rfl rfl rfl he (by omega)
      simp only [List.length_nil] at this
      rw [if_neg (by simp; omega), show (0 : Int) = ((0 : Nat) : Int) from rfl, this]
      have h2 : 1 ≤ b.length ∧ b.length ≤ 5 := by omega
      simp [clocks, clock, h2, he]
    · rw [if_pos (by simp; omega)]
      have : clock a = false := by simp [clock, h1]
      simp [clocks, this]
  · rw [if_neg (by omega)]
    simp only [impl_areClocks.j0, if_true]
    simp [clocks, he]

/-- The greater one at each place. -/
def joinL : List Int → List Int → List Int
  | a :: ta, b :: tb => mx a b :: joinL ta tb
  | _, _ => []
theorem joinL_length : ∀ (a b : List Int), a.length = b.length → (joinL a b).length = a.length
  | [], [], _ => rfl
  | a :: ta, b :: tb, h => by simp [joinL, joinL_length ta tb (by simpa using h)]
def joinClocks (a b : List Int) : List Int × Bool := if clocks a b = true then (joinL a b, true) else ([], false)
theorem joinClocks_length (a b : List Int) : (joinClocks a b).1.length ≤ 5 := by
  unfold joinClocks
  by_cases h : clocks a b = true
  · rw [if_pos h]
    obtain ⟨h1, h2, h3⟩ := clocks_iff.1 h
    have := clock_len h1
    show (joinL a b).length ≤ 5
    rw [joinL_length a b h3]
    omega
  · rw [if_neg h]; simp
theorem spec_join_l0 (b : List Int) (hl : b.length ≤ 1048576) : ∀ (rb ra pb out : List Int) (k : Nat), pb ++ rb = b → out.length = pb.length → ra.length = rb.length → rb.length < k →
    spec_l7Join.l0 k (out ++ ra) b (b.length : Int) (pb.length : Int) = some (out ++ joinL ra rb) := by
  intro rb
  induction rb with
  | nil =>
    intro ra pb out k eb ho hr hk
    obtain ⟨k, rfl⟩ := round hk
    have := len_end eb
    obtain rfl : ra = [] := List.length_eq_zero_iff.1 hr
    simp only [spec_l7Join.l0]
    rw [if_neg (by omega)]
    rfl
  | cons y tb ih =>
    intro ra pb out k eb ho hr hk
    obtain ⟨k, rfl⟩ := round hk
    match ra, hr with
    | x :: ta, hr =>
    have hlt := len_mid eb
    have e2 : rd (out ++ x :: ta) (pb.length : Int) = x := by rw [← ho]; exact rd_mid out x ta
    have := ih ta (pb ++ [y]) (out ++ [mx x y]) k (app_mid eb) (by simp [ho]) (by simpa using hr) (by simpa using hk)
    rw [len_one] at this
    simp only [spec_l7Join.l0]
    rw [if_pos (by omega), if_pos (by omega), if_pos (by omega), if_pos (by simp; omega), rd_at eb, e2, wrap_len hlt (by omega), Int.toNat_natCast]
    by_cases h : y > x
    · have hs : (out ++ x :: ta).set pb.length y = (out ++ [mx x y]) ++ ta := by
        rw [← ho]; simp [mx]; omega
      rw [if_pos h, hs, this]
      simp [joinL]
    · have hs : out ++ x :: ta = (out ++ [mx x y]) ++ ta := by
        simp [mx]; omega
      rw [if_neg h, hs, this]
      simp [joinL]
theorem spec_join_f (a b : List Int) (hl : a.length ≤ 1048576) (he : a.length = b.length) (k : Nat) (hk : a.length < k) : spec_l7Join.f k a b = some (joinL a b) := by
  unfold spec_l7Join.f
  simp only [Option.bind_some, List.nil_append, List.length_nil]
  rw [if_pos (by omega)]
  exact spec_join_l0 b (by omega) b a [] [] k rfl rfl he (by omega)
theorem spec_joinClocks_f (a b : List Int) (hl : a.length ≤ 1048576) (hlb : b.length ≤ 1048576) (k : Nat) (hk : a.length + b.length + 1 < k) : spec_JoinClocks.f k a b = some (joinClocks a b) := by
  unfold spec_JoinClocks.f joinClocks
  rw [spec_clock_f a hl k (by omega), spec_clock_f b hlb k (by omega)]
  simp only [Option.bind_some]
  by_cases h1 : clock a = true
  · by_cases h2 : clock b = true
    · by_cases he : a.length = b.length
      · rw [if_pos h1, if_pos h2, if_pos (by omega), spec_join_f a b hl he k (by omega), if_pos (clocks_iff.2 ⟨h1, h2, he⟩)]; rfl
      · rw [if_pos h1, if_pos h2, if_neg (by omega), if_neg (fun h => he (clocks_iff.1 h).2.2)]
    · rw [if_pos h1, if_neg h2, if_neg (fun h => h2 (clocks_iff.1 h).2.1)]
  · rw [if_neg h1, if_neg (fun h => h1 (clocks_iff.1 h).1)]
theorem impl_join_l0 (a b : List Int) (hl : a.length ≤ 1048576) : ∀ (ra rb pa pb out : List Int) (k : Nat), pa ++ ra = a → pb ++ rb = b → pa.length = pb.length → out.length = pa.length → ra.length = rb.length → ra.length < k →
    impl_JoinClocks.l0 k b out a (a.length : Int) (pa.length : Int) = some (out ++ joinL ra rb, true) := by
  intro ra
  induction ra with
  | nil =>
    intro rb pa pb out k ea eb hp ho hr hk
    obtain ⟨k, rfl⟩ := round hk
    have := len_end ea
    simp only [impl_JoinClocks.l0]
    rw [if_neg (by omega)]
    simp [joinL]
  | cons x ta ih =>
    intro rb pa pb out k ea eb hp ho hr hk
    obtain ⟨k, rfl⟩ := round hk
    match rb, hr with
    | y :: tb, hr =>
    have hlt := len_mid ea
    have hltb := len_mid eb
    have e2 : rd b (pa.length : Int) = y := by rw [hp]; exact rd_at eb
    have := ih tb (pa ++ [x]) (pb ++ [y]) (out ++ [mx x y]) k (app_mid ea) (app_mid eb) (by simpa using hp) (by simp [ho]) (by simpa using hr) (by simpa using hk)
    rw [len_one] at this
    simp only [impl_JoinClocks.l0]
    rw [if_pos (by omega), if_pos (by omega), if_pos (by omega), if_pos (by omega), if_pos (by omega), rd_at ea, e2, wrap_len hlt (by omega), this]
    simp [joinL]
theorem impl_joinClocks_f (a b : List Int) (hl : a.length ≤ 1048576) (hlb : b.length ≤ 1048576) (k : Nat) (hk : a.length + b.length + 1 < k) : impl_JoinClocks.f k a b = some (joinClocks a b) := by
  unfold impl_JoinClocks.f joinClocks
  rw [impl_are_f a b hl k (by omega)]
  simp only [Option.bind_some]
  by_cases h : clocks a b = true
  · have := impl_join_l0 a b hl a b [] [] [] k rfl rfl rfl rfl (clocks_iff.1 h).2.2 (by omega)
    simp only [List.length_nil, List.nil_append] at this
    rw [if_pos h, if_pos h, show (0 : Int) = ((0 : Nat) : Int) from rfl, this]
  · rw [if_neg h, if_neg h]

def lessB : List Int → List Int → Bool
  | a :: ta, b :: tb => decide (a < b) || lessB ta tb
  | _, _ => false
def moreB : List Int → List Int → Bool
  | a :: ta, b :: tb => decide (a > b) || moreB ta tb
  | _, _ => false
def verdict (less more : Bool) : Int := if less = true ∧ more = true then 2 else if less = true then -1 else if more = true then 1 else 0
def compareClocks (a b : List Int) : Int × Bool := if clocks a b = true then (verdict (lessB a b) (moreB a b), true) else (0, false)
theorem spec_compare_l0 (a b : List Int) (hl : a.length ≤ 1048576) : ∀ (ra rb pa pb : List Int) (le mo : Bool) (k : Nat), pa ++ ra = a → pb ++ rb = b → pa.length = pb.length → ra.length = rb.length → ra.length + 1 < k →
    spec_l7Compare.l0 k a b le mo (a.length : Int) (pa.length : Int) = some (verdict (le || lessB ra rb) (mo || moreB ra rb)) := by
  intro ra
  induction ra with
  | nil =>
    intro rb pa pb le mo k ea eb hp hr hk
    obtain ⟨k, rfl⟩ := round hk
    obtain ⟨k, rfl⟩ : ∃ m, k = m + 1 := ⟨k - 1, by simp at hk; omega⟩
    have := len_end ea
    simp only [spec_l7Compare.l0]
    rw [if_neg (by omega)]
    cases le <;> cases mo <;> simp [spec_l7Compare.j1, verdict, lessB, moreB]
  | cons x ta ih =>
    intro rb pa pb le mo k ea eb hp hr hk
    obtain ⟨k, rfl⟩ := round hk
    match rb, hr with
    | y :: tb, hr =>
    have hlt := len_mid ea
    have hltb := len_mid eb
    have e2 : rd b (pa.length : Int) = y := by rw [hp]; exact rd_at eb
    have := fun le mo => ih tb (pa ++ [x]) (pb ++ [y]) le mo k (app_mid ea) (app_mid eb) (by simpa using hp) (by simpa using hr) (by simpa using hk)
    rw [len_one] at this
    simp only [spec_l7Compare.l0]
    rw [if_pos (by omega), wrap_len hlt (by omega), rd_at ea, e2]
    have g1 : (0 : Int) ≤ (pa.length : Int) := by omega
    have g2 : (pa.length : Int) < (a.length : Int) := by omega
    have g3 : (pa.length : Int) < (b.length : Int) := by omega
    cases le <;> cases mo <;> simp only [if_pos g1, if_pos g2, if_pos g3, this, if_true, Bool.false_eq_true, if_false, lessB, moreB, Bool.true_or, Bool.false_or]
theorem spec_compare_f (a b : List Int) (hl : a.length ≤ 1048576) (he : a.length = b.length) (k : Nat) (hk : a.length + 1 < k) : spec_l7Compare.f k a b = some (verdict (lessB a b) (moreB a b)) := by
  unfold spec_l7Compare.f
  have := spec_compare_l0 a b hl a b [] [] false false k rfl rfl rfl he hk
  simpa using this
theorem impl_compare_l0 (a b : List Int) (hl : a.length ≤ 1048576) : ∀ (ra rb pa pb : List Int) (le mo : Bool) (k : Nat), pa ++ ra = a → pb ++ rb = b → pa.length = pb.length → ra.length = rb.length → ra.length + 1 < k →
    impl_CompareClocks.l0 k b le mo a (a.length : Int) (pa.length : Int) = some (verdict (le || lessB ra rb) (mo || moreB ra rb), true) := by
  intro ra
  induction ra with
  | nil =>
    intro rb pa pb le mo k ea eb hp hr hk
    obtain ⟨k, rfl⟩ := round hk
    obtain ⟨k, rfl⟩ : ∃ m, k = m + 1 := ⟨k - 1, by simp at hk; omega⟩
    have := len_end ea
    simp only [impl_CompareClocks.l0]
    rw [if_neg (by omega)]
    cases le <;> cases mo <;> simp [impl_CompareClocks.j1, verdict, lessB, moreB]
  | cons x ta ih =>
    intro rb pa pb le mo k ea eb hp hr hk
    obtain ⟨k, rfl⟩ := round hk
    match rb, hr with
    | y :: tb, hr =>
    have hlt := len_mid ea
    have hltb := len_mid eb
    have e2 : rd b (pa.length : Int) = y := by rw [hp]; exact rd_at eb
    have := fun le mo => ih tb (pa ++ [x]) (pb ++ [y]) le mo k (app_mid ea) (app_mid eb) (by simpa using hp) (by simpa using hr) (by simpa using hk)
    rw [len_one] at this
    simp only [impl_CompareClocks.l0]
    rw [if_pos (by omega), wrap_len hlt (by omega), rd_at ea, e2]
    have g1 : (0 : Int) ≤ (pa.length : Int) := by omega
    have g2 : (pa.length : Int) < (a.length : Int) := by omega
    have g3 : (pa.length : Int) < (b.length : Int) := by omega
    cases le <;> cases mo <;> simp only [if_pos g1, if_pos g2, if_pos g3, this, if_true, Bool.false_eq_true, if_false, lessB, moreB, Bool.true_or, Bool.false_or]
theorem spec_compareClocks_f (a b : List Int) (hl : a.length ≤ 1048576) (hlb : b.length ≤ 1048576) (k : Nat) (hk : a.length + b.length + 1 < k) : spec_CompareClocks.f k a b = some (compareClocks a b) := by
  unfold spec_CompareClocks.f compareClocks
  rw [spec_clock_f a hl k (by omega), spec_clock_f b hlb k (by omega)]
  simp only [Option.bind_some]
  by_cases h1 : clock a = true
  · by_cases h2 : clock b = true
    · by_cases he : a.length = b.length
      · rw [if_pos h1, if_pos h2, if_pos (by omega), spec_compare_f a b hl he k (by omega), if_pos (clocks_iff.2 ⟨h1, h2, he⟩)]; rfl
      · rw [if_pos h1, if_pos h2, if_neg (by omega), if_neg (fun h => he (clocks_iff.1 h).2.2)]
    · rw [if_pos h1, if_neg h2, if_neg (fun h => h2 (clocks_iff.1 h).2.1)]
  · rw [if_neg h1, if_neg (fun h => h1 (clocks_iff.1 h).1)]
theorem impl_compareClocks_f (a b : List Int) (hl : a.length ≤ 1048576) (hlb : b.length ≤ 1048576) (k : Nat) (hk : a.length + b.length + 1 < k) : impl_CompareClocks.f k a b = some (compareClocks a b) := by
  unfold impl_CompareClocks.f compareClocks
  rw [impl_are_f a b hl k (by omega)]
  simp only [Option.bind_some]
  by_cases h : clocks a b = true
  · have := impl_compare_l0 a b hl a b [] [] false false k rfl rfl rfl (clocks_iff.1 h).2.2 (by omega)
    simp only [List.length_nil, Bool.false_or] at this
    rw [if_pos h, if_pos h, show (0 : Int) = ((0 : Nat) : Int) from rfl, this]
  · rw [if_neg h, if_neg h]
end Go.Proofs.Ytphmplmeofledaa.Clocks
