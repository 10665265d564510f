/- Entries of logs: what the tests of logs and 'up to date' come to in both programs. -/
import Derived.Test.YtphmplmeofledaaPx2
import Derived.Test.YtphmplmeofledaaPx3
import Derived.Test.YtphmplmeofledaaBase
namespace Go.Proofs.Ytphmplmeofledaa.Entries
open Go.RowKit Go.Proofs.Ytphmplmeofledaa.P Go.Proofs.YtphmplmeofledaaW.PrintWords Go.Proofs.YtphmplmeofledaaW.PrintLast Go.Proofs.YtphmplmeofledaaW.PrintMore
open Go.Proofs.Ytphmplmeofledaa.Pl Go.Proofs.Ytphmplmeofledaa.Base

def inE (n : Int) : Bool := decide (0 ≤ n ∧ n ≤ 100)
/-- Each one is a term, and none falls; p: the one ahead, if there is one. -/
def chk : Option Int → List Int → Bool
  | _, [] => true
  | none, h :: t => inE h && chk (some h) t
  | some p, h :: t => inE h && decide (p ≤ h) && chk (some h) t
def entries (l : List Int) : Bool := chk none l && decide (l.length ≤ 30)
theorem spec_l0 (l : List Int) (hl : l.length ≤ 1048576) : ∀ (rest pre : List Int) (k : Nat), pre ++ rest = l → rest.length < k →
    spec_GoodEntries.l0 k l l (l.length : Int) (pre.length : Int) = some (chk pre.getLast? rest && decide (l.length ≤ 30)) := by
  intro rest
  induction rest with
  | nil =>
    intro pre k e hk
    obtain ⟨k, rfl⟩ := round hk
    have := len_end e
    simp only [spec_GoodEntries.l0]
    rw [if_neg (by omega)]
    cases pre.getLast? <;> simp [chk] <;> omega
  | cons h t ih =>
    intro pre k e hk
    obtain ⟨k, rfl⟩ := round hk
    have hlt := len_mid e
    have := ih (pre ++ [h]) k (app_mid e) (by simpa using hk)
    rw [len_one, List.getLast?_concat] at this
    simp only [spec_GoodEntries.l0]
    rw [if_pos (by omega), if_pos (by omega), if_pos (by omega), rd_at e, wrap_len hlt (by omega), l1In_f]
    simp only [Option.bind_some]
    by_cases h1 : 0 ≤ h ∧ h ≤ 100
    · rw [if_pos (by simpa using h1)]
      cases hp : pre.getLast? with
      | none =>
        obtain rfl := no_last hp
        rw [if_neg (by simp), this]
        simp [chk, inE, h1]
      | some p =>
        obtain ⟨h0, e2⟩ := rd_last e hp
        rw [if_pos (by omega), wrap_in (by omega) (by omega), if_pos (by omega), if_pos (by omega), e2]
        by_cases h2 : p > h
        · rw [if_pos h2]; simp [chk]; omega
        · rw [if_neg h2, this]
          have h3 : p ≤ h := by omega
          simp [chk, inE, h1, h3]
    · rw [if_neg (by simpa using h1)]
      cases pre.getLast? <;> simp [chk, inE, h1]
theorem spec_f (l : List Int) (hl : l.length ≤ 1048576) (k : Nat) (hk : l.length < k) : spec_GoodEntries.f k l = some (entries l) := by
  unfold spec_GoodEntries.f
  exact spec_l0 l hl l [] k rfl hk
theorem impl_l0 (l : List Int) (hl : l.length ≤ 1048576) : ∀ (rest pre : List Int) (k : Nat), pre ++ rest = l → rest.length < k →
    impl_areEntries.l0 k l l (l.length : Int) (pre.length : Int) = some (chk pre.getLast? rest && decide (l.length ≤ 30)) := by
  intro rest
  induction rest with
  | nil =>
    intro pre k e hk
    obtain ⟨k, rfl⟩ := round hk
    have := len_end e
    simp only [impl_areEntries.l0]
    rw [if_neg (by omega)]
    cases pre.getLast? <;> simp [chk] <;> omega
  | cons h t ih =>
    intro pre k e hk
    obtain ⟨k, rfl⟩ := round hk
    have hlt := len_mid e
    have := ih (pre ++ [h]) k (app_mid e) (by simpa using hk)
    rw [len_one, List.getLast?_concat] at this
    simp only [impl_areEntries.l0]
    rw [if_pos (by omega), if_pos (by omega), if_pos (by omega), rd_at e, wrap_len hlt (by omega), in_f]
    simp only [Option.bind_some]
    by_cases h1 : 0 ≤ h ∧ h ≤ 100
    · rw [if_pos (by simpa using h1)]
      cases hp : pre.getLast? with
      | none =>
        obtain rfl := no_last hp
        rw [if_neg (by simp), this]
        simp [chk, inE, h1]
      | some p =>
        obtain ⟨h0, e2⟩ := rd_last e hp
        rw [if_pos (by omega), wrap_in (by omega) (by omega), if_pos (by omega), if_pos (by omega), e2]
        by_cases h2 : p > h
        · rw [if_pos h2]; simp [chk]; omega
        · rw [if_neg h2, this]
          have h3 : p ≤ h := by omega
          simp [chk, inE, h1, h3]
    · rw [if_neg (by simpa using h1)]
      cases pre.getLast? <;> simp [chk, inE, h1]
theorem impl_f (l : List Int) (hl : l.length ≤ 1048576) (k : Nat) (hk : l.length < k) : impl_areEntries.f k l = some (entries l) := by
  unfold impl_areEntries.f
  exact impl_l0 l hl l [] k rfl hk
/-- The last one, -1 for none. -/
def last (l : List Int) : Int := if l.length = 0 then -1 else rd l ((l.length : Int) - 1)
theorem spec_last_f (l : List Int) (hl : l.length ≤ 1048576) : spec_l9Last.f l = some (last l) := by
  unfold spec_l9Last.f last
  by_cases h : l.length = 0
  · rw [if_pos (by omega), if_pos h]
  · rw [if_neg (by omega), if_neg h, wrap_in (by omega) (by omega), if_pos (by omega), if_pos (by omega)]
theorem impl_last_f (l : List Int) (hl : l.length ≤ 1048576) : impl_lastOf.f l = some (last l) := by
  unfold impl_lastOf.f last
  by_cases h : l.length = 0
  · rw [if_pos (by omega), if_pos h]
  · rw [if_neg (by omega), if_neg h, wrap_in (by omega) (by omega), if_pos (by omega), if_pos (by omega)]
def upTo (a n : Int) (l : List Int) : Bool := decide (a > last l ∨ (a = last l ∧ n ≥ (l.length : Int)))
theorem spec_up_f (a n : Int) (l : List Int) (hl : l.length ≤ 1048576) : spec_l9Up.f a n l = some (upTo a n l) := by
  unfold spec_l9Up.f upTo
  rw [spec_last_f l hl]
  simp only [Option.bind_some]
  by_cases h1 : a > last l
  · rw [if_pos h1]; simp [h1]
  · by_cases h2 : a = last l
    · rw [if_neg h1, if_pos h2]; simp [h2]
    · rw [if_neg h1, if_neg h2]; simp [h1, h2]
theorem impl_up_f (a n : Int) (l : List Int) (hl : l.length ≤ 1048576) : impl_upToDate.f a n l = some (upTo a n l) := by
  unfold impl_upToDate.f upTo
  rw [impl_last_f l hl]
  simp only [Option.bind_some]
  by_cases h1 : a > last l
  · rw [if_pos h1]; simp [h1]
  · by_cases h2 : a = last l
    · rw [if_neg h1, if_pos h2]; simp [h2]
    · rw [if_neg h1, if_neg h2]; simp [h1, h2]
end Go.Proofs.Ytphmplmeofledaa.Entries
