/- Plain lemmas on lists, whole numbers and rounds, for the pure statements of this seat. -/
import Derived.Test.YtinbfclfglogmaaWNEv
import Derived.Test.YtinbfclfglogmaaWMore
namespace Go.Proofs.Ytinbfclfglogmaa.Pl
open Go.RowKit Go.Proofs.YtinbfclfglogmaaW.PrintWords Go.Proofs.YtinbfclfglogmaaW.PrintLast Go.Proofs.YtinbfclfglogmaaW.PrintMore

theorem wrap_in {x : Int} (h0 : -9223372036854775808 ≤ x) (h1 : x ≤ 9223372036854775807) : wrap64 x = x := by
  unfold wrap64
  omega
theorem wrap_len {n m : Nat} (h : n < m) (hm : m ≤ 4611686018427387904) : wrap64 ((n : Int) + 1) = ((n + 1 : Nat) : Int) := by
  rw [wrap_in (by omega) (by omega)]
  omega
theorem wf_i64 {x : Int} (h : (Lit.int .i64 x).wf = true) : -9223372036854775808 ≤ x ∧ x ≤ 9223372036854775807 := by
  have e0 : IntKind.i64.min = -9223372036854775808 := rfl
  have e1 : IntKind.i64.max = 9223372036854775807 := rfl
  simp [Lit.wf, e0, e1] at h
  omega
theorem round {k d : Nat} (h : d < k) : ∃ m, k = m + 1 := ⟨k - 1, by omega⟩
theorem rd_mid (pre : List Int) (h : Int) (t : List Int) : rd (pre ++ h :: t) (pre.length : Int) = h := by
  simp [rd]
theorem rd_at {pre t l : List Int} {h : Int} (e : pre ++ h :: t = l) : rd l (pre.length : Int) = h := by
  rw [← e]; exact rd_mid pre h t
theorem len_mid {α : Type} {pre t : List α} {h : α} {l : List α} (e : pre ++ h :: t = l) : pre.length < l.length := by
  rw [← e]; simp
theorem len_end {α : Type} {pre l : List α} (e : pre ++ [] = l) : pre.length = l.length := by
  rw [← e]; simp
theorem app_mid {α : Type} {pre t : List α} {h : α} {l : List α} (e : pre ++ h :: t = l) : (pre ++ [h]) ++ t = l := by
  rw [← e]; simp
theorem len_one {α : Type} (pre : List α) (h : α) : (pre ++ [h]).length = pre.length + 1 := by simp
theorem rd_last {pre rest l : List Int} {p : Int} (e : pre ++ rest = l) (h : pre.getLast? = some p) : 0 < pre.length ∧ rd l ((pre.length : Int) - 1) = p := by
  obtain ⟨q, rfl⟩ := List.getLast?_eq_some_iff.1 h
  refine ⟨by simp, ?_⟩
  have h2 : q ++ [p] ++ rest = q ++ p :: rest := by simp
  rw [← e, h2, len_one, show (((q.length + 1 : Nat) : Int) - 1) = (q.length : Int) by omega]
  exact rd_mid q p rest
theorem no_last {α : Type} {pre : List α} (h : pre.getLast? = none) : pre = [] := by
  simpa using h
/-- Numbers in a row: what marks a list. -/
def marks : Nat → Int → List Int
  | 0, _ => []
  | n + 1, m => m :: marks n (m + 1)
theorem marks_length : ∀ (n : Nat) (m : Int), (marks n m).length = n
  | 0, _ => rfl
  | n + 1, m => by simp [marks, marks_length n]
/-- Where the first one stands of which p holds, -1 for none. -/
def firstAt {α : Type} (p : α → Bool) : List α → Int → Int
  | [], _ => -1
  | h :: t, b => if p h = true then b else firstAt p t (b + 1)
theorem firstAt_any {α : Type} (p : α → Bool) : ∀ (l : List α) (b : Int), 0 ≤ b → decide (firstAt p l b ≥ 0) = l.any p
  | [], b, _ => by simp [firstAt]
  | h :: t, b, hb => by
    unfold firstAt
    by_cases hh : p h = true
    · rw [if_pos hh]; simp [hh, hb]
    · rw [if_neg hh, firstAt_any p t (b + 1) (by omega)]; simp [hh]
/-- One step of a chain. -/
theorem bnd {α β : Type} {o : Option α} {a : α} {f : α → Option β} {r : Option β} (h : o = some a) (h2 : f a = r) : o.bind f = r := by
  rw [h]; exact h2
theorem yes_ {α : Type} {c : Prop} [Decidable c] {x y r : α} (h : c) (h2 : x = r) : (if c then x else y) = r := by
  rw [if_pos h]; exact h2
theorem no_ {α : Type} {c : Prop} [Decidable c] {x y r : α} (h : ¬ c) (h2 : y = r) : (if c then x else y) = r := by
  rw [if_neg h]; exact h2
end Go.Proofs.Ytinbfclfglogmaa.Pl
