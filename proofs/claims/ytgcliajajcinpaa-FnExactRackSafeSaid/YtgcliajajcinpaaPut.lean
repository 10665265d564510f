/- Put: a number put to its place in a rising list, once. -/
import Derived.Test.YtgcliajajcinpaaPx17
import Derived.Test.YtgcliajajcinpaaLp
namespace Go.Proofs.Ytgcliajajcinpaa.Put
open Go.RowKit Go.Proofs.Ytgcliajajcinpaa.P Go.Proofs.YtgcliajajcinpaaW.PrintWords Go.Proofs.YtgcliajajcinpaaW.PrintLast Go.Proofs.YtgcliajajcinpaaW.PrintMore
open Go.Proofs.Ytgcliajajcinpaa.Pl Go.Proofs.Ytgcliajajcinpaa.EvN Go.Proofs.Ytgcliajajcinpaa.Lp
set_option linter.unusedSimpArgs false
set_option linter.unusedVariables false

def putL : List Int → Int → List Int
  | [], n => [n]
  | h :: t, n => if h < n then h :: putL t n else if h = n then h :: t else n :: h :: t
def Inc (l : List Int) : Prop := l.Pairwise (· < ·)
theorem mem_put (x n : Int) : ∀ l : List Int, x ∈ putL l n ↔ x = n ∨ x ∈ l
  | [] => by simp [putL]
  | h :: t => by
    unfold putL
    by_cases c : h < n
    · rw [if_pos c]
      simp only [List.mem_cons, mem_put x n t]
      constructor
      · rintro (h1 | h1 | h1)
        · exact .inr (.inl h1)
        · exact .inl h1
        · exact .inr (.inr h1)
      · rintro (h1 | h1 | h1)
        · exact .inr (.inl h1)
        · exact .inl h1
        · exact .inr (.inr h1)
    · rw [if_neg c]
      by_cases c2 : h = n
      · rw [if_pos c2]
        subst c2
        simp
      · rw [if_neg c2]
        simp
theorem put_inc (n : Int) : ∀ l : List Int, Inc l → Inc (putL l n)
  | [], _ => by simp [putL, Inc]
  | h :: t, hi => by
    have hi2 := List.pairwise_cons.1 hi
    unfold putL
    by_cases c : h < n
    · rw [if_pos c]
      refine List.pairwise_cons.2 ⟨fun x hx => ?_, put_inc n t hi2.2⟩
      rcases (mem_put x n t).1 hx with rfl | hx
      · exact c
      · exact hi2.1 x hx
    · rw [if_neg c]
      by_cases c2 : h = n
      · rw [if_pos c2]; exact hi
      · rw [if_neg c2]
        refine List.pairwise_cons.2 ⟨fun x hx => ?_, hi⟩
        rcases List.mem_cons.1 hx with rfl | hx
        · omega
        · have := hi2.1 x hx
          omega
theorem put_len (n : Int) : ∀ l : List Int, Inc l → (putL l n).length = if n ∈ l then l.length else l.length + 1
  | [], _ => by simp [putL]
  | h :: t, hi => by
    have hi2 := List.pairwise_cons.1 hi
    unfold putL
    by_cases c : h < n
    · rw [if_pos c, List.length_cons, put_len n t hi2.2]
      have : ¬ n = h := by omega
      by_cases c3 : n ∈ t
      · rw [if_pos c3, if_pos (by simp [c3])]; simp
      · rw [if_neg c3, if_neg (by simp [this, c3])]; simp
    · rw [if_neg c]
      by_cases c2 : h = n
      · rw [if_pos c2, if_pos (by simp [c2])]
      · rw [if_neg c2, if_neg ?_]
        · simp
        · intro hm
          rcases List.mem_cons.1 hm with hm | hm
          · exact c2 hm.symm
          · have := hi2.1 n hm
            omega
theorem put_le (n : Int) : ∀ l : List Int, (putL l n).length ≤ l.length + 1
  | [] => by simp [putL]
  | h :: t => by
    have := put_le n t
    unfold putL
    by_cases c : h < n
    · rw [if_pos c]; simp only [List.length_cons]; omega
    · rw [if_neg c]
      by_cases c2 : h = n
      · rw [if_pos c2]; simp
      · rw [if_neg c2]; simp
/-- A list put together number by number. -/
def putAll (s l : List Int) : List Int := l.foldl putL s
theorem putAll_inc : ∀ (l s : List Int), Inc s → Inc (putAll s l)
  | [], s, h => h
  | x :: t, s, h => putAll_inc t (putL s x) (put_inc x s h)
theorem mem_putAll (x : Int) : ∀ (l s : List Int), x ∈ putAll s l ↔ x ∈ s ∨ x ∈ l
  | [], s => by simp [putAll]
  | y :: t, s => by
    have := mem_putAll x t (putL s y)
    show x ∈ putAll (putL s y) t ↔ _
    rw [this, mem_put]
    simp only [List.mem_cons]
    constructor
    · rintro ((h | h) | h)
      · exact .inr (.inl h)
      · exact .inl h
      · exact .inr (.inr h)
    · rintro (h | h | h)
      · exact .inl (.inr h)
      · exact .inl (.inl h)
      · exact .inr h
theorem putAll_le : ∀ (l s : List Int), (putAll s l).length ≤ s.length + l.length
  | [], s => by simp [putAll]
  | y :: t, s => by
    have h1 := putAll_le t (putL s y)
    have h2 := put_le y s
    show (putAll (putL s y) t).length ≤ _
    simp only [List.length_cons]
    omega
theorem put_f (l : List Int) (n : Int) (hl : l.length ≤ 1048576) : Cm (fun k => spec_l1Put.f k l n) (putL l n) := by
  unfold spec_l1Put.f
  have key : ∀ (rest pre : List Int), pre ++ rest = l → Cm (fun k => spec_l1Put.l0 k l n (pre.length : Int)) (pre ++ putL rest n) := by
    intro rest
    induction rest with
    | nil =>
      intro pre e
      have h1 := len_end e
      have h2 : l.take ((pre.length : Int)).toNat = pre := take_at e
      have h3 : l.drop ((pre.length : Int)).toNat = [] := by rw [← e]; simp
      refine cm_step (fun k => by rw [spec_l1Put.l0]) ?_
      rw [h2, h3]
      refine cm_no (by omega) (cm_yes (by omega) (cm_yes (by omega) (cm_bind (cm_now fun _ => rfl) (cm_yes (by simp; omega) (cm_bind (cm_now fun _ => rfl) (cm_yes (by simp; omega) (cm_bind (cm_now fun _ => rfl) (cm_bind (cm_now fun _ => rfl) (cm_yes (by simp; omega) (cm_now fun _ => ?_))))))))))
      simp [putL]
    | cons h t ih =>
      intro pre e
      have hlt := len_mid e
      have h2 : l.take ((pre.length : Int)).toNat = pre := take_at e
      have h3 : l.drop ((pre.length : Int)).toNat = h :: t := by rw [← e]; simp
      have h4 := congrArg List.length e
      simp only [List.length_append, List.length_cons] at h4
      have ih2 := ih (pre ++ [h]) (app_mid e)
      rw [len_one] at ih2
      refine cm_step (fun k => by rw [spec_l1Put.l0]) ?_
      simp only [rd_at e, wrap_len hlt (show l.length ≤ 4611686018427387904 by omega)]
      rw [h2, h3]
      refine cm_yes (by omega) (cm_yes (by omega) ?_)
      by_cases c : h < n
      · have e1 : putL (h :: t) n = h :: putL t n := by rw [putL, if_pos c]
        rw [e1]
        refine cm_yes c (cm_val ih2 (by simp))
      · by_cases c2 : h = n
        · have e1 : putL (h :: t) n = h :: t := by rw [putL, if_neg c, if_pos c2]
          rw [e1, e]
          refine cm_no c (cm_yes c2 (cm_now fun _ => rfl))
        · have e1 : putL (h :: t) n = n :: h :: t := by rw [putL, if_neg c, if_neg c2]
          rw [e1]
          refine cm_no c (cm_no c2 (cm_yes (by omega) (cm_bind (cm_now fun _ => rfl) (cm_yes (by simp; omega) (cm_bind (cm_now fun _ => rfl) (cm_yes (by simp; omega) (cm_bind (cm_now fun _ => rfl) (cm_bind (cm_now fun _ => rfl) (cm_yes (by simp; omega) (cm_now fun _ => ?_))))))))))
          simp
  exact key l [] rfl
end Go.Proofs.Ytgcliajajcinpaa.Put
