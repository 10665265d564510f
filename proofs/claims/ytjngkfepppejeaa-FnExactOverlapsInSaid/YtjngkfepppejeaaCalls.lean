/- Calls: which calls are good ones: what both programs come to. -/
import Derived.Test.YtjngkfepppejeaaPx1
import Derived.Test.YtjngkfepppejeaaPx2
import Derived.Test.YtjngkfepppejeaaPx3
import Derived.Test.YtjngkfepppejeaaPx4
import Derived.Test.YtjngkfepppejeaaEv
namespace Go.Proofs.Ytjngkfepppejeaa.Calls
open Go.RowKit Go.Proofs.Ytjngkfepppejeaa.P Go.Proofs.YtjngkfepppejeaaW.PrintWords Go.Proofs.YtjngkfepppejeaaW.PrintLast Go.Proofs.YtjngkfepppejeaaW.PrintMore
open Go.Proofs.Ytjngkfepppejeaa.Pl Go.Proofs.Ytjngkfepppejeaa.EvN
set_option linter.unusedSimpArgs false
set_option linter.unusedVariables false

theorem in_f (a b c : Int) : impl_in.f a b c = some (decide (b ≤ a ∧ a ≤ c)) := by
  unfold impl_in.f
  by_cases h : a ≥ b
  · rw [if_pos h]; congr 1; rw [decide_eq_decide]; omega
  · rw [if_neg h]; congr 1; symm; rw [decide_eq_false_iff_not]; omega
theorem l1In_f (a b c : Int) : spec_l1In.f a b c = some (decide (b ≤ a ∧ a ≤ c)) := by
  unfold spec_l1In.f
  by_cases h : a ≥ b
  · rw [if_pos h]; congr 1; rw [decide_eq_decide]; omega
  · rw [if_neg h]; congr 1; symm; rw [decide_eq_false_iff_not]; omega
/-- The same call, as a value of the other type. -/
def conv (x : S75) : S72 := ⟨x.f0, x.f1, x.f2, x.f3, x.f4, x.f5⟩
theorem rd72_at {pre t l : List S72} {h : S72} (e : pre ++ h :: t = l) : rd_T72 l (pre.length : Int) = h := by
  rw [← e]; simp [rd_T72]
theorem rd75_at {pre t l : List S75} {h : S75} (e : pre ++ h :: t = l) : rd_T75 l (pre.length : Int) = h := by
  rw [← e]; simp [rd_T75]
theorem toCallS_l0 (l : List S75) (hl : l.length ≤ 1048576) : ∀ (rest pre : List S75), pre ++ rest = l →
    Cm (fun k => laws_toCallS.l0 k l (pre.map conv ++ List.replicate rest.length z72) (pre.length : Int)) (l.map conv)
  | [], pre, e => by
    have := len_end e
    obtain rfl : pre = l := by simpa using e
    refine cm_last (fun k => ?_)
    rw [laws_toCallS.l0, if_neg (by omega)]
    simp
  | h :: t, pre, e => by
    have hlt := len_mid e
    have h1 := toCallS_l0 l hl t (pre ++ [h]) (app_mid e)
    rw [len_one] at h1
    refine cm_step (fun k => ?_) h1
    rw [laws_toCallS.l0, if_pos (by omega), if_pos (by omega), rd75_at e]
    unfold laws_toCall.f
    simp only [Option.bind_some]
    rw [if_pos (by simp; omega), wrap_len hlt (by omega)]
    congr 1
    have : ((pre.length : Nat) : Int).toNat = (pre.map conv).length := by simp
    rw [this, List.length_cons, List.replicate_succ]
    simp [conv]
theorem toCallS_f (l : List S75) (hl : l.length ≤ 1048576) : Cm (fun k => laws_toCallS.f k l) (l.map conv) := by
  unfold laws_toCallS.f
  refine cm_yes (by omega) (cm_yes (by omega) ?_)
  have := toCallS_l0 l hl l [] rfl
  simpa using this
theorem eqCall_same (x : S72) : laws_eqCall.f x.f0 x.f1 x.f2 x.f3 x.f4 x.f5 x.f0 x.f1 x.f2 x.f3 x.f4 x.f5 = some true := by
  unfold laws_eqCall.f
  simp
theorem eqCallS_l0 (l : List S72) (hl : l.length ≤ 1048576) : ∀ (rest pre : List S72), pre ++ rest = l →
    Cm (fun k => laws_eqCallS.l0 k l l (pre.length : Int)) true
  | [], pre, e => by
    have := len_end e
    refine cm_last (fun k => ?_)
    rw [laws_eqCallS.l0, if_neg (by omega)]
  | h :: t, pre, e => by
    have hlt := len_mid e
    have h1 := eqCallS_l0 l hl t (pre ++ [h]) (app_mid e)
    rw [len_one] at h1
    refine cm_step (fun k => ?_) h1
    rw [laws_eqCallS.l0, if_pos (by omega), if_pos (by omega), if_pos (by omega), rd72_at e, eqCall_same]
    simp only [Option.bind_some]
    rw [if_pos trivial, wrap_len hlt (by omega)]
theorem eqCallS_f (l : List S72) (hl : l.length ≤ 1048576) : Cm (fun k => laws_eqCallS.f k l l) true := by
  unfold laws_eqCallS.f
  refine cm_yes rfl ?_
  have := eqCallS_l0 l hl l [] rfl
  simpa using this
/-- A call by itself. -/
def valid (x : S72) : Bool := decide ((0 ≤ x.f0 ∧ x.f0 ≤ 3) ∧ (0 ≤ x.f1 ∧ x.f1 ≤ 2) ∧ ((if x.f2 then 1 else 0) ≤ x.f3 ∧ x.f3 ≤ 9) ∧ (0 ≤ x.f4 ∧ x.f4 ≤ 100) ∧ (0 ≤ x.f5 ∧ x.f5 ≤ 100) ∧ x.f4 < x.f5)
/-- Two calls of one client at one time. -/
def clash (x a : S72) : Bool := decide (a.f0 = x.f0 ∧ x.f4 < a.f5 ∧ a.f4 < x.f5)
def okAll : List S72 → List S72 → Bool
  | _, [] => true
  | pre, h :: t => valid h && !pre.any (clash h) && okAll (pre ++ [h]) t
theorem call_f (x : S72) : spec_l15Call.f x.f0 x.f1 x.f2 x.f3 x.f4 x.f5 = some (valid x) := by
  unfold spec_l15Call.f valid
  simp only [l1In_f, Option.bind_some]
  cases x.f2 <;> simp <;> (repeat' split) <;> simp_all <;> omega
theorem spec_l1 (l : List S72) (hl : l.length ≤ 1048576) (x : S72) (i : Int) (ys : List S72) (hy : ys.length ≤ 1048576) (v : Bool) : ∀ (rest pre : List S72), pre ++ rest = ys →
    (rest.any (clash x) = false → Cm (fun k => spec_GoodCalls.l0 k l l (l.length : Int) (wrap64 (i + 1))) v) → (rest.any (clash x) = true → v = false) →
    Cm (fun k => spec_GoodCalls.l1 k l l (l.length : Int) i ys (ys.length : Int) (pre.length : Int) x.f0 x.f1 x.f2 x.f3 x.f4 x.f5) v
  | [], pre, e, h1, _ => by
    have := len_end e
    refine cm_step (fun k => ?_) (h1 rfl)
    rw [spec_GoodCalls.l1, if_neg (by omega)]
  | h :: t, pre, e, h1, h2 => by
    have hlt := len_mid e
    by_cases c : clash x h = true
    · have := h2 (by simp [c])
      subst this
      simp only [clash, decide_eq_true_eq] at c
      refine cm_last (fun k => ?_)
      rw [spec_GoodCalls.l1, if_pos (by omega), if_pos (by omega), if_pos (by omega), rd72_at e, if_pos c.1, if_pos (by omega), if_pos (by omega)]
    · have h3 := spec_l1 l hl x i ys hy v t (pre ++ [h]) (app_mid e) (fun hx => h1 (by simp [c, hx])) (fun hx => h2 (by simp [hx]))
      rw [len_one] at h3
      simp only [clash, decide_eq_true_eq] at c
      refine cm_step (fun k => ?_) h3
      rw [spec_GoodCalls.l1, if_pos (by omega), if_pos (by omega), if_pos (by omega), rd72_at e, wrap_len hlt (by omega)]
      by_cases c1 : h.f0 = x.f0
      · rw [if_pos c1]
        by_cases c2 : h.f5 > x.f4
        · rw [if_pos c2, if_neg (by omega)]
        · rw [if_neg c2]
      · rw [if_neg c1]
theorem spec_l0 (l : List S72) (hl : l.length ≤ 1048576) : ∀ (rest pre : List S72), pre ++ rest = l →
    Cm (fun k => spec_GoodCalls.l0 k l l (l.length : Int) (pre.length : Int)) (okAll pre rest && decide (l.length ≤ 7))
  | [], pre, e => by
    have := len_end e
    refine cm_last (fun k => ?_)
    rw [spec_GoodCalls.l0, if_neg (by omega)]
    simp only [okAll, Bool.true_and]
    congr 1
    rw [decide_eq_decide]
    omega
  | h :: t, pre, e => by
    have hlt := len_mid e
    by_cases c : valid h = true
    · have htk : l.take ((pre.length : Nat) : Int).toNat = pre := by
        have : ((pre.length : Nat) : Int).toNat = pre.length := by simp
        rw [this, ← e]; simp
      have h1 := spec_l0 l hl t (pre ++ [h]) (app_mid e)
      rw [len_one] at h1
      have h2 := spec_l1 l hl h (pre.length : Int) pre (by omega) (okAll pre (h :: t) && decide (l.length ≤ 7)) pre [] rfl (by
        intro hx
        rw [wrap_len hlt (by omega)]
        simp only [okAll, c, hx, Bool.not_false, Bool.true_and]
        exact h1) (by
        intro hx
        simp [okAll, hx])
      refine cm_step (fun k => ?_) h2
      rw [spec_GoodCalls.l0, if_pos (by omega), if_pos (by omega), if_pos (by omega), rd72_at e, call_f]
      simp only [Option.bind_some]
      rw [if_pos c, if_pos (by omega), htk]
      rfl
    · refine cm_last (fun k => ?_)
      rw [spec_GoodCalls.l0, if_pos (by omega), if_pos (by omega), if_pos (by omega), rd72_at e, call_f]
      simp only [Option.bind_some]
      rw [if_neg c]
      have : valid h = false := by simpa using c
      simp [okAll, this]
theorem impl_l1 (l : List S72) (hl : l.length ≤ 1048576) (x : S72) (i : Int) (ys : List S72) (hy : ys.length ≤ 1048576) (v : Bool) : ∀ (rest pre : List S72), pre ++ rest = ys →
    (rest.any (clash x) = false → Cm (fun k => impl_areCalls.l0 k l l (l.length : Int) (wrap64 (i + 1))) v) → (rest.any (clash x) = true → v = false) →
    Cm (fun k => impl_areCalls.l1 k l l (l.length : Int) i ys (ys.length : Int) (pre.length : Int) x.f0 x.f1 x.f2 x.f3 x.f4 x.f5) v
  | [], pre, e, h1, _ => by
    have := len_end e
    refine cm_step (fun k => ?_) (h1 rfl)
    rw [impl_areCalls.l1, if_neg (by omega)]
  | h :: t, pre, e, h1, h2 => by
    have hlt := len_mid e
    by_cases c : clash x h = true
    · have := h2 (by simp [c])
      subst this
      simp only [clash, decide_eq_true_eq] at c
      refine cm_last (fun k => ?_)
      rw [impl_areCalls.l1, if_pos (by omega), if_pos (by omega), if_pos (by omega), rd72_at e, if_pos c.1.symm, if_pos (by omega), if_pos (by omega)]
    · have h3 := impl_l1 l hl x i ys hy v t (pre ++ [h]) (app_mid e) (fun hx => h1 (by simp [c, hx])) (fun hx => h2 (by simp [hx]))
      rw [len_one] at h3
      simp only [clash, decide_eq_true_eq] at c
      refine cm_step (fun k => ?_) h3
      rw [impl_areCalls.l1, if_pos (by omega), if_pos (by omega), if_pos (by omega), rd72_at e, wrap_len hlt (by omega)]
      by_cases c1 : x.f0 = h.f0
      · rw [if_pos c1]
        by_cases c2 : x.f5 > h.f4
        · rw [if_pos c2, if_neg (by omega)]
        · rw [if_neg c2]
      · rw [if_neg c1]
theorem impl_j (l : List S72) (x : S72) (i : Nat) (hi : i ≤ l.length) (v : Bool) (hv : valid x = true → Cm (fun k => impl_areCalls.l1 k l l (l.length : Int) (i : Int) (l.take i) ((l.take i).length : Int) 0 x.f0 x.f1 x.f2 x.f3 x.f4 x.f5) v) (hb : valid x = false → v = false) :
    Cm (fun k => impl_areCalls.j1 k l (i : Int) (if x.f2 then 1 else 0) l (l.length : Int) (i : Int) x.f0 x.f1 x.f2 x.f3 x.f4 x.f5) v := by
  have hj : ∀ b : Bool, b = !valid x → Cm (fun k => impl_areCalls.j2 k l (i : Int) l (l.length : Int) (i : Int) b x.f0 x.f1 x.f2 x.f3 x.f4 x.f5) v := by
    intro b hbb
    by_cases c : valid x = true
    · rw [c] at hbb
      subst hbb
      refine cm_step (fun k => ?_) (hv c)
      rw [impl_areCalls.j2, if_neg (by simp), if_pos (by omega), if_pos (by omega)]
      simp
    · have c2 : valid x = false := by simpa using c
      rw [c2] at hbb
      subst hbb
      have := hb c2
      subst this
      refine cm_last (fun k => ?_)
      rw [impl_areCalls.j2, if_pos (by simp)]
  have hval : valid x = decide ((0 ≤ x.f0 ∧ x.f0 ≤ 3) ∧ (0 ≤ x.f1 ∧ x.f1 ≤ 2) ∧ ((if x.f2 then 1 else 0) ≤ x.f3 ∧ x.f3 ≤ 9) ∧ (0 ≤ x.f4 ∧ x.f4 ≤ 100) ∧ (0 ≤ x.f5 ∧ x.f5 ≤ 100) ∧ x.f4 < x.f5) := rfl
  by_cases a0 : 0 ≤ x.f0 ∧ x.f0 ≤ 3
  · by_cases a1 : 0 ≤ x.f1 ∧ x.f1 ≤ 2
    · by_cases a3 : (if x.f2 then 1 else 0) ≤ x.f3 ∧ x.f3 ≤ 9
      · by_cases a4 : 0 ≤ x.f4 ∧ x.f4 ≤ 100
        · by_cases a5 : 0 ≤ x.f5 ∧ x.f5 ≤ 100
          · refine cm_step (fun k => ?_) (hj (decide (x.f4 ≥ x.f5)) (by
              rw [hval]
              simp only [a0, a1, a3, a4, a5, true_and, and_self]
              rw [← decide_not, decide_eq_decide]
              omega))
            rw [impl_areCalls.j1]
            simp only [in_f, Option.bind_some, a0, a1, a3, a4, a5, decide_true, if_true, and_self]
          · refine cm_step (fun k => ?_) (hj true (by rw [hval]; simp [a5]))
            rw [impl_areCalls.j1]
            simp only [in_f, Option.bind_some, a0, a1, a3, a4, a5, decide_true, decide_false, if_true, and_self]
            rfl
        · refine cm_step (fun k => ?_) (hj true (by rw [hval]; simp [a4]))
          rw [impl_areCalls.j1]
          simp only [in_f, Option.bind_some, a0, a1, a3, a4, decide_true, decide_false, if_true, and_self]
          rfl
      · refine cm_step (fun k => ?_) (hj true (by rw [hval]; simp [a3]))
        rw [impl_areCalls.j1]
        simp only [in_f, Option.bind_some, a0, a1, a3, decide_true, decide_false, if_true, and_self]
        rfl
    · refine cm_step (fun k => ?_) (hj true (by rw [hval]; simp [a1]))
      rw [impl_areCalls.j1]
      simp only [in_f, Option.bind_some, a0, a1, decide_true, decide_false, if_true, and_self]
      rfl
  · refine cm_step (fun k => ?_) (hj true (by rw [hval]; simp [a0]))
    rw [impl_areCalls.j1]
    simp only [in_f, Option.bind_some, a0, decide_true, decide_false, if_true, and_self]
    rfl
theorem impl_l0 (l : List S72) (hl : l.length ≤ 1048576) : ∀ (rest pre : List S72), pre ++ rest = l →
    Cm (fun k => impl_areCalls.l0 k l l (l.length : Int) (pre.length : Int)) (okAll pre rest && decide (l.length ≤ 7))
  | [], pre, e => by
    have := len_end e
    refine cm_last (fun k => ?_)
    rw [impl_areCalls.l0, if_neg (by omega)]
    simp only [okAll, Bool.true_and]
    congr 1
    rw [decide_eq_decide]
    omega
  | h :: t, pre, e => by
    have hlt := len_mid e
    have htk : l.take pre.length = pre := by rw [← e]; simp
    have h1 := impl_l0 l hl t (pre ++ [h]) (app_mid e)
    rw [len_one] at h1
    have hj : Cm (fun k => impl_areCalls.j1 k l (pre.length : Int) (if h.f2 then 1 else 0) l (l.length : Int) (pre.length : Int) h.f0 h.f1 h.f2 h.f3 h.f4 h.f5) (okAll pre (h :: t) && decide (l.length ≤ 7)) := by
      refine impl_j l h pre.length (by omega) _ (fun c => ?_) (by intro c; simp [okAll, c])
      rw [htk]
      have h2 := impl_l1 l hl h (pre.length : Int) pre (by omega) (okAll pre (h :: t) && decide (l.length ≤ 7)) pre [] rfl (by
        intro hx
        rw [wrap_len hlt (by omega)]
        simp only [okAll, c, hx, Bool.not_false, Bool.true_and]
        exact h1) (by
        intro hx
        simp [okAll, hx])
      simpa using h2
    refine cm_step (fun k => ?_) hj
    rw [impl_areCalls.l0, if_pos (by omega), if_pos (by omega), if_pos (by omega), rd72_at e]
    cases hf2 : h.f2 <;> simp
theorem spec_f (l : List S72) (hl : l.length ≤ 1048576) : Cm (fun k => spec_GoodCalls.f k l) (okAll [] l && decide (l.length ≤ 7)) := by
  unfold spec_GoodCalls.f
  have := spec_l0 l hl l [] rfl
  simpa using this
theorem impl_f (l : List S72) (hl : l.length ≤ 1048576) : Cm (fun k => impl_GoodCalls.f k l) (okAll [] l && decide (l.length ≤ 7)) := by
  unfold impl_GoodCalls.f impl_areCalls.f
  have := impl_l0 l hl l [] rfl
  exact cm_bind (by simpa using this) (cm_now fun _ => rfl)
end Go.Proofs.Ytjngkfepppejeaa.Calls
