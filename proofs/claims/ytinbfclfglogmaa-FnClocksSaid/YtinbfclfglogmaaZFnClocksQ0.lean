-- Written by programs of this session (wip/prune.py, wip/xp.py), out of the translation and the printed words; what the law does not reach is left out. Not trusted: Lean checks it.
import Derived.Test.YtinbfclfglogmaaZFnClocksW0
import Derived.Laws.BitsAllLaws
import Derived.Test.YtinbfclfglogmaaZFnClocksPx1
import Derived.Test.YtinbfclfglogmaaZFnClocksPx0
import Derived.Test.YtinbfclfglogmaaZFnClocksPxok
import Derived.Test.YtinbfclfglogmaaZFnClocksPx2
import Derived.Test.YtinbfclfglogmaaZFnClocksPx14
import Derived.Test.YtinbfclfglogmaaZFnClocksPx3
import Derived.Test.YtinbfclfglogmaaZFnClocksPx16
import Derived.Test.YtinbfclfglogmaaZFnClocksPx4
import Derived.Test.YtinbfclfglogmaaZFnClocksPx20
import Derived.Test.YtinbfclfglogmaaZFnClocksPx7
import Derived.Test.YtinbfclfglogmaaZFnClocksPx10
import Derived.Test.YtinbfclfglogmaaZFnClocksPx13
import Derived.Test.YtinbfclfglogmaaZFnClocksPx18
import Derived.Test.YtinbfclfglogmaaZFnClocksPx21
import Derived.Test.YtinbfclfglogmaaZFnClocksPx8
import Derived.Test.YtinbfclfglogmaaZFnClocksPx12
import Derived.Test.YtinbfclfglogmaaZFnClocksPx15
import Derived.Test.YtinbfclfglogmaaZFnClocksPx22
section
namespace Go.Proofs.Ytinbfclfglogmaa.Pl
open Go.RowKit Go.Proofs.YtinbfclfglogmaaW.PrintWords Go.Proofs.YtinbfclfglogmaaW.PrintLast Go.Proofs.YtinbfclfglogmaaW.PrintMore
theorem wrap_in {x : Int} (h0 : -9223372036854775808 ≤ x) (h1 : x ≤ 9223372036854775807) : wrap64 x = x := by
  unfold wrap64
  omega
theorem wrap_len {n m : Nat} (h : n < m) (hm : m ≤ 4611686018427387904) : wrap64 ((n : Int) + 1) = ((n + 1 : Nat) : Int) := by
  rw [wrap_in (by omega) (by omega)]
  omega
theorem wf_i64 {x : Int} (h : (Lit.int .i64 x).wf = true) : -9223372036854775808 ≤ x ∧ x ≤ 9223372036854775807 := by
  have e0 : IntKind.i64.min = -9223372036854775808 := rfl
  have e1 : IntKind.i64.max = 9223372036854775807 := rfl
  simp [Lit.wf, e0, e1] at h
  omega
theorem round {k d : Nat} (h : d < k) : ∃ m, k = m + 1 := ⟨k - 1, by omega⟩
theorem rd_mid (pre : List Int) (h : Int) (t : List Int) : rd (pre ++ h :: t) (pre.length : Int) = h := by
  simp [rd]
theorem rd_at {pre t l : List Int} {h : Int} (e : pre ++ h :: t = l) : rd l (pre.length : Int) = h := by
  rw [← e]; exact rd_mid pre h t
theorem len_mid {α : Type} {pre t : List α} {h : α} {l : List α} (e : pre ++ h :: t = l) : pre.length < l.length := by
  rw [← e]; simp
theorem len_end {α : Type} {pre l : List α} (e : pre ++ [] = l) : pre.length = l.length := by
  rw [← e]; simp
theorem app_mid {α : Type} {pre t : List α} {h : α} {l : List α} (e : pre ++ h :: t = l) : (pre ++ [h]) ++ t = l := by
  rw [← e]; simp
theorem len_one {α : Type} (pre : List α) (h : α) : (pre ++ [h]).length = pre.length + 1 := by simp
end Go.Proofs.Ytinbfclfglogmaa.Pl
end
section
namespace Go.Proofs.Ytinbfclfglogmaa.EvN
def Cm {α : Type} (f : Nat → Option α) (v : α) : Prop := ∃ K, ∀ k, K ≤ k → f k = some v
theorem cm_now {α : Type} {f : Nat → Option α} {v : α} (h : ∀ k, f k = some v) : Cm f v := ⟨0, fun k _ => h k⟩
theorem cm_step {α : Type} {f g : Nat → Option α} {v : α} (h : ∀ k, f (k + 1) = g k) (hg : Cm g v) : Cm f v := by
  obtain ⟨K, hK⟩ := hg
  refine ⟨K + 1, fun k hk => ?_⟩
  obtain ⟨m, rfl⟩ : ∃ m, k = m + 1 := ⟨k - 1, by omega⟩
  rw [h, hK m (by omega)]
theorem cm_same {α : Type} {f g : Nat → Option α} {v : α} (h : ∀ k, f k = g k) (hg : Cm g v) : Cm f v := by
  obtain ⟨K, hK⟩ := hg
  exact ⟨K, fun k hk => by rw [h, hK k hk]⟩
theorem cm_bind {α β : Type} {a : Nat → Option α} {t : α} {g : Nat → α → Option β} {v : β} (ha : Cm a t) (hg : Cm (fun k => g k t) v) : Cm (fun k => (a k).bind (g k)) v := by
  obtain ⟨K, hK⟩ := ha
  obtain ⟨M, hM⟩ := hg
  exact ⟨K + M, fun k hk => by simp only [hK k (by omega)]; exact hM k (by omega)⟩
theorem cm_yes {α : Type} {c : Prop} [Decidable c] {x y : Nat → Option α} {v : α} (h : c) (h2 : Cm x v) : Cm (fun k => if c then x k else y k) v :=
  cm_same (fun _ => if_pos h) h2
theorem cm_no {α : Type} {c : Prop} [Decidable c] {x y : Nat → Option α} {v : α} (h : ¬ c) (h2 : Cm y v) : Cm (fun k => if c then x k else y k) v :=
  cm_same (fun _ => if_neg h) h2
theorem cm_one {α : Type} {f : Nat → Option α} {v u : α} (h : Cm f v) (h2 : Cm f u) : v = u := by
  obtain ⟨K, hK⟩ := h
  obtain ⟨M, hM⟩ := h2
  have := (hK (K + M) (by omega)).symm.trans (hM (K + M) (by omega))
  exact Option.some.inj this
theorem cm_of_some {α : Type} {f : Nat → Option α} {v : α} {d : Nat} (h : ∀ k, d < k → f k = some v) : Cm f v := ⟨d + 1, fun k hk => h k (by omega)⟩
theorem cm_ex {α : Type} {f : Nat → Option α} {v : α} (h : Cm f v) : ∃ k, f k = some v := by
  obtain ⟨K, hK⟩ := h
  exact ⟨K, hK K (Nat.le_refl _)⟩
end Go.Proofs.Ytinbfclfglogmaa.EvN
end
section
namespace Go.Proofs.Ytinbfclfglogmaa.Lp
open Go.RowKit Go.Proofs.YtinbfclfglogmaaW.PrintWords
open Go.Proofs.Ytinbfclfglogmaa.Pl Go.Proofs.Ytinbfclfglogmaa.EvN
theorem loop_cm {α σ ρ : Type} {L : Nat → Int → σ → Option ρ} (xs : List α) (R : List α → List α → σ → ρ) (I : List α → σ → Prop)
    (hend : ∀ s, I xs s → Cm (fun k => L k (xs.length : Int) s) (R xs [] s))
    (hstep : ∀ pre h t s, pre ++ h :: t = xs → pre.length < xs.length → I pre s → (∀ s', I (pre ++ [h]) s' → Cm (fun k => L k ((pre.length + 1 : Nat) : Int) s') (R (pre ++ [h]) t s')) → Cm (fun k => L k (pre.length : Int) s) (R pre (h :: t) s)) :
    ∀ (rest pre : List α) (s : σ), pre ++ rest = xs → I pre s → Cm (fun k => L k (pre.length : Int) s) (R pre rest s)
  | [], pre, s, e, hi => by
    rw [List.append_nil] at e
    subst e
    exact hend s hi
  | h :: t, pre, s, e, hi => by
    refine hstep pre h t s e (len_mid e) hi (fun s' hi' => ?_)
    have := loop_cm xs R I hend hstep t (pre ++ [h]) s' (app_mid e) hi'
    rw [len_one] at this
    exact this
theorem fold_cm {α σ ρ : Type} {L : Nat → Int → σ → Option ρ} (xs : List α) (g : σ → α → σ) (I : List α → σ → Prop) (s0 : σ) {v : ρ} (h0 : I [] s0)
    (hstep : ∀ pre h t s, pre ++ h :: t = xs → pre.length < xs.length → I pre s → I (pre ++ [h]) (g s h) ∧ ∀ u, Cm (fun k => L k ((pre.length + 1 : Nat) : Int) (g s h)) u → Cm (fun k => L k (pre.length : Int) s) u)
    (hend : I xs (xs.foldl g s0) → Cm (fun k => L k (xs.length : Int) (xs.foldl g s0)) v) : Cm (fun k => L k 0 s0) v := by
  have key : ∀ (rest pre : List α) (s : σ), pre ++ rest = xs → I pre s → rest.foldl g s = xs.foldl g s0 → Cm (fun k => L k (pre.length : Int) s) v := by
    intro rest
    induction rest with
    | nil =>
      intro pre s e hi hf
      rw [List.append_nil] at e
      subst e
      rw [List.foldl_nil] at hf
      subst hf
      exact hend hi
    | cons h t ih =>
      intro pre s e hi hf
      obtain ⟨h1, h2⟩ := hstep pre h t s e (len_mid e) hi
      refine h2 v ?_
      have := ih (pre ++ [h]) (g s h) (app_mid e) h1 (by simpa using hf)
      rw [len_one] at this
      exact this
  exact key xs [] s0 rfl h0 rfl
def okFrom {α : Type} (p : List α → α → Bool) : List α → List α → Bool
  | _, [] => true
  | pre, h :: t => p pre h && okFrom p (pre ++ [h]) t
theorem okFrom_iff {α : Type} (p : List α → α → Bool) : ∀ (rest pre : List α), okFrom p pre rest = true ↔ ∀ a h t, a ++ h :: t = rest → p (pre ++ a) h = true
  | [], pre => by
    simp only [okFrom, true_iff]
    intro a h t e
    simp at e
  | x :: t, pre => by
    simp only [okFrom, Bool.and_eq_true]
    rw [okFrom_iff p t (pre ++ [x])]
    constructor
    · rintro ⟨h1, h2⟩ a h t' e
      cases a with
      | nil =>
        simp only [List.nil_append, List.cons.injEq] at e
        obtain ⟨rfl, rfl⟩ := e
        simpa using h1
      | cons y a =>
        simp only [List.cons_append, List.cons.injEq] at e
        obtain ⟨rfl, e⟩ := e
        have := h2 a h t' e
        simpa using this
    · intro h
      refine ⟨by simpa using h [] x t rfl, fun a h' t' e => ?_⟩
      have := h (x :: a) h' t' (by simp [e])
      simpa using this
theorem all_cm {α ρ : Type} {L : Nat → Int → Option ρ} (xs : List α) (p : List α → α → Bool) {fin no : ρ}
    (hstep : ∀ pre h t, pre ++ h :: t = xs → pre.length < xs.length → p pre h = true → ∀ v, Cm (fun k => L k ((pre.length + 1 : Nat) : Int)) v → Cm (fun k => L k (pre.length : Int)) v)
    (hno : ∀ pre h t, pre ++ h :: t = xs → pre.length < xs.length → p pre h = false → Cm (fun k => L k (pre.length : Int)) no)
    (hend : okFrom p [] xs = true → Cm (fun k => L k (xs.length : Int)) fin) : Cm (fun k => L k 0) (if okFrom p [] xs = true then fin else no) := by
  have key : ∀ (rest pre : List α), pre ++ rest = xs → (okFrom p pre rest = okFrom p [] xs) → Cm (fun k => L k (pre.length : Int)) (if okFrom p pre rest = true then fin else no) := by
    intro rest
    induction rest with
    | nil =>
      intro pre e h
      rw [List.append_nil] at e
      subst e
      simp only [okFrom, if_true] at h ⊢
      exact hend h.symm
    | cons x t ih =>
      intro pre e h
      by_cases c : p pre x = true
      · have h2 : okFrom p pre (x :: t) = okFrom p (pre ++ [x]) t := by simp only [okFrom, c, Bool.true_and]
        rw [h2] at h ⊢
        have h3 := ih (pre ++ [x]) (app_mid e) h
        rw [len_one] at h3
        exact hstep pre x t e (len_mid e) c _ h3
      · have c2 : p pre x = false := by simpa using c
        have h2 : okFrom p pre (x :: t) = false := by simp only [okFrom, c2, Bool.false_and]
        rw [h2]
        simpa using hno pre x t e (len_mid e) c2
  exact key xs [] rfl rfl
theorem okFrom_append {α : Type} (p : List α → α → Bool) : ∀ (b a c : List α), okFrom p a (b ++ c) = (okFrom p a b && okFrom p (a ++ b) c)
  | [], a, c => by simp [okFrom]
  | x :: b, a, c => by simp only [List.cons_append, okFrom, okFrom_append p b (a ++ [x]) c, Bool.and_assoc, List.append_assoc, List.nil_append]
theorem allp_cm {α ρ : Type} {L : Nat → Int → Option ρ} (xs : List α) (p : List α → α → Bool) {fin no : ρ}
    (hstep : ∀ pre h t, pre ++ h :: t = xs → pre.length < xs.length → okFrom p [] pre = true → p pre h = true → ∀ v, Cm (fun k => L k ((pre.length + 1 : Nat) : Int)) v → Cm (fun k => L k (pre.length : Int)) v)
    (hno : ∀ pre h t, pre ++ h :: t = xs → pre.length < xs.length → okFrom p [] pre = true → p pre h = false → Cm (fun k => L k (pre.length : Int)) no)
    (hend : okFrom p [] xs = true → Cm (fun k => L k (xs.length : Int)) fin) : Cm (fun k => L k 0) (if okFrom p [] xs = true then fin else no) := by
  have key : ∀ (rest pre : List α), pre ++ rest = xs → okFrom p [] pre = true → Cm (fun k => L k (pre.length : Int)) (if okFrom p [] xs = true then fin else no) := by
    intro rest
    induction rest with
    | nil =>
      intro pre e h
      rw [List.append_nil] at e
      subst e
      rw [if_pos h]
      exact hend h
    | cons x t ih =>
      intro pre e h
      have h1 := okFrom_append p pre [] [x]
      have h2 := okFrom_append p pre [] (x :: t)
      rw [e] at h2
      simp only [okFrom, h, Bool.true_and, Bool.and_true, List.nil_append] at h1 h2
      by_cases c : p pre x = true
      · have h3 := ih (pre ++ [x]) (app_mid e) (by rw [h1, c])
        rw [len_one] at h3
        exact hstep pre x t e (len_mid e) h c _ h3
      · have c2 : p pre x = false := by simpa using c
        rw [h2, c2, Bool.false_and]
        simpa using hno pre x t e (len_mid e) h c2
  exact key xs [] rfl rfl
theorem okFrom_all {α : Type} (p : α → Bool) : ∀ (rest pre : List α), okFrom (fun _ h => p h) pre rest = rest.all p
  | [], _ => rfl
  | x :: t, pre => by simp only [okFrom, List.all_cons, okFrom_all p t]
theorem every_cm {α ρ : Type} {L : Nat → Int → Option ρ} (xs : List α) (p : α → Bool) {fin no : ρ}
    (hstep : ∀ pre h t, pre ++ h :: t = xs → pre.length < xs.length → p h = true → ∀ v, Cm (fun k => L k ((pre.length + 1 : Nat) : Int)) v → Cm (fun k => L k (pre.length : Int)) v)
    (hno : ∀ pre h t, pre ++ h :: t = xs → pre.length < xs.length → p h = false → Cm (fun k => L k (pre.length : Int)) no)
    (hend : xs.all p = true → Cm (fun k => L k (xs.length : Int)) fin) : Cm (fun k => L k 0) (if xs.all p = true then fin else no) := by
  have := all_cm (L := L) xs (fun _ h => p h) hstep hno (by rw [okFrom_all]; exact hend)
  rw [okFrom_all] at this
  exact this
def foundAt {α ρ : Type} (p : α → Bool) (found : Nat → α → ρ) (none_ : ρ) : Nat → List α → ρ
  | _, [] => none_
  | i, h :: t => if p h = true then found i h else foundAt p found none_ (i + 1) t
theorem find_cm {α ρ : Type} {L : Nat → Int → Option ρ} (xs : List α) (p : α → Bool) (found : Nat → α → ρ) {none_ : ρ}
    (hstep : ∀ pre h t, pre ++ h :: t = xs → pre.length < xs.length → p h = false → ∀ v, Cm (fun k => L k ((pre.length + 1 : Nat) : Int)) v → Cm (fun k => L k (pre.length : Int)) v)
    (hyes : ∀ pre h t, pre ++ h :: t = xs → pre.length < xs.length → p h = true → Cm (fun k => L k (pre.length : Int)) (found pre.length h))
    (hend : Cm (fun k => L k (xs.length : Int)) none_) : Cm (fun k => L k 0) (foundAt p found none_ 0 xs) := by
  have key : ∀ (rest pre : List α), pre ++ rest = xs → Cm (fun k => L k (pre.length : Int)) (foundAt p found none_ pre.length rest) := by
    intro rest
    induction rest with
    | nil =>
      intro pre e
      rw [List.append_nil] at e
      subst e
      exact hend
    | cons x t ih =>
      intro pre e
      unfold foundAt
      by_cases c : p x = true
      · rw [if_pos c]
        exact hyes pre x t e (len_mid e) c
      · rw [if_neg c]
        have h3 := ih (pre ++ [x]) (app_mid e)
        rw [len_one] at h3
        exact hstep pre x t e (len_mid e) (by simpa using c) _ h3
  exact key xs [] rfl
theorem foundAt_split {α : Type} (p : α → Bool) : ∀ (l : List α) (i : Nat), (foundAt p (fun i _ => (i : Int)) (-1) i l = -1 ∧ ∀ x ∈ l, p x = false) ∨ ∃ a x b, l = a ++ x :: b ∧ p x = true ∧ (∀ y ∈ a, p y = false) ∧ foundAt p (fun i _ => (i : Int)) (-1) i l = ((i + a.length : Nat) : Int)
  | [], i => .inl ⟨rfl, by simp⟩
  | h :: t, i => by
    unfold foundAt
    by_cases c : p h = true
    · rw [if_pos c]
      exact .inr ⟨[], h, t, rfl, c, by simp, by simp⟩
    · rw [if_neg c]
      have c2 : p h = false := by simpa using c
      rcases foundAt_split p t (i + 1) with ⟨h1, h2⟩ | ⟨a, x, b, e, h1, h2, h3⟩
      · refine .inl ⟨h1, fun x hx => ?_⟩
        rcases List.mem_cons.1 hx with rfl | hx
        · exact c2
        · exact h2 x hx
      · refine .inr ⟨h :: a, x, b, by rw [e]; rfl, h1, fun y hy => ?_, by rw [h3]; simp only [List.length_cons]; omega⟩
        rcases List.mem_cons.1 hy with rfl | hy
        · exact c2
        · exact h2 y hy
theorem found_any {α : Type} (p : α → Bool) : ∀ (l : List α) (i : Nat), decide (foundAt p (fun i _ => (i : Int)) (-1) i l ≥ 0) = l.any p
  | [], _ => by simp [foundAt]
  | h :: t, i => by
    unfold foundAt
    by_cases c : p h = true
    · rw [if_pos c]; simp [c]
    · rw [if_neg c, found_any p t (i + 1)]; simp [c]
theorem not_any {α : Type} (p q : α → Bool) (l : List α) (h : ∀ x ∈ l, p x = !q x) : (!l.any p) = l.all q := by
  induction l with
  | nil => rfl
  | cons x t ih => rw [List.any_cons, List.all_cons, h x (by simp), ← ih (fun y hy => h y (by simp [hy]))]; cases q x <;> simp
theorem same_cm {α ρ : Type} {L : Nat → Int → Option ρ} (xs : List α) {fin : ρ}
    (hstep : ∀ pre h t, pre ++ h :: t = xs → pre.length < xs.length → ∀ v, Cm (fun k => L k ((pre.length + 1 : Nat) : Int)) v → Cm (fun k => L k (pre.length : Int)) v)
    (hend : Cm (fun k => L k (xs.length : Int)) fin) : Cm (fun k => L k 0) fin := by
  have := every_cm (L := L) xs (fun _ => true) (fin := fin) (no := fin) (fun pre h t e hl _ => hstep pre h t e hl) (fun _ _ _ _ _ hp => by cases hp) (fun _ => hend)
  have h : (xs.all fun _ => true) = true := by simp
  rw [if_pos h] at this
  exact this
theorem cm_if {α : Type} {c : Prop} [Decidable c] {x y : Nat → Option α} {v : α} (h : c → Cm x v) (h2 : ¬ c → Cm y v) : Cm (fun k => if c then x k else y k) v := by
  by_cases hc : c
  · exact cm_yes hc (h hc)
  · exact cm_no hc (h2 hc)
theorem getD_at {α : Type} {pre t l : List α} {h : α} (e : pre ++ h :: t = l) (d : α) : l.getD ((pre.length : Int)).toNat d = h := by
  rw [← e]; simp
theorem take_at {α : Type} {pre t l : List α} (e : pre ++ t = l) : l.take ((pre.length : Int)).toNat = pre := by
  rw [← e]; simp
theorem take_len {α : Type} {pre t l : List α} (e : pre ++ t = l) : l.take pre.length = pre := by
  rw [← e]; simp
theorem cm_val {α : Type} {f : Nat → Option α} {u v : α} (h : Cm f u) (e : u = v) : Cm f v := e ▸ h
end Go.Proofs.Ytinbfclfglogmaa.Lp
end
section
namespace Go.Proofs.Ytinbfclfglogmaa.Sets
open Go.RowKit Go.Proofs.YtinbfclfglogmaaW.PrintWords Go.Proofs.YtinbfclfglogmaaW.PrintLast Go.Proofs.YtinbfclfglogmaaW.PrintMore
open Go.Proofs.Ytinbfclfglogmaa.Pl Go.Proofs.Ytinbfclfglogmaa.EvN Go.Proofs.Ytinbfclfglogmaa.Lp
set_option linter.unusedSimpArgs false
set_option linter.unusedVariables false
end Go.Proofs.Ytinbfclfglogmaa.Sets
end
section
namespace Go.Proofs.Ytinbfclfglogmaa.Mem
open Go.RowKit Go.Proofs.Ytinbfclfglogmaa.P Go.Proofs.YtinbfclfglogmaaW.PrintWords Go.Proofs.YtinbfclfglogmaaW.PrintLast Go.Proofs.YtinbfclfglogmaaW.PrintMore
open Go.Proofs.Ytinbfclfglogmaa.Pl Go.Proofs.Ytinbfclfglogmaa.EvN Go.Proofs.Ytinbfclfglogmaa.Lp Go.Proofs.Ytinbfclfglogmaa.Sets
set_option linter.unusedSimpArgs false
set_option linter.unusedVariables false
theorem in_f (a b c : Int) : impl_in.f a b c = some (decide (b ≤ a ∧ a ≤ c)) := by
  unfold impl_in.f
  by_cases h : a ≥ b
  · rw [if_pos h]; congr 1; rw [decide_eq_decide]; omega
  · rw [if_neg h]; congr 1; symm; rw [decide_eq_false_iff_not]; omega
theorem l1In_f (a b c : Int) : spec_l1In.f a b c = some (decide (b ≤ a ∧ a ≤ c)) := by
  unfold spec_l1In.f
  by_cases h : a ≥ b
  · rw [if_pos h]; congr 1; rw [decide_eq_decide]; omega
  · rw [if_neg h]; congr 1; symm; rw [decide_eq_false_iff_not]; omega
theorem l1_at {pre t l : List (List Int)} {h : List Int} (e : pre ++ h :: t = l) : rd_L1 l (pre.length : Int) = h := getD_at e _
end Go.Proofs.Ytinbfclfglogmaa.Mem
end
section
namespace Go.Proofs.Ytinbfclfglogmaa.Hs
open Go.RowKit Go.Proofs.Ytinbfclfglogmaa.P Go.Proofs.YtinbfclfglogmaaW.PrintWords Go.Proofs.YtinbfclfglogmaaW.PrintLast Go.Proofs.YtinbfclfglogmaaW.PrintMore
open Go.Proofs.Ytinbfclfglogmaa.Pl Go.Proofs.Ytinbfclfglogmaa.EvN Go.Proofs.Ytinbfclfglogmaa.Lp
set_option linter.unusedSimpArgs false
set_option linter.unusedVariables false
end Go.Proofs.Ytinbfclfglogmaa.Hs
end
section
namespace Go.Proofs.Ytinbfclfglogmaa.Hg
open Go.RowKit Go.Proofs.Ytinbfclfglogmaa.P Go.Proofs.YtinbfclfglogmaaW.PrintWords Go.Proofs.YtinbfclfglogmaaW.PrintLast Go.Proofs.YtinbfclfglogmaaW.PrintMore
open Go.Proofs.Ytinbfclfglogmaa.Pl Go.Proofs.Ytinbfclfglogmaa.EvN Go.Proofs.Ytinbfclfglogmaa.Lp Go.Proofs.Ytinbfclfglogmaa.Hs
set_option linter.unusedSimpArgs false
set_option linter.unusedVariables false
theorem rdT65_at {pre t l : List S65} {h : S65} (e : pre ++ h :: t = l) : rd_T65 l (pre.length : Int) = h := getD_at e _
def cEvent (x : S69) : S65 := ⟨x.f0, x.f1, x.f2⟩
end Go.Proofs.Ytinbfclfglogmaa.Hg
end
section
namespace Go.Proofs.Ytinbfclfglogmaa.Events
open Go.RowKit Go.Proofs.Ytinbfclfglogmaa.P Go.Proofs.YtinbfclfglogmaaW.PrintWords Go.Proofs.YtinbfclfglogmaaW.PrintLast Go.Proofs.YtinbfclfglogmaaW.PrintMore
open Go.Proofs.Ytinbfclfglogmaa.Pl Go.Proofs.Ytinbfclfglogmaa.EvN Go.Proofs.Ytinbfclfglogmaa.Lp Go.Proofs.Ytinbfclfglogmaa.Mem Go.Proofs.Ytinbfclfglogmaa.Xm Go.Proofs.Ytinbfclfglogmaa.Hg
set_option linter.unusedSimpArgs false
set_option linter.unusedVariables false
def sends (l : List S65) : List (Int × Int) := (l.filter (fun x => x.f1 == 2)).map (fun x => (x.f2, x.f0))
def takes (l : List S65) : List Int := (l.filter (fun x => x.f1 == 3)).map (fun x => x.f2)
def good1 (procs : Int) (pre : List S65) (h : S65) : Bool :=
  decide (0 ≤ h.f0 ∧ h.f0 ≤ procs - 1) && (if h.f1 = 1 then h.f2 == 0 else if h.f1 = 2 then decide (1 ≤ h.f2 ∧ h.f2 ≤ 24) && !anyS (sends pre) h.f2 else if h.f1 = 3 then anyS (sends pre) h.f2 && (lastS (sends pre) h.f2 != h.f0) && !decide (h.f2 ∈ takes pre) else false)
def good (procs : Int) (l : List S65) : Bool := okFrom (good1 procs) [] l && decide ((1 ≤ procs ∧ procs ≤ 5) ∧ l.length ≤ 24)
theorem good_iff {procs : Int} {l : List S65} : good procs l = true ↔ okFrom (good1 procs) [] l = true ∧ (1 ≤ procs ∧ procs ≤ 5) ∧ l.length ≤ 24 := by
  simp [good]
theorem sends_snoc (l : List S65) (x : S65) : sends (l ++ [x]) = sends l ++ (if x.f1 = 2 then [(x.f2, x.f0)] else []) := by
  unfold sends
  rw [List.filter_append, List.map_append]
  by_cases c : x.f1 = 2 <;> simp [c]
theorem takes_snoc (l : List S65) (x : S65) : takes (l ++ [x]) = takes l ++ (if x.f1 = 3 then [x.f2] else []) := by
  unfold takes
  rw [List.filter_append, List.map_append]
  by_cases c : x.f1 = 3 <;> simp [c]
theorem go_f (procs : Int) (hp : 1 ≤ procs ∧ procs ≤ 5) : ∀ (rest pre : List S65), (∀ x ∈ rest, (Lit.int .i64 x.f0).wf = true ∧ (Lit.int .i64 x.f2).wf = true) →
    impl_areEvents.go procs (sends pre) (takes pre) rest = some (okFrom (good1 procs) pre rest)
  | [], pre, _ => rfl
  | h :: t, pre, hw => by
    have hw0 := hw h (by simp)
    have ih := go_f procs hp t (pre ++ [h]) (fun x hx => hw x (by simp [hx]))
    rw [impl_areEvents.go, if_pos hw0.2, if_pos hw0.1, in_f, wrap_in (by omega) (by omega)]
    simp only [Option.bind_some, okFrom]
    by_cases c1 : h.f1 = 1
    · rw [if_pos c1]
      have e1 : good1 procs pre h = (decide (0 ≤ h.f0 ∧ h.f0 ≤ procs - 1) && h.f2 == 0) := by unfold good1; rw [if_pos c1]
      have e2 : sends (pre ++ [h]) = sends pre := by rw [sends_snoc, if_neg (by omega), List.append_nil]
      have e3 : takes (pre ++ [h]) = takes pre := by rw [takes_snoc, if_neg (by omega), List.append_nil]
      rw [e2, e3] at ih
      rw [e1]
      by_cases c : (decide (0 ≤ h.f0 ∧ h.f0 ≤ procs - 1) && h.f2 == 0) = true
      · rw [if_pos c, ih, c, Bool.true_and]
      · rw [if_neg c]
        have c' : (decide (0 ≤ h.f0 ∧ h.f0 ≤ procs - 1) && h.f2 == 0) = false := by simpa using c
        rw [c', Bool.false_and]
    · rw [if_neg c1]
      by_cases c2 : h.f1 = 2
      · rw [if_pos c2, in_f]
        simp only [Option.bind_some]
        have e1 : good1 procs pre h = (decide (0 ≤ h.f0 ∧ h.f0 ≤ procs - 1) && decide (1 ≤ h.f2 ∧ h.f2 ≤ 24) && !anyS (sends pre) h.f2) := by unfold good1; rw [if_neg c1, if_pos c2, Bool.and_assoc]
        have e2 : sends (pre ++ [h]) = sends pre ++ [(h.f2, h.f0)] := by rw [sends_snoc, if_pos c2]
        have e3 : takes (pre ++ [h]) = takes pre := by rw [takes_snoc, if_neg (by omega), List.append_nil]
        rw [e2, e3] at ih
        rw [e1]
        by_cases c : (decide (0 ≤ h.f0 ∧ h.f0 ≤ procs - 1) && decide (1 ≤ h.f2 ∧ h.f2 ≤ 24) && !anyS (sends pre) h.f2) = true
        · rw [if_pos c, ih, c, Bool.true_and]
        · rw [if_neg c]
          have c' : (decide (0 ≤ h.f0 ∧ h.f0 ≤ procs - 1) && decide (1 ≤ h.f2 ∧ h.f2 ≤ 24) && !anyS (sends pre) h.f2) = false := by simpa using c
          rw [c', Bool.false_and]
      · rw [if_neg c2]
        by_cases c3 : h.f1 = 3
        · rw [if_pos c3]
          have e1 : good1 procs pre h = (decide (0 ≤ h.f0 ∧ h.f0 ≤ procs - 1) && anyS (sends pre) h.f2 && (lastS (sends pre) h.f2 != h.f0) && !decide (h.f2 ∈ takes pre)) := by unfold good1; rw [if_neg c1, if_neg c2, if_pos c3]; simp only [Bool.and_assoc]
          have e2 : sends (pre ++ [h]) = sends pre := by rw [sends_snoc, if_neg (by omega), List.append_nil]
          have e3 : takes (pre ++ [h]) = takes pre ++ [h.f2] := by rw [takes_snoc, if_pos c3]
          rw [e2, e3] at ih
          rw [e1]
          by_cases c : (decide (0 ≤ h.f0 ∧ h.f0 ≤ procs - 1) && anyS (sends pre) h.f2 && (lastS (sends pre) h.f2 != h.f0) && !decide (h.f2 ∈ takes pre)) = true
          · rw [if_pos c, ih, c, Bool.true_and]
          · rw [if_neg c]
            have c' : (decide (0 ≤ h.f0 ∧ h.f0 ≤ procs - 1) && anyS (sends pre) h.f2 && (lastS (sends pre) h.f2 != h.f0) && !decide (h.f2 ∈ takes pre)) = false := by simpa using c
            rw [c', Bool.false_and]
        · rw [if_neg c3]
          have e1 : good1 procs pre h = false := by unfold good1; rw [if_neg c1, if_neg c2, if_neg c3, Bool.and_false]
          rw [e1, Bool.false_and]
def Wf (l : List S65) : Prop := ∀ x ∈ l, (Lit.int .i64 x.f0).wf = true ∧ (Lit.int .i64 x.f2).wf = true
theorem areEvents_f (procs : Int) (l : List S65) (hw : Wf l) : impl_areEvents.f procs l = some (good procs l) := by
  unfold impl_areEvents.f
  rw [in_f]
  simp only [Option.bind_some]
  by_cases hp : 1 ≤ procs ∧ procs ≤ 5
  · rw [if_pos (by simpa using hp)]
    by_cases hl : l.length ≤ 24
    · rw [if_neg (by omega)]
      have := go_f procs hp l [] hw
      simp only [sends, takes, List.filter_nil, List.map_nil] at this
      rw [this]
      simp [good, hp, hl]
    · rw [if_pos (by omega)]
      simp [good, hl]
  · rw [if_neg (by simpa using hp)]
    simp [good, hp]
theorem implGood_f (procs : Int) (l : List S65) (hw : Wf l) : impl_GoodEvents.f procs l = some (good procs l) := by
  unfold impl_GoodEvents.f
  rw [areEvents_f procs l hw]
  rfl
def isSend (m : Int) (x : S65) : Bool := x.f1 == 2 && x.f2 == m
def sendIdx (l : List S65) (m : Int) : Int := foundAt (isSend m) (fun i _ => (i : Int)) (-1) 0 l
theorem anyS_sends (l : List S65) (m : Int) : anyS (sends l) m = l.any (isSend m) := by
  induction l with
  | nil => rfl
  | cons x t ih =>
    have e : anyS (sends (x :: t)) m = (isSend m x || anyS (sends t) m) := by
      unfold sends isSend anyS
      by_cases c : x.f1 = 2
      · by_cases c2 : x.f2 = m <;> simp [c, c2]
      · simp [c]
    rw [e, ih, List.any_cons]
theorem lastS_none (S : List (Int × Int)) (m : Int) : ∀ a : Int, S.any (fun p => decide (p.1 = m)) = false → S.foldl (fun a p => if p.1 = m then p.2 else a) a = a := by
  induction S with
  | nil => intro a _; rfl
  | cons p S ih =>
    intro a h
    simp only [List.any_cons, Bool.or_eq_false_iff, decide_eq_false_iff_not] at h
    rw [List.foldl_cons, if_neg h.1]
    exact ih a h.2
theorem lastS_sends (a : List S65) (x : S65) (b : List S65) (m : Int) (hx : isSend m x = true) (hb : ∀ y ∈ b, isSend m y = false) : lastS (sends (a ++ x :: b)) m = x.f0 := by
  have e : sends (a ++ x :: b) = sends a ++ (x.f2, x.f0) :: sends b := by
    unfold sends
    simp only [isSend, Bool.and_eq_true, beq_iff_eq] at hx
    rw [List.filter_append, List.map_append, List.filter_cons, if_pos (by simp [hx.1])]
    rfl
  simp only [isSend, Bool.and_eq_true, beq_iff_eq] at hx
  unfold lastS
  rw [e, List.foldl_append, List.foldl_cons, if_pos hx.2]
  refine lastS_none (sends b) m _ ?_
  have := anyS_sends b m
  unfold anyS at this
  rw [this]
  simpa using hb
theorem send_once {procs : Int} {l : List S65} (hg : okFrom (good1 procs) [] l = true) {a b : List S65} {x y : S65} {m : Int} (e : a ++ x :: b = l) (hx : isSend m x = true) (hy : y ∈ b) : isSend m y = false := by
  obtain ⟨b1, b2, rfl⟩ := List.append_of_mem hy
  have h1 := (okFrom_iff (good1 procs) l []).1 hg (a ++ x :: b1) y b2 (by rw [← e]; simp)
  rw [List.nil_append] at h1
  by_cases c : isSend m y = true
  · exfalso
    have cy := c
    simp only [isSend, Bool.and_eq_true, beq_iff_eq] at cy
    unfold good1 at h1
    rw [if_neg (by omega), if_pos cy.1, anyS_sends, cy.2] at h1
    have h2 : (a ++ x :: b1).any (isSend m) = true := by simp [hx]
    rw [h2] at h1
    simp at h1
  · simpa using c
theorem send_f (l : List S65) (m : Int) (i : Nat) (hi : i ≤ l.length) (hl : l.length ≤ 4611686018427387904) : Cm (fun k => spec_l7Send.f k l m (i : Int)) (sendIdx (l.take i) m) := by
  unfold spec_l7Send.f sendIdx
  have hl2 : (l.take i).length ≤ 4611686018427387904 := by rw [List.length_take]; omega
  refine cm_yes (by omega) (cm_yes (by omega) (cm_bind (t := l.take i) (cm_now fun _ => by simp) ?_))
  refine find_cm (L := fun k j => spec_l7Send.l0 k m (l.take i) ((l.take i).length : Int) j) (l.take i) (isSend m) (fun i _ => (i : Int)) (none_ := (-1 : Int)) ?_ ?_ ?_
  · intro pre h t e hlt hp v hv
    simp only [isSend, Bool.and_eq_false_iff, beq_eq_false_iff_ne, ne_eq] at hp
    refine cm_step (fun k => by rw [spec_l7Send.l0]) ?_
    simp only [rdT65_at e, wrap_len hlt hl2]
    refine cm_yes (by omega) (cm_yes (by omega) (cm_yes (by omega) (cm_if (fun c => cm_no ?_ hv) (fun _ => hv))))
    intro c2
    rcases hp with hp | hp
    · exact hp c
    · exact hp c2
  · intro pre h t e hlt hp
    simp only [isSend, Bool.and_eq_true, beq_iff_eq] at hp
    refine cm_step (fun k => by rw [spec_l7Send.l0]) ?_
    simp only [rdT65_at e, wrap_len hlt hl2]
    exact cm_yes (by omega) (cm_yes (by omega) (cm_yes (by omega) (cm_yes hp.1 (cm_yes hp.2 (cm_now fun _ => rfl)))))
  · refine cm_step (fun k => by rw [spec_l7Send.l0]) ?_
    repeat (first | assumption | exact cm_now (fun _ => rfl) | refine cm_yes (by first | omega | assumption | (simp; done) | (simp; omega)) ?_ | refine cm_no (by first | omega | assumption | (simp; done) | (simp; omega)) ?_)
theorem takes_any (l : List S65) (m : Int) : decide (m ∈ takes l) = l.any (fun x => x.f1 == 3 && x.f2 == m) := by
  unfold takes
  rw [Bool.eq_iff_iff]
  simp only [decide_eq_true_eq, List.mem_map, List.mem_filter, List.any_eq_true, Bool.and_eq_true, beq_iff_eq]
  constructor
  · rintro ⟨x, ⟨h1, h2⟩, h3⟩
    exact ⟨x, h1, h2, h3⟩
  · rintro ⟨x, h1, h2, h3⟩
    exact ⟨x, ⟨h1, h2⟩, h3⟩
theorem spec_l1 (procs : Int) (l : List S65) (hl : l.length ≤ 4611686018427387904) (pre : List S65) (h : S65) (t : List S65) (e : pre ++ h :: t = l) (hk : h.f1 = 3) (v : Bool) (hv : decide (h.f2 ∈ takes pre) = false → Cm (fun k => spec_GoodEvents.l0 k procs l l (l.length : Int) ((pre.length + 1 : Nat) : Int)) v) :
    Cm (fun k => spec_GoodEvents.l1 k procs l l (l.length : Int) (pre.length : Int) pre (pre.length : Int) 0 h.f0 h.f1 h.f2) (if decide (h.f2 ∈ takes pre) = true then false else v) := by
  have hlt := len_mid e
  have h1 := every_cm (L := fun k i => spec_GoodEvents.l1 k procs l l (l.length : Int) (pre.length : Int) pre (pre.length : Int) i h.f0 h.f1 h.f2) pre (fun x => !(x.f1 == 3 && x.f2 == h.f2)) (fin := v) (no := false) ?_ ?_ ?_
  · refine cm_val h1 ?_
    rw [takes_any]
    have := not_any (fun x : S65 => x.f1 == 3 && x.f2 == h.f2) (fun x => !(x.f1 == 3 && x.f2 == h.f2)) pre (fun x _ => by simp)
    rw [← this]
    cases pre.any (fun x : S65 => x.f1 == 3 && x.f2 == h.f2) <;> rfl
  · intro pre2 x t2 e2 hlt2 hp2 u hu
    simp only [Bool.not_eq_true', Bool.and_eq_false_iff, beq_eq_false_iff_ne, ne_eq] at hp2
    refine cm_step (fun k => by rw [spec_GoodEvents.l1]) ?_
    simp only [rdT65_at e2, wrap_len (n := pre2.length) (m := pre.length) hlt2 (by omega)]
    refine cm_yes (by omega) (cm_yes (by omega) (cm_yes (by omega) (cm_no ?_ (cm_if (fun c => cm_no ?_ hu) (fun _ => hu)))))
    · simp only [Bool.and_eq_true, beq_iff_eq]
      rintro ⟨_, z1, z2⟩
      rcases hp2 with hp2 | hp2
      · exact hp2 (z1.trans hk)
      · exact hp2 z2
    · intro c2
      rcases hp2 with hp2 | hp2
      · exact hp2 c
      · exact hp2 c2
  · intro pre2 x t2 e2 hlt2 hp2
    simp only [Bool.not_eq_false', Bool.and_eq_true, beq_iff_eq] at hp2
    refine cm_step (fun k => by rw [spec_GoodEvents.l1]) ?_
    simp only [rdT65_at e2, wrap_len (n := pre2.length) (m := pre.length) hlt2 (by omega)]
    refine cm_yes (by omega) (cm_yes (by omega) (cm_yes (by omega) (cm_if (fun _ => cm_now fun _ => rfl) (fun _ => cm_yes hp2.1 (cm_yes hp2.2 (cm_now fun _ => rfl))))))
  · intro hall
    have h2 := hv (by
      rw [takes_any]
      have := not_any (fun x : S65 => x.f1 == 3 && x.f2 == h.f2) (fun x => !(x.f1 == 3 && x.f2 == h.f2)) pre (fun x _ => by simp)
      rw [hall] at this
      simpa using this)
    refine cm_step (fun k => by rw [spec_GoodEvents.l1]) ?_
    rw [wrap_len hlt hl]
    exact cm_no (by omega) h2
theorem good1_take {procs : Int} {pre : List S65} {h : S65} (hg : okFrom (good1 procs) [] pre = true) (hk : h.f1 = 3) (hr : 0 ≤ h.f0 ∧ h.f0 ≤ procs - 1) :
    (sendIdx pre h.f2 = -1 ∧ good1 procs pre h = false) ∨ ∃ a x b, pre = a ++ x :: b ∧ sendIdx pre h.f2 = (a.length : Int) ∧ good1 procs pre h = ((x.f0 != h.f0) && !decide (h.f2 ∈ takes pre)) := by
  have hr2 : decide (0 ≤ h.f0 ∧ h.f0 ≤ procs - 1) = true := decide_eq_true hr
  rcases foundAt_split (isSend h.f2) pre 0 with ⟨h1, h2⟩ | ⟨a, x, b, e, h1, h2, h3⟩
  · refine .inl ⟨h1, ?_⟩
    unfold good1
    have : pre.any (isSend h.f2) = false := by simpa using h2
    rw [if_neg (by omega), if_neg (by omega), if_pos hk, anyS_sends, this]
    simp
  · refine .inr ⟨a, x, b, e, by unfold sendIdx; rw [h3]; simp, ?_⟩
    have h4 : pre.any (isSend h.f2) = true := by rw [e]; simp [h1]
    have h5 : lastS (sends pre) h.f2 = x.f0 := by rw [e]; exact lastS_sends a x b h.f2 h1 (fun y hy => send_once hg e.symm h1 hy)
    unfold good1
    rw [if_neg (by omega), if_neg (by omega), if_pos hk, anyS_sends, h4, h5, hr2]
    simp
theorem spec_good_f (procs : Int) (l : List S65) (hp : -9223372036854775808 ≤ procs ∧ procs ≤ 9223372036854775807) (hl : l.length ≤ 4611686018427387904) : Cm (fun k => spec_GoodEvents.f k procs l) (good procs l) := by
  unfold spec_GoodEvents.f
  have := allp_cm (L := fun k i => spec_GoodEvents.l0 k procs l l (l.length : Int) i) l (good1 procs) (fin := decide ((1 ≤ procs ∧ procs ≤ 5) ∧ l.length ≤ 24)) (no := false) ?_ ?_ ?_
  · refine cm_val this ?_
    unfold good
    cases okFrom (good1 procs) [] l <;> simp
  · intro pre h t e hlt hg hgood v hv
    have hr : 0 ≤ h.f0 ∧ h.f0 ≤ procs - 1 := by
      unfold good1 at hgood
      simp only [Bool.and_eq_true, decide_eq_true_eq] at hgood
      exact hgood.1
    have htk : l.take pre.length = pre := take_len e
    have hsend := send_f l h.f2 pre.length (by omega) hl
    rw [htk] at hsend
    have hj1 : Cm (fun k => spec_GoodEvents.j1 k procs l (pre.length : Int) l (l.length : Int) (pre.length : Int) false h.f0 h.f1 h.f2) v := by
      refine cm_step (fun k => by rw [spec_GoodEvents.j1]) ?_
      simp only [l1In_f, wrap_len hlt hl]
      refine cm_no (by simp) ?_
      by_cases c1 : h.f1 = 1
      · refine cm_yes c1 (cm_yes ?_ hv)
        unfold good1 at hgood
        rw [if_pos c1] at hgood
        simp only [Bool.and_eq_true, beq_iff_eq] at hgood
        exact hgood.2
      · refine cm_no c1 ?_
        by_cases c2 : h.f1 = 2
        · unfold good1 at hgood
          rw [if_neg c1, if_pos c2, anyS_sends] at hgood
          simp only [Bool.and_eq_true, decide_eq_true_eq, Bool.not_eq_true'] at hgood
          refine cm_yes c2 (cm_bind (cm_now fun _ => rfl) (cm_yes (by simpa using hgood.2.1) (cm_bind hsend (cm_no ?_ hv))))
          have := found_any (isSend h.f2) pre 0
          rw [hgood.2.2] at this
          unfold sendIdx
          simpa using this
        · refine cm_no c2 ?_
          have c3 : h.f1 = 3 := by
            unfold good1 at hgood
            rw [if_neg c1, if_neg c2] at hgood
            by_cases c3 : h.f1 = 3
            · exact c3
            · rw [if_neg c3] at hgood; simp at hgood
          refine cm_yes c3 (cm_bind hsend ?_)
          rcases good1_take hg c3 hr with ⟨_, h1⟩ | ⟨a, x, b, e2, h1, h2⟩
          · rw [h1] at hgood; cases hgood
          · have hrd : rd_T65 l (a.length : Int) = x := rdT65_at (t := b ++ h :: t) (by rw [← e, e2]; simp)
            have hal : a.length < l.length := by rw [← e, e2]; simp <;> omega
            rw [h2] at hgood
            simp only [Bool.and_eq_true, bne_iff_ne, ne_eq, Bool.not_eq_true'] at hgood
            rw [h1, hrd]
            refine cm_no (by omega) (cm_yes (by omega) (cm_yes (by omega) ?_))
            have e3 : (x.f0 == h.f0) = false := by simpa using hgood.1
            rw [e3]
            refine cm_step (fun k => by rw [spec_GoodEvents.j2]) ?_
            rw [Int.toNat_natCast, htk]
            refine cm_no (by simp) (cm_yes (by omega) (cm_yes (by omega) (cm_bind (cm_now fun _ => rfl) ?_)))
            have := spec_l1 procs l hl pre h t e c3 v (fun _ => hv)
            rw [hgood.2] at this
            exact this
    refine cm_step (fun k => by rw [spec_GoodEvents.l0]) ?_
    simp only [rdT65_at e]
    refine cm_yes (by omega) (cm_yes (by omega) (cm_yes (by omega) (cm_no (by omega) ?_)))
    have e4 : decide (h.f0 ≥ procs) = false := decide_eq_false (by omega)
    rw [e4]
    exact hj1
  · intro pre h t e hlt hg hbad
    have htk : l.take pre.length = pre := take_len e
    have hsend := send_f l h.f2 pre.length (by omega) hl
    rw [htk] at hsend
    have hj0 : Cm (fun k => spec_GoodEvents.j1 k procs l (pre.length : Int) l (l.length : Int) (pre.length : Int) true h.f0 h.f1 h.f2) false := by
      refine cm_step (fun k => by rw [spec_GoodEvents.j1]) ?_
      exact cm_yes rfl (cm_now fun _ => rfl)
    refine cm_step (fun k => by rw [spec_GoodEvents.l0]) ?_
    simp only [rdT65_at e]
    refine cm_yes (by omega) (cm_yes (by omega) (cm_yes (by omega) (cm_if (fun _ => hj0) (fun c0 => ?_))))
    by_cases c9 : h.f0 ≥ procs
    · rw [decide_eq_true c9]; exact hj0
    · rw [decide_eq_false c9]
      have hr : 0 ≤ h.f0 ∧ h.f0 ≤ procs - 1 := by omega
      have hr2 : decide (0 ≤ h.f0 ∧ h.f0 ≤ procs - 1) = true := decide_eq_true hr
      refine cm_step (fun k => by rw [spec_GoodEvents.j1]) ?_
      simp only [l1In_f, wrap_len hlt hl]
      refine cm_no (by simp) ?_
      by_cases c1 : h.f1 = 1
      · refine cm_yes c1 (cm_no ?_ (cm_now fun _ => rfl))
        unfold good1 at hbad
        rw [if_pos c1, hr2] at hbad
        simpa using hbad
      · refine cm_no c1 ?_
        by_cases c2 : h.f1 = 2
        · unfold good1 at hbad
          rw [if_neg c1, if_pos c2, anyS_sends, hr2, Bool.true_and] at hbad
          refine cm_yes c2 (cm_bind (cm_now fun _ => rfl) (cm_if (fun c => cm_bind hsend (cm_yes ?_ (cm_now fun _ => rfl))) (fun _ => cm_now fun _ => rfl)))
          rw [c, Bool.true_and] at hbad
          have := found_any (isSend h.f2) pre 0
          have h5 : pre.any (isSend h.f2) = true := by simpa using hbad
          rw [h5] at this
          unfold sendIdx
          simpa using this
        · refine cm_no c2 (cm_if (fun c3 => cm_bind hsend ?_) (fun _ => cm_now fun _ => rfl))
          have hj2 : Cm (fun k => spec_GoodEvents.j2 k procs l (pre.length : Int) l (l.length : Int) (pre.length : Int) true h.f0 h.f1 h.f2) false := by
            refine cm_step (fun k => by rw [spec_GoodEvents.j2]) ?_
            exact cm_yes rfl (cm_now fun _ => rfl)
          rcases good1_take hg c3 hr with ⟨h1, _⟩ | ⟨a, x, b, e2, h1, h2⟩
          · rw [h1]
            exact cm_yes (by omega) hj2
          · have hrd : rd_T65 l (a.length : Int) = x := rdT65_at (t := b ++ h :: t) (by rw [← e, e2]; simp)
            have hal : a.length < l.length := by rw [← e, e2]; simp <;> omega
            rw [h2] at hbad
            rw [h1, hrd]
            refine cm_no (by omega) (cm_yes (by omega) (cm_yes (by omega) ?_))
            by_cases c4 : x.f0 = h.f0
            · have e3 : (x.f0 == h.f0) = true := by simpa using c4
              rw [e3]
              exact hj2
            · have e3 : (x.f0 == h.f0) = false := by simpa using c4
              have e5 : (x.f0 != h.f0) = true := by simpa using c4
              rw [e3]
              rw [e5, Bool.true_and] at hbad
              have hbad2 : decide (h.f2 ∈ takes pre) = true := by simpa using hbad
              refine cm_step (fun k => by rw [spec_GoodEvents.j2]) ?_
              rw [Int.toNat_natCast, htk]
              refine cm_no (by simp) (cm_yes (by omega) (cm_yes (by omega) (cm_bind (cm_now fun _ => rfl) ?_)))
              have := spec_l1 procs l hl pre h t e c3 false (fun z => by rw [hbad2] at z; cases z)
              rw [hbad2] at this
              exact this
  · intro _
    refine cm_step (fun k => by rw [spec_GoodEvents.l0]) ?_
    simp only [l1In_f]
    refine cm_no (by omega) (cm_bind (cm_now fun _ => rfl) (cm_if (fun c => cm_now fun _ => ?_) (fun c => cm_now fun _ => ?_)))
    · simp only [decide_eq_true_eq] at c
      congr 1
      rw [decide_eq_decide]
      omega
    · simp only [decide_eq_true_eq] at c
      congr 1
      symm
      rw [decide_eq_false_iff_not]
      omega
theorem wf_conv {l : List S69} (h : ∀ x_ ∈ l, ok69 x_) : Wf (l.map cEvent) := by
  intro x hx
  obtain ⟨z, hz, rfl⟩ := List.mem_map.1 hx
  have := h z hz
  exact ⟨this.1, this.2.2⟩
end Go.Proofs.Ytinbfclfglogmaa.Events
end
section
namespace Go.Proofs.Ytinbfclfglogmaa.Causes
open Go.RowKit Go.Proofs.Ytinbfclfglogmaa.P Go.Proofs.YtinbfclfglogmaaW.PrintWords Go.Proofs.YtinbfclfglogmaaW.PrintLast Go.Proofs.YtinbfclfglogmaaW.PrintMore
open Go.Proofs.Ytinbfclfglogmaa.Pl Go.Proofs.Ytinbfclfglogmaa.EvN Go.Proofs.Ytinbfclfglogmaa.Lp Go.Proofs.Ytinbfclfglogmaa.Mem Go.Proofs.Ytinbfclfglogmaa.Xm Go.Proofs.Ytinbfclfglogmaa.Hg Go.Proofs.Ytinbfclfglogmaa.Events
set_option linter.unusedSimpArgs false
set_option linter.unusedVariables false
def ev (l : List S65) (i : Nat) : S65 := rd_T65 l (i : Int)
theorem ev_at {pre t l : List S65} {h : S65} (e : pre ++ h :: t = l) : ev l pre.length = h := rdT65_at e
theorem split_at {l : List S65} {i : Nat} (h : i < l.length) : l.take i ++ ev l i :: l.drop (i + 1) = l := by
  unfold ev rd_T65
  rw [Int.toNat_natCast, List.getD_eq_getElem?_getD, List.getElem?_eq_getElem h, Option.getD_some]
  have := List.take_append_drop i l
  rw [List.drop_eq_getElem_cons h] at this
  exact this
theorem ev_take {l : List S65} {i j : Nat} (hj : j < i) (hi : i ≤ l.length) : ev (l.take i) j = ev l j := by
  unfold ev rd_T65
  rw [Int.toNat_natCast, List.getD_eq_getElem?_getD, List.getD_eq_getElem?_getD, List.getElem?_take_of_lt hj]
def prevFrom (l : List S65) (p : Int) : Nat → Option Nat
  | 0 => none
  | n + 1 => if (ev l n).f0 = p then some n else prevFrom l p n
theorem prev_some {l : List S65} {p : Int} : ∀ {n k : Nat}, prevFrom l p n = some k → k < n ∧ (ev l k).f0 = p ∧ ∀ j, k < j → j < n → (ev l j).f0 ≠ p
  | 0, k, h => by cases h
  | n + 1, k, h => by
    unfold prevFrom at h
    by_cases c : (ev l n).f0 = p
    · rw [if_pos c] at h
      have := Option.some.inj h
      subst this
      exact ⟨by omega, c, fun j h1 h2 => by omega⟩
    · rw [if_neg c] at h
      obtain ⟨h1, h2, h3⟩ := prev_some h
      refine ⟨by omega, h2, fun j hj1 hj2 => ?_⟩
      by_cases e : j = n
      · subst e; exact c
      · exact h3 j hj1 (by omega)
theorem prev_none {l : List S65} {p : Int} : ∀ {n : Nat}, prevFrom l p n = none → ∀ j, j < n → (ev l j).f0 ≠ p
  | 0, _, j, hj => by omega
  | n + 1, h, j, hj => by
    unfold prevFrom at h
    by_cases c : (ev l n).f0 = p
    · rw [if_pos c] at h; cases h
    · rw [if_neg c] at h
      by_cases e : j = n
      · subst e; exact c
      · exact prev_none h j (by omega)
def prevL (l : List S65) (i : Nat) : List Int := match prevFrom l (ev l i).f0 i with | some k => [(k : Int)] | none => []
def causesL (l : List S65) (i : Nat) : List Int := prevL l i ++ (if (ev l i).f1 = 3 then [sendIdx (l.take i) (ev l i).f2] else [])
theorem l7Ahead_f (l : List S65) (i : Nat) (hi : i < l.length) (hl : l.length ≤ 4611686018427387904) : Cm (fun k => spec_l7Ahead.f k l (i : Int)) (match prevFrom l (ev l i).f0 i with | some k => (k : Int) | none => -1) := by
  unfold spec_l7Ahead.f
  have key : ∀ n : Nat, n ≤ i → Cm (fun k => spec_l7Ahead.l0 k l (i : Int) ((n : Int) - 1)) (match prevFrom l (ev l i).f0 n with | some k => (k : Int) | none => -1) := by
    intro n
    induction n with
    | zero =>
      intro _
      refine cm_step (fun k => by rw [spec_l7Ahead.l0]) ?_
      exact cm_no (by omega) (cm_now fun _ => rfl)
    | succ n ih =>
      intro hn
      have h1 := ih (by omega)
      have e1 : (((n + 1 : Nat) : Int) - 1) = (n : Int) := by omega
      rw [e1]
      refine cm_step (fun k => by rw [spec_l7Ahead.l0]) ?_
      rw [wrap_in (x := (n : Int) - 1) (by omega) (by omega)]
      refine cm_yes (by omega) (cm_yes (by omega) (cm_yes (by omega) (cm_yes (by omega) (cm_yes (by omega) ?_))))
      by_cases c : (ev l n).f0 = (ev l i).f0
      · have e2 : prevFrom l (ev l i).f0 (n + 1) = some n := by rw [prevFrom, if_pos c]
        rw [e2]
        exact cm_yes c (cm_now fun _ => rfl)
      · have e2 : prevFrom l (ev l i).f0 (n + 1) = prevFrom l (ev l i).f0 n := by rw [prevFrom, if_neg c]
        rw [e2]
        exact cm_no c h1
  have := key i (Nat.le_refl _)
  rw [wrap_in (by omega) (by omega)]
  exact this
theorem l7Causes_f (l : List S65) (i : Nat) (hi : i < l.length) (hl : l.length ≤ 4611686018427387904) : Cm (fun k => spec_l7Causes.f k l (i : Int)) (causesL l i) := by
  unfold spec_l7Causes.f causesL prevL
  have hs := send_f l (ev l i).f2 i (by omega) hl
  refine cm_bind (l7Ahead_f l i hi hl) ?_
  cases h : prevFrom l (ev l i).f0 i with
  | none =>
    simp only
    refine cm_no (by omega) (cm_yes (by omega) (cm_yes (by omega) ?_))
    by_cases c : (ev l i).f1 = 3
    · rw [if_pos c]
      exact cm_yes c (cm_bind hs (cm_yes (by simp) (cm_now fun _ => rfl)))
    · rw [if_neg c]
      exact cm_no c (cm_now fun _ => rfl)
  | some q =>
    simp only
    refine cm_yes (by omega) (cm_yes (by simp) (cm_bind (cm_now fun _ => rfl) (cm_yes (by omega) (cm_yes (by omega) ?_))))
    by_cases c : (ev l i).f1 = 3
    · rw [if_pos c]
      exact cm_yes c (cm_bind hs (cm_yes (by simp) (cm_now fun _ => rfl)))
    · rw [if_neg c]
      exact cm_no c (cm_now fun _ => by simp)
def idxs {α : Type} (p : α → Bool) : Nat → List α → List Int
  | _, [] => []
  | i, h :: t => if p h = true then (i : Int) :: idxs p (i + 1) t else idxs p (i + 1) t
theorem idxs_none {α : Type} (p : α → Bool) : ∀ (l : List α) (i : Nat), (∀ x ∈ l, p x = false) → idxs p i l = []
  | [], _, _ => rfl
  | h :: t, i, hp => by
    unfold idxs
    rw [if_neg (by rw [hp h (by simp)]; simp)]
    exact idxs_none p t (i + 1) (fun x hx => hp x (by simp [hx]))
theorem idxs_one {α : Type} (p : α → Bool) (x : α) (b : List α) (hx : p x = true) (hb : ∀ y ∈ b, p y = false) : ∀ (a : List α) (i : Nat), (∀ y ∈ a, p y = false) → idxs p i (a ++ x :: b) = [((i + a.length : Nat) : Int)]
  | [], i, _ => by
    rw [List.nil_append, idxs, if_pos hx, idxs_none p b _ hb]
    simp
  | h :: t, i, ha => by
    rw [List.cons_append, idxs, if_neg (by rw [ha h (by simp)]; simp), idxs_one p x b hx hb t (i + 1) (fun y hy => ha y (by simp [hy]))]
    simp only [List.length_cons]
    congr 2
    omega
theorem causes_l1 (l : List S65) (i : Nat) (hi : i < l.length) (hl : l.length ≤ 1048576) (out : List Int) (ho : out.length ≤ 4) :
    Cm (fun k => impl_causes.l1 k l (i : Int) out (i : Int) 0) (out ++ (if (ev l i).f1 = 3 then idxs (isSend (ev l i).f2) 0 (l.take i) else [])) := by
  have hlen : (l.take i).length = i := by rw [List.length_take]; omega
  by_cases c : (ev l i).f1 = 3
  · rw [if_pos c]
    have key := loop_cm (L := fun k j s => impl_causes.l1 k l (i : Int) s (i : Int) j) (l.take i) (fun pre rest s => s ++ idxs (isSend (ev l i).f2) pre.length rest) (fun pre s => s.length ≤ 4 + pre.length) ?_ ?_ (l.take i) [] out rfl (by simpa using ho)
    · simpa using key
    · intro s hs
      refine cm_step (fun k => by rw [impl_causes.l1]) ?_
      exact cm_no (by omega) (cm_now fun _ => by simp [idxs])
    · intro pre h t s e hlt hs hn
      have e2 : ev l pre.length = h := by rw [← ev_take (i := i) (by omega) (by omega)]; exact ev_at e
      refine cm_step (fun k => by rw [impl_causes.l1]) ?_
      rw [wrap_len hlt (by omega)]
      refine cm_yes (by omega) (cm_yes (by omega) (cm_yes (by omega) (cm_yes c (cm_yes (by omega) (cm_yes (by omega) ?_)))))
      have e3 : (rd_T65 l (pre.length : Int)) = h := e2
      rw [e3]
      by_cases c2 : isSend (ev l i).f2 h = true
      · have c3 := c2
        simp only [isSend, Bool.and_eq_true, beq_iff_eq] at c3
        have e4 : idxs (isSend (ev l i).f2) pre.length (h :: t) = (pre.length : Int) :: idxs (isSend (ev l i).f2) (pre.length + 1) t := by rw [idxs, if_pos c2]
        rw [e4]
        have h1 := hn (s ++ [(pre.length : Int)]) (by simp; omega)
        rw [len_one] at h1
        exact cm_yes c3.1 (cm_yes c3.2 (cm_yes (by omega) (cm_val h1 (by simp))))
      · have e4 : idxs (isSend (ev l i).f2) pre.length (h :: t) = idxs (isSend (ev l i).f2) (pre.length + 1) t := by rw [idxs, if_neg c2]
        rw [e4]
        have h1 := hn s (by simp; omega)
        rw [len_one] at h1
        refine cm_if (fun c3 => cm_no ?_ h1) (fun _ => h1)
        intro c4
        apply c2
        simp only [isSend, Bool.and_eq_true, beq_iff_eq]
        exact ⟨c3, c4⟩
  · rw [if_neg c, List.append_nil]
    have := same_cm (L := fun k j => impl_causes.l1 k l (i : Int) out (i : Int) j) (l.take i) (fin := out) ?_ ?_
    · exact this
    · intro pre h t e hlt v hv
      refine cm_step (fun k => by rw [impl_causes.l1]) ?_
      rw [wrap_len hlt (by omega)]
      exact cm_yes (by omega) (cm_yes (by omega) (cm_yes (by omega) (cm_no c hv)))
    · refine cm_step (fun k => by rw [impl_causes.l1]) ?_
      exact cm_no (by omega) (cm_now fun _ => rfl)
theorem causes_raw (l : List S65) (i : Nat) (hi : i < l.length) (hl : l.length ≤ 1048576) :
    Cm (fun k => impl_causes.f k l (i : Int)) (prevL l i ++ (if (ev l i).f1 = 3 then idxs (isSend (ev l i).f2) 0 (l.take i) else [])) := by
  unfold impl_causes.f prevL
  have key : ∀ n : Nat, n ≤ i → Cm (fun k => impl_causes.l0 k l (i : Int) [] ((n : Int) - 1)) ((match prevFrom l (ev l i).f0 n with | some k => [(k : Int)] | none => []) ++ (if (ev l i).f1 = 3 then idxs (isSend (ev l i).f2) 0 (l.take i) else [])) := by
    intro n
    induction n with
    | zero =>
      intro _
      have h1 := causes_l1 l i hi hl [] (by simp)
      refine cm_step (fun k => by rw [impl_causes.l0]) ?_
      refine cm_no (by omega) ?_
      refine cm_step (fun k => by rw [impl_causes.j1]) ?_
      exact h1
    | succ n ih =>
      intro hn
      have h1 := ih (by omega)
      have e1 : (((n + 1 : Nat) : Int) - 1) = (n : Int) := by omega
      rw [e1]
      refine cm_step (fun k => by rw [impl_causes.l0]) ?_
      rw [wrap_in (x := (n : Int) - 1) (by omega) (by omega)]
      refine cm_yes (by omega) (cm_yes (by omega) (cm_yes (by omega) (cm_yes (by omega) (cm_yes (by omega) ?_))))
      by_cases c : (ev l n).f0 = (ev l i).f0
      · have e2 : prevFrom l (ev l i).f0 (n + 1) = some n := by rw [prevFrom, if_pos c]
        rw [e2]
        have h2 := causes_l1 l i hi hl [(n : Int)] (by simp)
        refine cm_yes c (cm_yes (by simp) ?_)
        refine cm_step (fun k => by rw [impl_causes.j1]) ?_
        exact h2
      · have e2 : prevFrom l (ev l i).f0 (n + 1) = prevFrom l (ev l i).f0 n := by rw [prevFrom, if_neg c]
        rw [e2]
        exact cm_no c h1
  have := key i (Nat.le_refl _)
  rw [wrap_in (by omega) (by omega)]
  exact this
theorem take_sent {procs : Int} {l : List S65} (hg : okFrom (good1 procs) [] l = true) {i : Nat} (hi : i < l.length) (c : (ev l i).f1 = 3) :
    ∃ a x b, l.take i = a ++ x :: b ∧ isSend (ev l i).f2 x = true ∧ (∀ y ∈ a, isSend (ev l i).f2 y = false) ∧ (∀ y ∈ b, isSend (ev l i).f2 y = false) ∧ sendIdx (l.take i) (ev l i).f2 = (a.length : Int) ∧ x.f0 ≠ (ev l i).f0 := by
  have hs := split_at hi
  have hg1 : okFrom (good1 procs) [] (l.take i) = true := by
    have h2 := okFrom_append (good1 procs) (l.take i) [] (ev l i :: l.drop (i + 1))
    rw [hs, hg] at h2
    have h3 := h2.symm
    rw [Bool.and_eq_true] at h3
    exact h3.1
  have h1 := (okFrom_iff (good1 procs) l []).1 hg (l.take i) (ev l i) (l.drop (i + 1)) hs
  rw [List.nil_append] at h1
  rcases foundAt_split (isSend (ev l i).f2) (l.take i) 0 with ⟨h2, h3⟩ | ⟨a, x, b, e, h2, h3, h4⟩
  · exfalso
    have : (l.take i).any (isSend (ev l i).f2) = false := by simpa using h3
    unfold good1 at h1
    rw [if_neg (by omega), if_neg (by omega), if_pos c, anyS_sends, this] at h1
    simp at h1
  · have hb : ∀ y ∈ b, isSend (ev l i).f2 y = false := fun y hy => send_once hg1 e.symm h2 hy
    refine ⟨a, x, b, e, h2, h3, hb, by unfold sendIdx; rw [h4]; simp, ?_⟩
    have h5 : lastS (sends (l.take i)) (ev l i).f2 = x.f0 := by rw [e]; exact lastS_sends a x b _ h2 hb
    unfold good1 at h1
    rw [if_neg (by omega), if_neg (by omega), if_pos c, h5] at h1
    simp only [Bool.and_eq_true, bne_iff_ne, ne_eq] at h1
    exact h1.2.1.2
theorem causes_f {procs : Int} {l : List S65} (hg : okFrom (good1 procs) [] l = true) (i : Nat) (hi : i < l.length) (hl : l.length ≤ 1048576) : Cm (fun k => impl_causes.f k l (i : Int)) (causesL l i) := by
  refine cm_val (causes_raw l i hi hl) ?_
  unfold causesL
  by_cases c : (ev l i).f1 = 3
  · rw [if_pos c, if_pos c]
    obtain ⟨a, x, b, e, h1, h2, h3, h4, _⟩ := take_sent hg hi c
    rw [h4, e, idxs_one _ x b h1 h3 a 0 h2]
    simp
  · rw [if_neg c, if_neg c]
theorem causes_lt {procs : Int} {l : List S65} (hg : okFrom (good1 procs) [] l = true) {i : Nat} (hi : i < l.length) : ∀ k ∈ causesL l i, 0 ≤ k ∧ k < (i : Int) := by
  intro k hk
  unfold causesL prevL at hk
  rw [List.mem_append] at hk
  rcases hk with hk | hk
  · cases h : prevFrom l (ev l i).f0 i with
    | none => rw [h] at hk; cases hk
    | some q =>
      rw [h] at hk
      have := (prev_some h).1
      simp only [List.mem_singleton] at hk
      omega
  · by_cases c : (ev l i).f1 = 3
    · rw [if_pos c, List.mem_singleton] at hk
      obtain ⟨a, x, b, e, h1, h2, h3, h4, _⟩ := take_sent hg hi c
      have h5 := congrArg List.length e
      rw [List.length_take] at h5
      simp only [List.length_append, List.length_cons] at h5
      omega
    · rw [if_neg c] at hk; cases hk
theorem causes_len (l : List S65) (i : Nat) : (causesL l i).length ≤ 2 := by
  unfold causesL prevL
  cases prevFrom l (ev l i).f0 i <;> by_cases c : (ev l i).f1 = 3 <;> simp [c]
def maxOver (out cs : List Int) : Int := cs.foldl (fun m k => mx m (rd out k)) 0
def scal (l : List S65) : Nat → List Int
  | 0 => []
  | n + 1 => scal l n ++ [maxOver (scal l n) (causesL l n) + 1]
theorem scal_length (l : List S65) : ∀ n, (scal l n).length = n
  | 0 => rfl
  | n + 1 => by rw [scal, List.length_append, scal_length l n]; rfl
theorem rd_range {out : List Int} {k b : Int} (hb : 0 ≤ b) (h : ∀ x ∈ out, 0 ≤ x ∧ x ≤ b) : 0 ≤ rd out k ∧ rd out k ≤ b := by
  unfold rd
  rw [List.getD_eq_getElem?_getD]
  cases e : out[k.toNat]? with
  | none => simp; exact hb
  | some x => exact h x (List.mem_of_getElem? e)
theorem max_range {out : List Int} {b : Int} (hb : 0 ≤ b) (h : ∀ x ∈ out, 0 ≤ x ∧ x ≤ b) : ∀ (cs : List Int) (m : Int), 0 ≤ m ∧ m ≤ b → 0 ≤ cs.foldl (fun m k => mx m (rd out k)) m ∧ cs.foldl (fun m k => mx m (rd out k)) m ≤ b
  | [], m, hm => hm
  | k :: t, m, hm => by
    have h1 := rd_range (k := k) hb h
    rw [List.foldl_cons]
    refine max_range hb h t _ ?_
    unfold mx
    split <;> omega
theorem scal_range (l : List S65) : ∀ n, ∀ x ∈ scal l n, 0 ≤ x ∧ x ≤ (n : Int)
  | 0, x, hx => by cases hx
  | n + 1, x, hx => by
    have ih := scal_range l n
    rw [scal, List.mem_append, List.mem_singleton] at hx
    rcases hx with hx | rfl
    · have := ih x hx
      omega
    · have := max_range (by omega) ih (causesL l n) 0 (by omega)
      unfold maxOver
      omega
theorem spec_scal_l1 (l : List S65) (out : List Int) (i : Nat) (hr : ∀ x ∈ out, 0 ≤ x ∧ x ≤ 1048576) (ho : out.length ≤ 1048576) (cs : List Int) (hc : ∀ k ∈ cs, 0 ≤ k ∧ k < (out.length : Int)) (hcl : cs.length ≤ 2) (v : List Int × Bool)
    (hv : Cm (fun k => spec_ScalarClocks.l0 k l (out ++ [maxOver out cs + 1]) (l.length : Int) (wrap64 ((i : Int) + 1))) v) : Cm (fun k => spec_ScalarClocks.l1 k l out 0 (l.length : Int) (i : Int) cs (cs.length : Int) 0) v := by
  refine fold_cm (L := fun k j m => spec_ScalarClocks.l1 k l out m (l.length : Int) (i : Int) cs (cs.length : Int) j) cs (fun m k => mx m (rd out k)) (fun pre m => 0 ≤ m ∧ m ≤ 1048576) 0 (by omega) ?_ ?_
  · intro pre k t m e hlt hm
    have hk := hc k (by rw [← e]; simp)
    have h1 := rd_range (k := k) (by omega) hr
    refine ⟨by unfold mx; split <;> omega, fun u hu => ?_⟩
    refine cm_step (fun k => by rw [spec_ScalarClocks.l1]) ?_
    simp only [rd_at e, wrap_len hlt (show cs.length ≤ 4611686018427387904 by omega)]
    refine cm_yes (by omega) (cm_yes (by omega) (cm_yes (by omega) (cm_yes (by omega) (cm_yes (by omega) ?_))))
    by_cases c : rd out k > m
    · have e1 : mx m (rd out k) = rd out k := by unfold mx; split <;> omega
      rw [e1] at hu
      exact cm_yes c hu
    · have e1 : mx m (rd out k) = m := by unfold mx; split <;> omega
      rw [e1] at hu
      exact cm_no c hu
  · intro hm
    refine cm_step (fun k => by rw [spec_ScalarClocks.l1]) ?_
    rw [wrap_in (x := cs.foldl (fun m k => mx m (rd out k)) 0 + 1) (by omega) (by omega)]
    exact cm_no (by omega) (cm_yes (by omega) hv)
theorem impl_scal_l1 (l : List S65) (out : List Int) (i : Nat) (hr : ∀ x ∈ out, 0 ≤ x ∧ x ≤ 1048576) (ho : out.length ≤ 1048576) (cs : List Int) (hc : ∀ k ∈ cs, 0 ≤ k ∧ k < (out.length : Int)) (hcl : cs.length ≤ 2) (v : List Int × Bool)
    (hv : Cm (fun k => impl_ScalarClocks.l0 k l (out ++ [maxOver out cs + 1]) (l.length : Int) (wrap64 ((i : Int) + 1))) v) : Cm (fun k => impl_ScalarClocks.l1 k l out 0 (l.length : Int) (i : Int) cs (cs.length : Int) 0) v := by
  refine fold_cm (L := fun k j m => impl_ScalarClocks.l1 k l out m (l.length : Int) (i : Int) cs (cs.length : Int) j) cs (fun m k => mx m (rd out k)) (fun pre m => 0 ≤ m ∧ m ≤ 1048576) 0 (by omega) ?_ ?_
  · intro pre k t m e hlt hm
    have hk := hc k (by rw [← e]; simp)
    have h1 := rd_range (k := k) (by omega) hr
    refine ⟨by unfold mx; split <;> omega, fun u hu => ?_⟩
    refine cm_step (fun k => by rw [impl_ScalarClocks.l1]) ?_
    simp only [rd_at e, wrap_len hlt (show cs.length ≤ 4611686018427387904 by omega)]
    exact cm_yes (by omega) (cm_yes (by omega) (cm_yes (by omega) (cm_yes (by omega) (cm_yes (by omega) hu))))
  · intro hm
    refine cm_step (fun k => by rw [impl_ScalarClocks.l1]) ?_
    rw [wrap_in (x := cs.foldl (fun m k => mx m (rd out k)) 0 + 1) (by omega) (by omega)]
    exact cm_no (by omega) (cm_yes (by omega) hv)
theorem scalars {procs : Int} {l : List S65} (hg : good procs l = true) :
    Cm (fun k => spec_ScalarClocks.l0 k l [] (l.length : Int) 0) (scal l l.length, true) ∧ Cm (fun k => impl_ScalarClocks.l0 k l [] (l.length : Int) 0) (scal l l.length, true) := by
  obtain ⟨hg1, _, hl⟩ := good_iff.1 hg
  have key : ∀ (d i : Nat), i + d = l.length → Cm (fun k => spec_ScalarClocks.l0 k l (scal l i) (l.length : Int) (i : Int)) (scal l l.length, true) ∧ Cm (fun k => impl_ScalarClocks.l0 k l (scal l i) (l.length : Int) (i : Int)) (scal l l.length, true) := by
    intro d
    induction d with
    | zero =>
      intro i e
      obtain rfl : i = l.length := by omega
      constructor
      · refine cm_step (fun k => by rw [spec_ScalarClocks.l0]) ?_
        exact cm_no (by omega) (cm_now fun _ => rfl)
      · refine cm_step (fun k => by rw [impl_ScalarClocks.l0]) ?_
        exact cm_no (by omega) (cm_now fun _ => rfl)
    | succ d ih =>
      intro i e
      have hi : i < l.length := by omega
      have h1 := ih (i + 1) (by omega)
      have hr : ∀ x ∈ scal l i, 0 ≤ x ∧ x ≤ 1048576 := fun x hx => by have := scal_range l i x hx; omega
      have hc : ∀ k ∈ causesL l i, 0 ≤ k ∧ k < ((scal l i).length : Int) := fun k hk => by rw [scal_length]; exact causes_lt hg1 hi k hk
      have ho : (scal l i).length ≤ 1048576 := by rw [scal_length]; omega
      have hw : wrap64 ((i : Int) + 1) = ((i + 1 : Nat) : Int) := wrap_len hi (by omega)
      constructor
      · refine cm_step (fun k => by rw [spec_ScalarClocks.l0]) ?_
        refine cm_yes (by omega) (cm_bind (l7Causes_f l i hi (by omega)) ?_)
        exact spec_scal_l1 l (scal l i) i hr ho _ hc (causes_len l i) _ (by rw [hw]; exact h1.1)
      · refine cm_step (fun k => by rw [impl_ScalarClocks.l0]) ?_
        refine cm_yes (by omega) (cm_bind (causes_f hg1 i hi (by omega)) ?_)
        exact impl_scal_l1 l (scal l i) i hr ho _ hc (causes_len l i) _ (by rw [hw]; exact h1.2)
  exact key l.length 0 (by omega)
end Go.Proofs.Ytinbfclfglogmaa.Causes
end
section
namespace Go.Proofs.Ytinbfclfglogmaa.Put
open Go.RowKit Go.Proofs.Ytinbfclfglogmaa.P Go.Proofs.YtinbfclfglogmaaW.PrintWords Go.Proofs.YtinbfclfglogmaaW.PrintLast Go.Proofs.YtinbfclfglogmaaW.PrintMore
open Go.Proofs.Ytinbfclfglogmaa.Pl Go.Proofs.Ytinbfclfglogmaa.EvN Go.Proofs.Ytinbfclfglogmaa.Lp
set_option linter.unusedSimpArgs false
set_option linter.unusedVariables false
def putL : List Int → Int → List Int
  | [], n => [n]
  | h :: t, n => if h < n then h :: putL t n else if h = n then h :: t else n :: h :: t
def Inc (l : List Int) : Prop := l.Pairwise (· < ·)
theorem mem_put (x n : Int) : ∀ l : List Int, x ∈ putL l n ↔ x = n ∨ x ∈ l
  | [] => by simp [putL]
  | h :: t => by
    unfold putL
    by_cases c : h < n
    · rw [if_pos c]
      simp only [List.mem_cons, mem_put x n t]
      constructor
      · rintro (h1 | h1 | h1)
        · exact .inr (.inl h1)
        · exact .inl h1
        · exact .inr (.inr h1)
      · rintro (h1 | h1 | h1)
        · exact .inr (.inl h1)
        · exact .inl h1
        · exact .inr (.inr h1)
    · rw [if_neg c]
      by_cases c2 : h = n
      · rw [if_pos c2]
        subst c2
        simp
      · rw [if_neg c2]
        simp
theorem put_inc (n : Int) : ∀ l : List Int, Inc l → Inc (putL l n)
  | [], _ => by simp [putL, Inc]
  | h :: t, hi => by
    have hi2 := List.pairwise_cons.1 hi
    unfold putL
    by_cases c : h < n
    · rw [if_pos c]
      refine List.pairwise_cons.2 ⟨fun x hx => ?_, put_inc n t hi2.2⟩
      rcases (mem_put x n t).1 hx with rfl | hx
      · exact c
      · exact hi2.1 x hx
    · rw [if_neg c]
      by_cases c2 : h = n
      · rw [if_pos c2]; exact hi
      · rw [if_neg c2]
        refine List.pairwise_cons.2 ⟨fun x hx => ?_, hi⟩
        rcases List.mem_cons.1 hx with rfl | hx
        · omega
        · have := hi2.1 x hx
          omega
theorem put_le (n : Int) : ∀ l : List Int, (putL l n).length ≤ l.length + 1
  | [] => by simp [putL]
  | h :: t => by
    have := put_le n t
    unfold putL
    by_cases c : h < n
    · rw [if_pos c]; simp only [List.length_cons]; omega
    · rw [if_neg c]
      by_cases c2 : h = n
      · rw [if_pos c2]; simp
      · rw [if_neg c2]; simp
def putAll (s l : List Int) : List Int := l.foldl putL s
theorem putAll_inc : ∀ (l s : List Int), Inc s → Inc (putAll s l)
  | [], s, h => h
  | x :: t, s, h => putAll_inc t (putL s x) (put_inc x s h)
theorem mem_putAll (x : Int) : ∀ (l s : List Int), x ∈ putAll s l ↔ x ∈ s ∨ x ∈ l
  | [], s => by simp [putAll]
  | y :: t, s => by
    have := mem_putAll x t (putL s y)
    show x ∈ putAll (putL s y) t ↔ _
    rw [this, mem_put]
    simp only [List.mem_cons]
    constructor
    · rintro ((h | h) | h)
      · exact .inr (.inl h)
      · exact .inl h
      · exact .inr (.inr h)
    · rintro (h | h | h)
      · exact .inl (.inr h)
      · exact .inl (.inl h)
      · exact .inr h
theorem putAll_le : ∀ (l s : List Int), (putAll s l).length ≤ s.length + l.length
  | [], s => by simp [putAll]
  | y :: t, s => by
    have h1 := putAll_le t (putL s y)
    have h2 := put_le y s
    show (putAll (putL s y) t).length ≤ _
    simp only [List.length_cons]
    omega
theorem put_f (l : List Int) (n : Int) (hl : l.length ≤ 1048576) : Cm (fun k => spec_l1Put.f k l n) (putL l n) := by
  unfold spec_l1Put.f
  have key : ∀ (rest pre : List Int), pre ++ rest = l → Cm (fun k => spec_l1Put.l0 k l n (pre.length : Int)) (pre ++ putL rest n) := by
    intro rest
    induction rest with
    | nil =>
      intro pre e
      have h1 := len_end e
      have h2 : l.take ((pre.length : Int)).toNat = pre := take_at e
      have h3 : l.drop ((pre.length : Int)).toNat = [] := by rw [← e]; simp
      refine cm_step (fun k => by rw [spec_l1Put.l0]) ?_
      rw [h2, h3]
      refine cm_no (by omega) (cm_yes (by omega) (cm_yes (by omega) (cm_bind (cm_now fun _ => rfl) (cm_yes (by simp; omega) (cm_bind (cm_now fun _ => rfl) (cm_yes (by simp; omega) (cm_bind (cm_now fun _ => rfl) (cm_bind (cm_now fun _ => rfl) (cm_yes (by simp; omega) (cm_now fun _ => ?_))))))))))
      simp [putL]
    | cons h t ih =>
      intro pre e
      have hlt := len_mid e
      have h2 : l.take ((pre.length : Int)).toNat = pre := take_at e
      have h3 : l.drop ((pre.length : Int)).toNat = h :: t := by rw [← e]; simp
      have h4 := congrArg List.length e
      simp only [List.length_append, List.length_cons] at h4
      have ih2 := ih (pre ++ [h]) (app_mid e)
      rw [len_one] at ih2
      refine cm_step (fun k => by rw [spec_l1Put.l0]) ?_
      simp only [rd_at e, wrap_len hlt (show l.length ≤ 4611686018427387904 by omega)]
      rw [h2, h3]
      refine cm_yes (by omega) (cm_yes (by omega) ?_)
      by_cases c : h < n
      · have e1 : putL (h :: t) n = h :: putL t n := by rw [putL, if_pos c]
        rw [e1]
        refine cm_yes c (cm_val ih2 (by simp))
      · by_cases c2 : h = n
        · have e1 : putL (h :: t) n = h :: t := by rw [putL, if_neg c, if_pos c2]
          rw [e1, e]
          refine cm_no c (cm_yes c2 (cm_now fun _ => rfl))
        · have e1 : putL (h :: t) n = n :: h :: t := by rw [putL, if_neg c, if_neg c2]
          rw [e1]
          refine cm_no c (cm_no c2 (cm_yes (by omega) (cm_bind (cm_now fun _ => rfl) (cm_yes (by simp; omega) (cm_bind (cm_now fun _ => rfl) (cm_yes (by simp; omega) (cm_bind (cm_now fun _ => rfl) (cm_bind (cm_now fun _ => rfl) (cm_yes (by simp; omega) (cm_now fun _ => ?_))))))))))
          simp
  exact key l [] rfl
end Go.Proofs.Ytinbfclfglogmaa.Put
end
section
namespace Go.Proofs.Ytinbfclfglogmaa.Pasts
open Go.RowKit Go.Proofs.Ytinbfclfglogmaa.P Go.Proofs.YtinbfclfglogmaaW.PrintWords Go.Proofs.YtinbfclfglogmaaW.PrintLast Go.Proofs.YtinbfclfglogmaaW.PrintMore
open Go.Proofs.Ytinbfclfglogmaa.Pl Go.Proofs.Ytinbfclfglogmaa.EvN Go.Proofs.Ytinbfclfglogmaa.Lp Go.Proofs.Ytinbfclfglogmaa.Mem Go.Proofs.Ytinbfclfglogmaa.Xm Go.Proofs.Ytinbfclfglogmaa.Hg Go.Proofs.Ytinbfclfglogmaa.Events Go.Proofs.Ytinbfclfglogmaa.Causes Go.Proofs.Ytinbfclfglogmaa.Put
set_option linter.unusedSimpArgs false
set_option linter.unusedVariables false
def putC (P : List (List Int)) (s : List Int) (cs : List Int) : List Int := cs.foldl (fun s k => putAll (putL s k) (rd_L1 P k)) s
def pasts (l : List S65) : Nat → List (List Int)
  | 0 => []
  | n + 1 => pasts l n ++ [putC (pasts l n) [] (causesL l n)]
def pastOf (l : List S65) (i : Nat) : List Int := putC (pasts l i) [] (causesL l i)
theorem pasts_length (l : List S65) : ∀ n, (pasts l n).length = n
  | 0 => rfl
  | n + 1 => by rw [pasts, List.length_append, pasts_length l n]; rfl
theorem rd_append {P : List (List Int)} {x : List Int} {k : Nat} (h : k < P.length) : rd_L1 (P ++ [x]) (k : Int) = rd_L1 P (k : Int) := by
  unfold rd_L1
  rw [Int.toNat_natCast, List.getD_eq_getElem?_getD, List.getD_eq_getElem?_getD, List.getElem?_append_left h]
theorem rd_last_ {P : List (List Int)} {x : List Int} : rd_L1 (P ++ [x]) (P.length : Int) = x := l1_at (t := []) rfl
theorem rd_pasts (l : List S65) : ∀ {n k : Nat}, k < n → rd_L1 (pasts l n) (k : Int) = pastOf l k
  | n + 1, k, h => by
    rw [pasts]
    by_cases c : k = n
    · subst c
      have := rd_last_ (P := pasts l k) (x := putC (pasts l k) [] (causesL l k))
      rw [pasts_length] at this
      exact this
    · rw [rd_append (by rw [pasts_length]; omega)]
      exact rd_pasts l (by omega)
theorem putC_inc (P : List (List Int)) : ∀ (cs s : List Int), Inc s → Inc (putC P s cs)
  | [], s, h => h
  | k :: t, s, h => putC_inc P t _ (putAll_inc _ _ (put_inc k s h))
theorem mem_putC (P : List (List Int)) (x : Int) : ∀ (cs s : List Int), x ∈ putC P s cs ↔ x ∈ s ∨ ∃ k ∈ cs, x = k ∨ x ∈ rd_L1 P k
  | [], s => by simp [putC]
  | k :: t, s => by
    have h := mem_putC P x t (putAll (putL s k) (rd_L1 P k))
    show x ∈ putC P (putAll (putL s k) (rd_L1 P k)) t ↔ _
    rw [h, mem_putAll, mem_put]
    simp only [List.mem_cons]
    constructor
    · rintro (((h1 | h1) | h1) | ⟨q, h1, h2⟩)
      · exact .inr ⟨k, .inl rfl, .inl h1⟩
      · exact .inl h1
      · exact .inr ⟨k, .inl rfl, .inr h1⟩
      · exact .inr ⟨q, .inr h1, h2⟩
    · rintro (h1 | ⟨q, rfl | h1, h2⟩)
      · exact .inl (.inl (.inr h1))
      · rcases h2 with h2 | h2
        · exact .inl (.inl (.inl h2))
        · exact .inl (.inr h2)
      · exact .inr ⟨q, h1, h2⟩
theorem pastOf_inc (l : List S65) (i : Nat) : Inc (pastOf l i) := putC_inc _ _ [] List.Pairwise.nil
section
variable {procs : Int} {l : List S65}
theorem mem_past (hg : okFrom (good1 procs) [] l = true) {i : Nat} (hi : i < l.length) (x : Int) : x ∈ pastOf l i ↔ ∃ k : Nat, k < i ∧ (k : Int) ∈ causesL l i ∧ (x = (k : Int) ∨ x ∈ pastOf l k) := by
  unfold pastOf
  rw [mem_putC]
  constructor
  · rintro (h | ⟨k, h1, h2⟩)
    · cases h
    · have h3 := causes_lt hg hi k h1
      have h4 : ((k.toNat : Nat) : Int) = k := by omega
      refine ⟨k.toNat, by omega, by rw [h4]; exact h1, ?_⟩
      have h5 := rd_pasts l (n := i) (k := k.toNat) (by omega)
      rw [h4] at h5
      rw [h5] at h2
      rw [h4]
      exact h2
  · rintro ⟨k, h1, h2, h3⟩
    refine .inr ⟨(k : Int), h2, ?_⟩
    rw [rd_pasts l h1]
    exact h3
theorem past_lt (hg : okFrom (good1 procs) [] l = true) : ∀ {i : Nat}, i < l.length → ∀ x ∈ pastOf l i, 0 ≤ x ∧ x < (i : Int) := by
  intro i
  induction i using Nat.strongRecOn with
  | _ i ih =>
    intro hi x hx
    obtain ⟨k, h1, h2, h3⟩ := (mem_past hg hi x).1 hx
    rcases h3 with h3 | h3
    · omega
    · have := ih k h1 (by omega) x h3
      omega
theorem past_trans (hg : okFrom (good1 procs) [] l = true) {j : Nat} {x : Int} (hx : x ∈ pastOf l j) : ∀ {b : Nat}, b < l.length → (j : Int) ∈ pastOf l b → x ∈ pastOf l b := by
  intro b
  induction b using Nat.strongRecOn with
  | _ b ih =>
    intro hb hj
    obtain ⟨k, h1, h2, h3⟩ := (mem_past hg hb _).1 hj
    refine (mem_past hg hb x).2 ⟨k, h1, h2, .inr ?_⟩
    rcases h3 with h3 | h3
    · have : k = j := by omega
      subst this
      exact hx
    · exact ih k h1 (by omega) h3
theorem prev_causes {i q : Nat} (h : prevFrom l (ev l i).f0 i = some q) : (q : Int) ∈ causesL l i := by
  unfold causesL prevL
  rw [h]
  simp
theorem past_pred (hg : okFrom (good1 procs) [] l = true) {a : Nat} : ∀ {j : Nat}, j < l.length → a < j → (ev l a).f0 = (ev l j).f0 → (a : Int) ∈ pastOf l j := by
  intro j
  induction j using Nat.strongRecOn with
  | _ j ih =>
    intro hj haj hp
    cases h : prevFrom l (ev l j).f0 j with
    | none => exact absurd hp (prev_none h a haj)
    | some q =>
      obtain ⟨h1, h2, h3⟩ := prev_some h
      have h4 : a ≤ q := by
        by_cases c : a ≤ q
        · exact c
        · exact absurd hp (h3 a (by omega) haj)
      refine (mem_past hg hj _).2 ⟨q, h1, prev_causes h, ?_⟩
      by_cases c : a = q
      · exact .inl (by rw [c])
      · exact .inr (ih q h1 (by omega) (by omega) (by rw [h2]; exact hp))
def rank (l : List S65) (p : Int) : Nat → Nat
  | 0 => 0
  | n + 1 => rank l p n + (if (ev l n).f0 = p then 1 else 0)
def rk (l : List S65) (j : Nat) : Nat := rank l (ev l j).f0 (j + 1)
theorem rank_mono (p : Int) : ∀ {m n : Nat}, m ≤ n → rank l p m ≤ rank l p n := by
  intro m n h
  induction n with
  | zero =>
    have : m = 0 := by omega
    subst this
    exact Nat.le_refl _
  | succ n ih =>
    by_cases c : m = n + 1
    · subst c; exact Nat.le_refl _
    · have := ih (by omega)
      rw [rank]
      omega
theorem rank_step {j : Nat} : rank l (ev l j).f0 (j + 1) = rank l (ev l j).f0 j + 1 := by rw [rank, if_pos rfl]
theorem rank_prev {p : Int} : ∀ {n q : Nat}, prevFrom l p n = some q → rank l p n = rank l p (q + 1)
  | 0, q, h => by cases h
  | n + 1, q, h => by
    unfold prevFrom at h
    by_cases c : (ev l n).f0 = p
    · rw [if_pos c] at h
      rw [Option.some.inj h]
    · rw [if_neg c] at h
      rw [rank, if_neg c]
      exact rank_prev h
theorem rank_none {p : Int} : ∀ {n : Nat}, prevFrom l p n = none → rank l p n = 0
  | 0, _ => rfl
  | n + 1, h => by
    unfold prevFrom at h
    by_cases c : (ev l n).f0 = p
    · rw [if_pos c] at h; cases h
    · rw [if_neg c] at h
      rw [rank, if_neg c, rank_none h]
theorem rank_le (p : Int) : ∀ n, rank l p n ≤ n
  | 0 => Nat.le_refl _
  | n + 1 => by
    have := rank_le p n
    rw [rank]
    split <;> omega
end
def joinV (c v : List Int) : List Int := List.zipWith mx c v
def joinC (V : List (List Int)) (c : List Int) (cs : List Int) : List Int := cs.foldl (fun c k => joinV c (rd_L1 V k)) c
def bump (c : List Int) (p : Int) : List Int := c.set p.toNat (rd c p + 1)
def zeros (procs : Int) : List Int := List.replicate procs.toNat 0
def vecs (procs : Int) (l : List S65) : Nat → List (List Int)
  | 0 => []
  | n + 1 => vecs procs l n ++ [bump (joinC (vecs procs l n) (zeros procs) (causesL l n)) (ev l n).f0]
def joinOf (procs : Int) (l : List S65) (i : Nat) : List Int := joinC (vecs procs l i) (zeros procs) (causesL l i)
def vecOf (procs : Int) (l : List S65) (i : Nat) : List Int := bump (joinOf procs l i) (ev l i).f0
theorem vecs_length (procs : Int) (l : List S65) : ∀ n, (vecs procs l n).length = n
  | 0 => rfl
  | n + 1 => by rw [vecs, List.length_append, vecs_length procs l n]; rfl
theorem rd_vecs (procs : Int) (l : List S65) : ∀ {n k : Nat}, k < n → rd_L1 (vecs procs l n) (k : Int) = vecOf procs l k
  | n + 1, k, h => by
    rw [vecs]
    by_cases c : k = n
    · subst c
      have := rd_last_ (P := vecs procs l k) (x := bump (joinC (vecs procs l k) (zeros procs) (causesL l k)) (ev l k).f0)
      rw [vecs_length] at this
      exact this
    · rw [rd_append (by rw [vecs_length]; omega)]
      exact rd_vecs procs l (by omega)
theorem rd_join {c v : List Int} {p : Nat} (hc : p < c.length) (hv : p < v.length) : rd (joinV c v) (p : Int) = mx (rd c (p : Int)) (rd v (p : Int)) := by
  unfold rd joinV
  rw [Int.toNat_natCast, List.getD_eq_getElem?_getD, List.getD_eq_getElem?_getD, List.getD_eq_getElem?_getD, List.getElem?_zipWith, List.getElem?_eq_getElem hc, List.getElem?_eq_getElem hv]
  rfl
theorem join_length {c v : List Int} (h : c.length = v.length) : (joinV c v).length = c.length := by
  unfold joinV
  rw [List.length_zipWith, ← h, Nat.min_self]
theorem joinC_length (V : List (List Int)) (m : Nat) : ∀ (cs c : List Int), (∀ k ∈ cs, (rd_L1 V k).length = m) → c.length = m → (joinC V c cs).length = m
  | [], c, _, hc => hc
  | k :: t, c, hV, hc => joinC_length V m t _ (fun q hq => hV q (by simp [hq])) (by rw [join_length (by rw [hc, hV k (by simp)]), hc])
theorem le_mx {r a b : Int} : r ≤ mx a b ↔ r ≤ a ∨ r ≤ b := by
  unfold mx
  split <;> omega
theorem le_joinC (V : List (List Int)) (m : Nat) (r : Int) {p : Nat} (hp : p < m) : ∀ (cs c : List Int), (∀ k ∈ cs, (rd_L1 V k).length = m) → c.length = m → (r ≤ rd (joinC V c cs) (p : Int) ↔ r ≤ rd c (p : Int) ∨ ∃ k ∈ cs, r ≤ rd (rd_L1 V k) (p : Int))
  | [], c, _, _ => by simp [joinC]
  | k :: t, c, hV, hc => by
    have hk := hV k (by simp)
    have h := le_joinC V m r hp t (joinV c (rd_L1 V k)) (fun q hq => hV q (by simp [hq])) (by rw [join_length (by rw [hc, hk]), hc])
    show r ≤ rd (joinC V (joinV c (rd_L1 V k)) t) (p : Int) ↔ _
    rw [h, rd_join (by omega) (by omega), le_mx]
    simp only [List.mem_cons]
    constructor
    · rintro ((h1 | h1) | ⟨q, h1, h2⟩)
      · exact .inl h1
      · exact .inr ⟨k, .inl rfl, h1⟩
      · exact .inr ⟨q, .inr h1, h2⟩
    · rintro (h1 | ⟨q, rfl | h1, h2⟩)
      · exact .inl (.inl h1)
      · exact .inl (.inr h2)
      · exact .inr ⟨q, h1, h2⟩
theorem rd_bump_same {c : List Int} {p : Nat} (h : p < c.length) : rd (bump c (p : Int)) (p : Int) = rd c (p : Int) + 1 := by
  have e : ((p : Int)).toNat = p := Int.toNat_natCast p
  show (bump c (p : Int)).getD ((p : Int)).toNat 0 = rd c (p : Int) + 1
  unfold bump
  rw [e, List.getD_eq_getElem?_getD, List.getElem?_set_self h, Option.getD_some]
theorem rd_bump_other {c : List Int} {p q : Nat} (h : q ≠ p) : rd (bump c (p : Int)) (q : Int) = rd c (q : Int) := by
  unfold rd bump
  rw [Int.toNat_natCast, Int.toNat_natCast, List.getD_eq_getElem?_getD, List.getD_eq_getElem?_getD, List.getElem?_set_ne (fun e => h e.symm)]
theorem bump_length (c : List Int) (p : Int) : (bump c p).length = c.length := by unfold bump; rw [List.length_set]
section
variable {procs : Int} {l : List S65}
theorem proc_in (hg : okFrom (good1 procs) [] l = true) {i : Nat} (hi : i < l.length) : 0 ≤ (ev l i).f0 ∧ (ev l i).f0 ≤ procs - 1 := by
  have h1 := (okFrom_iff (good1 procs) l []).1 hg (l.take i) (ev l i) (l.drop (i + 1)) (split_at hi)
  unfold good1 at h1
  simp only [Bool.and_eq_true, decide_eq_true_eq] at h1
  exact h1.1
theorem vec_length (hg : okFrom (good1 procs) [] l = true) : ∀ {i : Nat}, i < l.length → (joinOf procs l i).length = procs.toNat ∧ (vecOf procs l i).length = procs.toNat := by
  intro i
  induction i using Nat.strongRecOn with
  | _ i ih =>
    intro hi
    have h1 : (joinOf procs l i).length = procs.toNat := by
      unfold joinOf
      refine joinC_length _ _ _ _ (fun k hk => ?_) (by unfold zeros; simp)
      have h2 := causes_lt hg hi k hk
      have h4 : ((k.toNat : Nat) : Int) = k := by omega
      rw [← h4, rd_vecs procs l (by omega)]
      exact (ih k.toNat (by omega) (by omega)).2
    refine ⟨h1, ?_⟩
    unfold vecOf
    rw [bump_length, h1]
theorem le_joinOf (hg : okFrom (good1 procs) [] l = true) {i : Nat} (hi : i < l.length) {r : Int} (hr : 1 ≤ r) {p : Nat} (hp : (p : Int) < procs) : r ≤ rd (joinOf procs l i) (p : Int) ↔ ∃ k : Nat, k < i ∧ (k : Int) ∈ causesL l i ∧ r ≤ rd (vecOf procs l k) (p : Int) := by
  unfold joinOf
  rw [le_joinC _ procs.toNat r (by omega) _ _ (fun k hk => by
    have h2 := causes_lt hg hi k hk
    have h4 : ((k.toNat : Nat) : Int) = k := by omega
    rw [← h4, rd_vecs procs l (by omega)]
    exact (vec_length hg (by omega)).2) (by unfold zeros; simp)]
  have hz : rd (zeros procs) (p : Int) = 0 := by
    unfold rd zeros
    rw [Int.toNat_natCast, List.getD_eq_getElem?_getD, List.getElem?_replicate]
    split <;> rfl
  rw [hz]
  constructor
  · rintro (h | ⟨k, h1, h2⟩)
    · omega
    · have h3 := causes_lt hg hi k h1
      have h4 : ((k.toNat : Nat) : Int) = k := by omega
      refine ⟨k.toNat, by omega, by rw [h4]; exact h1, ?_⟩
      rw [← rd_vecs procs l (n := i) (by omega), h4]
      exact h2
  · rintro ⟨k, h1, h2, h3⟩
    exact .inr ⟨(k : Int), h2, by rw [rd_vecs procs l h1]; exact h3⟩
theorem join_nonneg (hg : okFrom (good1 procs) [] l = true) {i : Nat} (hi : i < l.length) {p : Nat} (hp : (p : Int) < procs) : 0 ≤ rd (joinOf procs l i) (p : Int) := by
  unfold joinOf
  rw [le_joinC _ procs.toNat 0 (by omega) _ _ (fun k hk => by
    have h2 := causes_lt hg hi k hk
    have h4 : ((k.toNat : Nat) : Int) = k := by omega
    rw [← h4, rd_vecs procs l (by omega)]
    exact (vec_length hg (by omega)).2) (by unfold zeros; simp)]
  left
  unfold rd zeros
  rw [Int.toNat_natCast, List.getD_eq_getElem?_getD, List.getElem?_replicate]
  split <;> simp
theorem told (hg : okFrom (good1 procs) [] l = true) : ∀ {i : Nat}, i < l.length →
    (∀ p : Nat, (p : Int) < procs → ∀ r : Int, 1 ≤ r → (r ≤ rd (joinOf procs l i) (p : Int) ↔ ∃ j : Nat, (j : Int) ∈ pastOf l i ∧ (ev l j).f0 = (p : Int) ∧ r ≤ (rk l j : Int))) ∧
    rd (joinOf procs l i) (ev l i).f0 = (rank l (ev l i).f0 i : Int) ∧
    (∀ p : Nat, (p : Int) < procs → ∀ r : Int, 1 ≤ r → (r ≤ rd (vecOf procs l i) (p : Int) ↔ ∃ j : Nat, (j = i ∨ (j : Int) ∈ pastOf l i) ∧ (ev l j).f0 = (p : Int) ∧ r ≤ (rk l j : Int))) := by
  intro i
  induction i using Nat.strongRecOn with
  | _ i ih =>
    intro hi
    have A : ∀ p : Nat, (p : Int) < procs → ∀ r : Int, 1 ≤ r → (r ≤ rd (joinOf procs l i) (p : Int) ↔ ∃ j : Nat, (j : Int) ∈ pastOf l i ∧ (ev l j).f0 = (p : Int) ∧ r ≤ (rk l j : Int)) := by
      intro p hp r hr
      rw [le_joinOf hg hi hr hp]
      constructor
      · rintro ⟨k, h1, h2, h3⟩
        obtain ⟨j, h4, h5, h6⟩ := ((ih k h1 (by omega)).2.2 p hp r hr).1 h3
        refine ⟨j, (mem_past hg hi _).2 ⟨k, h1, h2, ?_⟩, h5, h6⟩
        rcases h4 with h4 | h4
        · exact .inl (by rw [h4])
        · exact .inr h4
      · rintro ⟨j, h1, h2, h3⟩
        obtain ⟨k, h4, h5, h6⟩ := (mem_past hg hi _).1 h1
        refine ⟨k, h4, h5, ((ih k h4 (by omega)).2.2 p hp r hr).2 ⟨j, ?_, h2, h3⟩⟩
        rcases h6 with h6 | h6
        · exact .inl (by omega)
        · exact .inr h6
    have hpi := proc_in hg hi
    have hq : (((ev l i).f0.toNat : Nat) : Int) = (ev l i).f0 := by omega
    have B : rd (joinOf procs l i) (ev l i).f0 = (rank l (ev l i).f0 i : Int) := by
      have h0 := join_nonneg hg hi (p := (ev l i).f0.toNat) (by omega)
      have hA := A (ev l i).f0.toNat (by omega)
      rw [hq] at h0 hA
      have h1 : rd (joinOf procs l i) (ev l i).f0 ≤ (rank l (ev l i).f0 i : Int) := by
        by_cases c : 1 ≤ rd (joinOf procs l i) (ev l i).f0
        · obtain ⟨j, h2, h3, h4⟩ := (hA _ c).1 (Int.le_refl _)
          have h5 := past_lt hg hi _ h2
          have h6 := rank_mono (l := l) (ev l i).f0 (show j + 1 ≤ i by omega)
          unfold rk at h4
          rw [h3] at h4
          omega
        · omega
      have h2 : (rank l (ev l i).f0 i : Int) ≤ rd (joinOf procs l i) (ev l i).f0 := by
        cases h : prevFrom l (ev l i).f0 i with
        | none => rw [rank_none h]; exact h0
        | some q =>
          obtain ⟨h3, h4, _⟩ := prev_some h
          have h5 := rank_prev h
          have h6 : rk l q = rank l (ev l i).f0 i := by unfold rk; rw [h4, h5]
          have h7 := rank_step (l := l) (j := q)
          have h8 : (rank l (ev l q).f0 (q + 1)) = rk l q := rfl
          refine (hA _ (by omega)).2 ⟨q, (mem_past hg hi _).2 ⟨q, h3, prev_causes h, .inl rfl⟩, h4, by omega⟩
      omega
    refine ⟨A, B, fun p hp r hr => ?_⟩
    unfold vecOf
    have hlen := (vec_length hg hi).1
    by_cases c : (p : Int) = (ev l i).f0
    · have e1 : rd (bump (joinOf procs l i) (ev l i).f0) (p : Int) = rd (joinOf procs l i) (ev l i).f0 + 1 := by
        rw [← c]
        exact rd_bump_same (by rw [hlen]; omega)
      rw [e1, B]
      have e2 : rk l i = rank l (ev l i).f0 i + 1 := rank_step
      constructor
      · intro h
        exact ⟨i, .inl rfl, c.symm, by omega⟩
      · rintro ⟨j, h1, h2, h3⟩
        rcases h1 with rfl | h1
        · omega
        · have h5 := past_lt hg hi _ h1
          have h6 := rank_mono (l := l) (ev l i).f0 (show j + 1 ≤ i by omega)
          unfold rk at h3
          rw [h2, c] at h3
          omega
    · have e1 : rd (bump (joinOf procs l i) (ev l i).f0) (p : Int) = rd (joinOf procs l i) (p : Int) := by
        rw [← hq]
        exact rd_bump_other (by omega)
      rw [e1, A p hp r hr]
      constructor
      · rintro ⟨j, h1, h2, h3⟩
        exact ⟨j, .inr h1, h2, h3⟩
      · rintro ⟨j, h1, h2, h3⟩
        rcases h1 with rfl | h1
        · exact absurd h2.symm c
        · exact ⟨j, h1, h2, h3⟩
theorem vec_own (hg : okFrom (good1 procs) [] l = true) {i : Nat} (hi : i < l.length) : rd (vecOf procs l i) (ev l i).f0 = (rk l i : Int) := by
  have hpi := proc_in hg hi
  have hq : (((ev l i).f0.toNat : Nat) : Int) = (ev l i).f0 := by omega
  have e1 : rd (vecOf procs l i) (ev l i).f0 = rd (joinOf procs l i) (ev l i).f0 + 1 := by
    have := rd_bump_same (c := joinOf procs l i) (p := (ev l i).f0.toNat) (by rw [(vec_length hg hi).1]; omega)
    rw [hq] at this
    exact this
  rw [e1, (told hg hi).2.1]
  have : rk l i = rank l (ev l i).f0 i + 1 := rank_step
  omega
theorem ahead_iff (hg : okFrom (good1 procs) [] l = true) {a b : Nat} (ha : a < l.length) (hb : b < l.length) :
    (a ≠ b ∧ rd (vecOf procs l a) (ev l a).f0 ≤ rd (vecOf procs l b) (ev l a).f0) ↔ (a : Int) ∈ pastOf l b := by
  have hpa := proc_in hg ha
  have hq : (((ev l a).f0.toNat : Nat) : Int) = (ev l a).f0 := by omega
  have h1 : 1 ≤ (rk l a : Int) := by
    have : rk l a = rank l (ev l a).f0 a + 1 := rank_step
    omega
  have T := (told hg hb).2.2 (ev l a).f0.toNat (by omega) _ h1
  rw [hq] at T
  rw [vec_own hg ha, T]
  constructor
  · rintro ⟨hne, j, h2, h3, h4⟩
    have hj : j < l.length := by
      rcases h2 with rfl | h2
      · exact hb
      · have := past_lt hg hb _ h2
        omega
    have h5 : a ≤ j := by
      by_cases c : a ≤ j
      · exact c
      · have h6 := rank_mono (l := l) (ev l a).f0 (show j + 1 ≤ a by omega)
        have h7 : rk l a = rank l (ev l a).f0 a + 1 := rank_step
        unfold rk at h4 h7
        rw [h3] at h4
        omega
    by_cases c : a = j
    · subst c
      rcases h2 with h2 | h2
      · exact absurd h2 hne
      · exact h2
    · have h6 := past_pred hg hj (show a < j by omega) h3.symm
      rcases h2 with rfl | h2
      · exact h6
      · exact past_trans hg h6 hb h2
  · intro h
    have := past_lt hg hb _ h
    exact ⟨by omega, a, .inr h, rfl, Int.le_refl _⟩
end
end Go.Proofs.Ytinbfclfglogmaa.Pasts
end
section
namespace Go.Proofs.Ytinbfclfglogmaa.Mem
open Go.RowKit Go.Proofs.Ytinbfclfglogmaa.P Go.Proofs.YtinbfclfglogmaaW.PrintWords Go.Proofs.YtinbfclfglogmaaW.PrintLast Go.Proofs.YtinbfclfglogmaaW.PrintMore
open Go.Proofs.Ytinbfclfglogmaa.Pl Go.Proofs.Ytinbfclfglogmaa.EvN Go.Proofs.Ytinbfclfglogmaa.Lp Go.Proofs.Ytinbfclfglogmaa.Sets
set_option linter.unusedSimpArgs false
set_option linter.unusedVariables false
theorem has_f (l : List Int) (n : Int) (hl : l.length ≤ 4611686018427387904) : Cm (fun k => spec_l1Has.f k l n) (decide (n ∈ l)) := by
  unfold spec_l1Has.f
  have := every_cm (L := fun k i => spec_l1Has.l0 k n l (l.length : Int) i) l (fun x => decide (x ≠ n)) (fin := false) (no := true) ?_ ?_ ?_
  · refine cm_val this ?_
    by_cases c : n ∈ l
    · simp [c]
    · simp [c]
      intro x hx e
      subst e
      exact c hx
  · intro pre h t e hlt hp v hv
    simp only [decide_eq_true_eq] at hp
    refine cm_step (fun k => by rw [spec_l1Has.l0]) ?_
    simp only [rd_at e, wrap_len hlt hl]
    repeat (first | assumption | exact cm_now (fun _ => rfl) | refine cm_yes (by first | omega | assumption | (simp; done) | (simp; omega)) ?_ | refine cm_no (by first | omega | assumption | (simp; done) | (simp; omega)) ?_)
  · intro pre h t e hlt hp
    simp only [decide_eq_false_iff_not, ne_eq, Decidable.not_not] at hp
    refine cm_step (fun k => by rw [spec_l1Has.l0]) ?_
    simp only [rd_at e, wrap_len hlt hl]
    repeat (first | assumption | exact cm_now (fun _ => rfl) | refine cm_yes (by first | omega | assumption | (simp; done) | (simp; omega)) ?_ | refine cm_no (by first | omega | assumption | (simp; done) | (simp; omega)) ?_)
  · intro _
    refine cm_step (fun k => by rw [spec_l1Has.l0]) ?_
    repeat (first | assumption | exact cm_now (fun _ => rfl) | refine cm_yes (by first | omega | assumption | (simp; done) | (simp; omega)) ?_ | refine cm_no (by first | omega | assumption | (simp; done) | (simp; omega)) ?_)
end Go.Proofs.Ytinbfclfglogmaa.Mem
end
section
namespace Go.Proofs.Ytinbfclfglogmaa.PastsF
open Go.RowKit Go.Proofs.Ytinbfclfglogmaa.P Go.Proofs.YtinbfclfglogmaaW.PrintWords Go.Proofs.YtinbfclfglogmaaW.PrintLast Go.Proofs.YtinbfclfglogmaaW.PrintMore
open Go.Proofs.Ytinbfclfglogmaa.Pl Go.Proofs.Ytinbfclfglogmaa.EvN Go.Proofs.Ytinbfclfglogmaa.Lp Go.Proofs.Ytinbfclfglogmaa.Mem Go.Proofs.Ytinbfclfglogmaa.Xm Go.Proofs.Ytinbfclfglogmaa.Hg Go.Proofs.Ytinbfclfglogmaa.Events Go.Proofs.Ytinbfclfglogmaa.Causes Go.Proofs.Ytinbfclfglogmaa.Put Go.Proofs.Ytinbfclfglogmaa.Pasts
set_option linter.unusedSimpArgs false
set_option linter.unusedVariables false
theorem inc_len : ∀ (l : List Int) (a n : Int), Inc l → (∀ x ∈ l, a ≤ x ∧ x < n) → (l.length : Int) ≤ mx 0 (n - a)
  | [], a, n, _, _ => by unfold mx; simp; split <;> omega
  | x :: t, a, n, hi, h => by
    have hi2 := List.pairwise_cons.1 hi
    have hx := h x (by simp)
    have := inc_len t (x + 1) n hi2.2 (fun y hy => ⟨by have := hi2.1 y hy; omega, (h y (by simp [hy])).2⟩)
    simp only [List.length_cons]
    unfold mx at this ⊢
    split at this <;> split <;> omega
theorem past_len {procs : Int} {l : List S65} (hg : okFrom (good1 procs) [] l = true) {i : Nat} (hi : i < l.length) : (pastOf l i).length ≤ i := by
  have := inc_len (pastOf l i) 0 (i : Int) (pastOf_inc l i) (past_lt hg hi)
  unfold mx at this
  split at this <;> omega
theorem pasts_l2 (l : List S65) (P : List (List Int)) (i j : Int) (cs : List Int) (ys : List Int) (hy : ys.length ≤ 1048576) (s : List Int) (hs : s.length ≤ 1000) (hsy : s.length + ys.length ≤ 1000) (v : List (List Int))
    (hv : Cm (fun k => spec_l7Pasts.l1 k l P (putAll s ys) (l.length : Int) i cs (cs.length : Int) (wrap64 (j + 1))) v) :
    Cm (fun k => spec_l7Pasts.l2 k l P s (l.length : Int) i cs (cs.length : Int) j ys (ys.length : Int) 0) v := by
  refine fold_cm (L := fun k q s => spec_l7Pasts.l2 k l P s (l.length : Int) i cs (cs.length : Int) j ys (ys.length : Int) q) ys putL (fun pre t => t.length ≤ s.length + pre.length) s (by simp) ?_ ?_
  · intro pre x t u e hlt hu
    have h1 := put_le x u
    refine ⟨by rw [len_one]; omega, fun w hw => ?_⟩
    refine cm_step (fun k => by rw [spec_l7Pasts.l2]) ?_
    simp only [rd_at e, wrap_len hlt (show ys.length ≤ 4611686018427387904 by omega)]
    repeat (first | assumption | exact cm_now (fun _ => rfl) | refine cm_bind (put_f _ _ (by omega)) ?_ | refine cm_yes (by first | omega | assumption | (simp; done) | (simp; omega)) ?_ | refine cm_no (by first | omega | assumption | (simp; done) | (simp; omega)) ?_)
  · intro _
    refine cm_step (fun k => by rw [spec_l7Pasts.l2]) ?_
    exact cm_no (by omega) hv
theorem pasts_l1 {procs : Int} {l : List S65} (hg : okFrom (good1 procs) [] l = true) (hl : l.length ≤ 24) {i : Nat} (hi : i < l.length) (v : List (List Int))
    (hv : Cm (fun k => spec_l7Pasts.l0 k l (pasts l (i + 1)) (l.length : Int) ((i + 1 : Nat) : Int)) v) :
    Cm (fun k => spec_l7Pasts.l1 k l (pasts l i) [] (l.length : Int) (i : Int) (causesL l i) ((causesL l i).length : Int) 0) v := by
  have hcl := causes_len l i
  refine fold_cm (L := fun k j s => spec_l7Pasts.l1 k l (pasts l i) s (l.length : Int) (i : Int) (causesL l i) ((causesL l i).length : Int) j) (causesL l i) (fun s k => putAll (putL s k) (rd_L1 (pasts l i) k)) (fun pre s => s.length ≤ 25 * pre.length) [] (by simp) ?_ ?_
  · intro pre c t s e hlt hs
    have hc := causes_lt hg hi c (by rw [← e]; simp)
    have h4 : ((c.toNat : Nat) : Int) = c := by omega
    have hrd := rd_pasts l (n := i) (k := c.toNat) (by omega)
    rw [h4] at hrd
    have hpl := past_len hg (i := c.toNat) (by omega)
    have h1 := put_le c s
    have h2 := putAll_le (pastOf l c.toNat) (putL s c)
    refine ⟨by rw [hrd, len_one]; omega, fun w hw => ?_⟩
    rw [hrd] at hw
    refine cm_step (fun k => by rw [spec_l7Pasts.l1]) ?_
    simp only [rd_at e, pasts_length]
    refine cm_yes (by omega) (cm_yes (by omega) (cm_yes (by omega) (cm_bind (put_f _ _ (by omega)) (cm_yes (by omega) (cm_yes (by omega) ?_)))))
    rw [hrd]
    exact pasts_l2 l (pasts l i) (i : Int) (pre.length : Int) (causesL l i) (pastOf l c.toNat) (by omega) (putL s c) (by omega) (by omega) w (by rw [wrap_len hlt (show (causesL l i).length ≤ 4611686018427387904 by omega)]; exact hw)
  · intro _
    refine cm_step (fun k => by rw [spec_l7Pasts.l1]) ?_
    rw [pasts_length, wrap_len hi (by omega)]
    exact cm_no (by omega) (cm_yes (by omega) hv)
theorem pasts_f {procs : Int} {l : List S65} (hg : good procs l = true) : Cm (fun k => spec_l7Pasts.f k l) (pasts l l.length) := by
  obtain ⟨hg1, _, hl⟩ := good_iff.1 hg
  unfold spec_l7Pasts.f
  have key : ∀ (d i : Nat), i + d = l.length → Cm (fun k => spec_l7Pasts.l0 k l (pasts l i) (l.length : Int) (i : Int)) (pasts l l.length) := by
    intro d
    induction d with
    | zero =>
      intro i e
      obtain rfl : i = l.length := by omega
      refine cm_step (fun k => by rw [spec_l7Pasts.l0]) ?_
      exact cm_no (by omega) (cm_now fun _ => rfl)
    | succ d ih =>
      intro i e
      have hi : i < l.length := by omega
      refine cm_step (fun k => by rw [spec_l7Pasts.l0]) ?_
      exact cm_yes (by omega) (cm_bind (l7Causes_f l i hi (by omega)) (pasts_l1 hg1 hl hi _ (ih (i + 1) (by omega))))
  exact key l.length 0 (by omega)
theorem vectors_l2 (procs : Int) (l : List S65) (V : List (List Int)) (i j : Int) (cs : List Int) (p q r : Int) (ys : List Int) (hy : ys.length ≤ 1048576) (c : List Int) (hc : c.length = ys.length) (v : List (List Int))
    (hv : Cm (fun k => impl_vectors.l1 k procs l V (joinV c ys) l (l.length : Int) i cs (cs.length : Int) (wrap64 (j + 1)) p q r) v) :
    Cm (fun k => impl_vectors.l2 k procs l V c l (l.length : Int) i cs (cs.length : Int) j ys (ys.length : Int) 0 p q r) v := by
  have key : ∀ (rest pre cp cr : List Int), pre ++ rest = ys → cp.length = pre.length → cr.length = rest.length → cp ++ joinV cr rest = joinV c ys →
      Cm (fun k => impl_vectors.l2 k procs l V (cp ++ cr) l (l.length : Int) i cs (cs.length : Int) j ys (ys.length : Int) (pre.length : Int) p q r) v := by
    intro rest
    induction rest with
    | nil =>
      intro pre cp cr e h1 h2 h3
      have h4 := len_end e
      have h5 : cr = [] := List.length_eq_zero_iff.1 h2
      subst h5
      have h6 : cp = joinV c ys := by rw [← h3]; simp [joinV]
      rw [List.append_nil, h6]
      refine cm_step (fun k => by rw [impl_vectors.l2]) ?_
      exact cm_no (by omega) hv
    | cons y t ih =>
      intro pre cp cr e h1 h2 h3
      match cr, h2 with
      | x :: cr, h2 =>
        have hlt := len_mid e
        have h4 := ih (pre ++ [y]) (cp ++ [mx x y]) cr (app_mid e) (by simp [h1]) (by simpa using h2) (by rw [← h3]; simp [joinV])
        rw [len_one] at h4
        have e1 : rd (cp ++ x :: cr) (pre.length : Int) = x := by rw [← h1]; exact rd_mid cp x cr
        refine cm_step (fun k => by rw [impl_vectors.l2]) ?_
        simp only [rd_at e, e1, wrap_len hlt (show ys.length ≤ 4611686018427387904 by omega), Int.toNat_natCast]
        refine cm_yes (by omega) (cm_yes (by omega) (cm_yes (by omega) (cm_yes (by simp; omega) ?_)))
        have e2 : (cp ++ x :: cr).set pre.length (mx x y) = (cp ++ [mx x y]) ++ cr := by rw [← h1]; simp
        rw [e2]
        exact h4
  exact key ys [] [] c rfl rfl hc (by simp)
theorem elem_le {procs : Int} {l : List S65} (hg : okFrom (good1 procs) [] l = true) {i : Nat} (hi : i < l.length) : rd (joinOf procs l i) (ev l i).f0 ≤ (i : Int) ∧ 0 ≤ rd (joinOf procs l i) (ev l i).f0 := by
  rw [(told hg hi).2.1]
  have := rank_le (l := l) (ev l i).f0 i
  omega
theorem vectors_l1 {procs : Int} {l : List S65} (hg : okFrom (good1 procs) [] l = true) (hp : procs ≤ 5) (hl : l.length ≤ 24) {i : Nat} (hi : i < l.length) (v : List (List Int)) (q r : Int)
    (hv : Cm (fun k => impl_vectors.l0 k procs l (vecs procs l (i + 1)) l (l.length : Int) ((i + 1 : Nat) : Int)) v) :
    Cm (fun k => impl_vectors.l1 k procs l (vecs procs l i) (zeros procs) l (l.length : Int) (i : Int) (causesL l i) ((causesL l i).length : Int) 0 (ev l i).f0 q r) v := by
  have hcl := causes_len l i
  have hpi := proc_in hg hi
  refine fold_cm (L := fun k j s => impl_vectors.l1 k procs l (vecs procs l i) s l (l.length : Int) (i : Int) (causesL l i) ((causesL l i).length : Int) j (ev l i).f0 q r) (causesL l i) (fun c k => joinV c (rd_L1 (vecs procs l i) k)) (fun pre s => s.length = procs.toNat) (zeros procs) (by unfold zeros; simp) ?_ ?_
  · intro pre c t s e hlt hs
    have hc := causes_lt hg hi c (by rw [← e]; simp)
    have h4 : ((c.toNat : Nat) : Int) = c := by omega
    have hrd := rd_vecs procs l (n := i) (k := c.toNat) (by omega)
    rw [h4] at hrd
    have hvl := (vec_length hg (i := c.toNat) (by omega)).2
    refine ⟨by rw [hrd, join_length (by omega), hs], fun w hw => ?_⟩
    rw [hrd] at hw
    refine cm_step (fun k => by rw [impl_vectors.l1]) ?_
    simp only [rd_at e, vecs_length]
    refine cm_yes (by omega) (cm_yes (by omega) (cm_yes (by omega) (cm_yes (by omega) (cm_yes (by omega) ?_))))
    rw [hrd]
    exact vectors_l2 procs l (vecs procs l i) (i : Int) (pre.length : Int) (causesL l i) _ q r (vecOf procs l c.toNat) (by omega) s (by omega) w (by rw [wrap_len hlt (show (causesL l i).length ≤ 4611686018427387904 by omega)]; exact hw)
  · intro hs
    have hs2 : ((causesL l i).foldl (fun c k => joinV c (rd_L1 (vecs procs l i) k)) (zeros procs)) = joinOf procs l i := rfl
    have he := elem_le hg hi
    have hlen := (vec_length hg hi).1
    refine cm_step (fun k => by rw [impl_vectors.l1]) ?_
    rw [hs2, vecs_length, wrap_len hi (by omega), wrap_in (x := rd (joinOf procs l i) (ev l i).f0 + 1) (by omega) (by omega)]
    exact cm_no (by omega) (cm_yes (by omega) (cm_yes (by omega) (cm_yes (by omega) hv)))
theorem vectors_f {procs : Int} {l : List S65} (hg : good procs l = true) : Cm (fun k => impl_vectors.f k procs l) (vecs procs l l.length) := by
  obtain ⟨hg1, hp, hl⟩ := good_iff.1 hg
  unfold impl_vectors.f
  have key : ∀ (d i : Nat), i + d = l.length → Cm (fun k => impl_vectors.l0 k procs l (vecs procs l i) l (l.length : Int) (i : Int)) (vecs procs l l.length) := by
    intro d
    induction d with
    | zero =>
      intro i e
      obtain rfl : i = l.length := by omega
      refine cm_step (fun k => by rw [impl_vectors.l0]) ?_
      exact cm_no (by omega) (cm_now fun _ => rfl)
    | succ d ih =>
      intro i e
      have hi : i < l.length := by omega
      have h1 := vectors_l1 hg1 hp.2 hl hi _ (ev l i).f1 (ev l i).f2 (ih (i + 1) (by omega))
      refine cm_step (fun k => by rw [impl_vectors.l0]) ?_
      exact cm_yes (by omega) (cm_yes (by omega) (cm_yes (by omega) (cm_yes (by omega) (cm_yes (by omega) (cm_bind (causes_f hg1 i hi (by omega)) h1)))))
  exact key l.length 0 (by omega)
def inPast (l : List S65) (a b : Nat) : Bool := decide ((a : Int) ∈ pastOf l b)
theorem isAhead_f {procs : Int} {l : List S65} (hg : good procs l = true) {a b : Nat} (ha : a < l.length) (hb : b < l.length) : impl_isAhead.f l (vecs procs l l.length) (a : Int) (b : Int) = some (inPast l a b) := by
  obtain ⟨hg1, hp, hl⟩ := good_iff.1 hg
  have hpa := proc_in hg1 ha
  have ea : (rd_T65 l (a : Int)) = ev l a := rfl
  unfold impl_isAhead.f inPast
  rw [ea, if_pos (by omega), if_pos (by omega)]
  have h1 := ahead_iff hg1 ha hb
  by_cases c : a = b
  · rw [if_pos (by omega)]
    have : ¬ (a : Int) ∈ pastOf l b := fun h => (h1.2 h).1 c
    rw [decide_eq_false this]
  · have la := (vec_length hg1 ha).2
    have lb := (vec_length hg1 hb).2
    rw [if_neg (by omega), vecs_length, rd_vecs procs l ha, rd_vecs procs l hb, if_pos (by omega), if_pos (by omega), if_pos (by omega), if_pos (by omega), if_pos (by omega), if_pos (by omega)]
    congr 1
    rw [decide_eq_decide]
    constructor
    · intro h
      exact h1.1 ⟨c, h⟩
    · intro h
      exact (h1.2 h).2
section
variable (a0 : Int) (l1 : List S69) (h0 : (Lit.int .i64 a0).wf = true) (h1 : l1.length ≤ maxLen ∧ l1.length * 24 ≤ 140737488351232 ∧ ∀ x_ ∈ l1, ok69 x_)
include h0 h1
theorem there_f (a2 : Int) : Cm (fun k => spec_l7There.f k a0 (l1.map cEvent) a2) (good a0 (l1.map cEvent) && decide (0 ≤ a2 ∧ a2 < ((l1.map cEvent).length : Int))) := by
  have hs := spec_good_f a0 (l1.map cEvent) (wf_i64 h0) (by have := h1.2.1; simp only [List.length_map]; omega)
  unfold spec_l7There.f
  by_cases hg : good a0 (l1.map cEvent) = true
  · refine cm_bind hs (cm_yes hg (cm_if (fun c => cm_now fun _ => ?_) (fun c => cm_now fun _ => ?_)))
    · rw [hg, Bool.true_and]
      congr 1
      rw [decide_eq_decide]
      omega
    · rw [hg, Bool.true_and]
      congr 1
      symm
      rw [decide_eq_false_iff_not]
      omega
  · refine cm_bind hs (cm_no hg (cm_now fun _ => ?_))
    have : good a0 (l1.map cEvent) = false := by simpa using hg
    rw [this, Bool.false_and]
omit h0 in
theorem len_less : wrap64 (((l1.map cEvent).length : Int) - 1) = ((l1.map cEvent).length : Int) - 1 := wrap_in (by omega) (by have := h1.2.1; simp only [List.length_map]; omega)
theorem happensBefore_both (a2 a3 : Int) (h2 : (Lit.int .i64 a2).wf = true) (h3 : (Lit.int .i64 a3).wf = true) :
    ∃ v, Cm (fun k => spec_HappensBefore.f k a0 (l1.map cEvent) a2 a3) v ∧ Cm (fun k => impl_HappensBefore.f k a0 (l1.map cEvent) a2 a3) v ∧ True := by
  have hi := areEvents_f a0 (l1.map cEvent) (wf_conv h1.2.2)
  have t2 := there_f a0 l1 h0 h1 a2
  have t3 := there_f a0 l1 h0 h1 a3
  have hw := len_less l1 h1
  generalize l1.map cEvent = l at hi t2 t3 hw
  unfold spec_HappensBefore.f impl_HappensBefore.f
  rw [hw]
  have sj : Cm (fun k => spec_HappensBefore.j0 k l a2 a3 true) (false, false) := by
    refine cm_step (fun k => by rw [spec_HappensBefore.j0]) ?_
    exact cm_yes rfl (cm_now fun _ => rfl)
  have ij : Cm (fun k => impl_HappensBefore.j0 k a0 l a2 a3 true) (false, false) := by
    refine cm_step (fun k => by rw [impl_HappensBefore.j0]) ?_
    exact cm_yes rfl (cm_now fun _ => rfl)
  by_cases hg : good a0 l = true
  · rw [hg, Bool.true_and] at t2 t3
    obtain ⟨hg1, _, hl⟩ := good_iff.1 hg
    by_cases c2 : 0 ≤ a2 ∧ a2 < (l.length : Int)
    · rw [decide_eq_true c2] at t2
      by_cases c3 : 0 ≤ a3 ∧ a3 < (l.length : Int)
      · rw [decide_eq_true c3] at t3
        have e2 : ((a2.toNat : Nat) : Int) = a2 := by omega
        have e3 : ((a3.toNat : Nat) : Int) = a3 := by omega
        refine ⟨(inPast l a2.toNat a3.toNat, true), ?_, ?_, trivial⟩
        · refine cm_bind t2 (cm_yes rfl (cm_bind t3 ?_))
          refine cm_step (fun k => by rw [spec_HappensBefore.j0]) ?_
          refine cm_no (by simp) (cm_bind (pasts_f hg) ?_)
          rw [pasts_length]
          have hrd := rd_pasts l (n := l.length) (k := a3.toNat) (by omega)
          rw [e3] at hrd
          rw [hrd]
          have hpl := past_len hg1 (i := a3.toNat) (by omega)
          refine cm_yes (by omega) (cm_yes (by omega) (cm_bind (has_f _ _ (by omega)) (cm_now fun _ => ?_)))
          unfold inPast
          rw [e2]
        · have := isAhead_f hg (a := a2.toNat) (b := a3.toNat) (by omega) (by omega)
          rw [e2, e3] at this
          refine cm_bind (cm_now fun _ => hi) (cm_yes hg ?_)
          simp only [in_f]
          refine cm_bind (cm_now fun _ => rfl) (cm_yes (by simp; omega) (cm_bind (cm_now fun _ => rfl) ?_))
          have e4 : decide (0 ≤ a3 ∧ a3 ≤ (l.length : Int) - 1) = true := decide_eq_true (by omega)
          rw [e4]
          refine cm_step (fun k => by rw [impl_HappensBefore.j0]) ?_
          refine cm_no (by simp) (cm_bind (vectors_f hg) (cm_bind (cm_now fun _ => this) (cm_now fun _ => rfl)))
      · rw [decide_eq_false c3] at t3
        refine ⟨(false, false), cm_bind t2 (cm_yes rfl (cm_bind t3 sj)), ?_, trivial⟩
        refine cm_bind (cm_now fun _ => hi) (cm_yes hg ?_)
        simp only [in_f]
        refine cm_bind (cm_now fun _ => rfl) (cm_yes (by simp; omega) (cm_bind (cm_now fun _ => rfl) ?_))
        have e4 : decide (0 ≤ a3 ∧ a3 ≤ (l.length : Int) - 1) = false := decide_eq_false (by omega)
        rw [e4]
        exact ij
    · rw [decide_eq_false c2] at t2
      refine ⟨(false, false), cm_bind t2 (cm_no (by simp) sj), ?_, trivial⟩
      refine cm_bind (cm_now fun _ => hi) (cm_yes hg ?_)
      simp only [in_f]
      exact cm_bind (cm_now fun _ => rfl) (cm_no (by simp; omega) ij)
  · have hg2 : good a0 l = false := by simpa using hg
    rw [hg2, Bool.false_and] at t2
    exact ⟨(false, false), cm_bind t2 (cm_no (by simp) sj), cm_bind (cm_now fun _ => hi) (cm_no hg ij), trivial⟩
theorem concurrent_both : ∃ v, Cm (fun k => spec_Concurrent.f k a0 (l1.map cEvent)) v ∧ Cm (fun k => impl_Concurrent.f k a0 (l1.map cEvent)) v ∧ True := by
  have hi := areEvents_f a0 (l1.map cEvent) (wf_conv h1.2.2)
  have hs := spec_good_f a0 (l1.map cEvent) (wf_i64 h0) (by have := h1.2.1; simp only [List.length_map]; omega)
  generalize l1.map cEvent = l at hi hs
  unfold spec_Concurrent.f impl_Concurrent.f
  by_cases hg : good a0 l = true
  · obtain ⟨hg1, _, hl⟩ := good_iff.1 hg
    let tot : Nat → Int := fun n => ((List.range n).map (fun (b : Nat) => (b : Int) - ((pastOf l b).length : Int))).sum
    have t0 : ∀ n, tot (n + 1) = tot n + ((n : Int) - ((pastOf l n).length : Int)) := by
      intro n
      show ((List.range (n + 1)).map _).sum = _
      rw [List.range_succ, List.map_append, List.sum_append]
      simp [tot]
    have tb : ∀ n, n ≤ l.length → 0 ≤ tot n ∧ tot n ≤ 24 * (n : Int) := by
      intro n
      induction n with
      | zero => intro _; simp [tot]
      | succ n ih =>
        intro hn
        have h2 := ih (by omega)
        have h3 := past_len hg1 (i := n) (by omega)
        rw [t0]
        omega
    refine ⟨(tot l.length, true), ?_, ?_, trivial⟩
    · refine cm_bind hs (cm_yes hg (cm_bind (pasts_f hg) ?_))
      have key : ∀ (d i : Nat), i + d = l.length → Cm (fun k => spec_Concurrent.l0 k (pasts l l.length) (tot i) (l.length : Int) (i : Int)) (tot l.length, true) := by
        intro d
        induction d with
        | zero =>
          intro i e
          obtain rfl : i = l.length := by omega
          refine cm_step (fun k => by rw [spec_Concurrent.l0]) ?_
          exact cm_no (by omega) (cm_now fun _ => rfl)
        | succ d ih =>
          intro i e
          have h2 := ih (i + 1) (by omega)
          have h3 := tb i (by omega)
          have h4 := past_len hg1 (i := i) (by omega)
          refine cm_step (fun k => by rw [spec_Concurrent.l0]) ?_
          rw [pasts_length, rd_pasts l (show i < l.length by omega), wrap_in (x := (i : Int) - ((pastOf l i).length : Int)) (by omega) (by omega), wrap_in (x := tot i + ((i : Int) - ((pastOf l i).length : Int))) (by omega) (by omega), ← t0, wrap_len (show i < l.length by omega) (by omega)]
          exact cm_yes (by omega) (cm_yes (by omega) (cm_yes (by omega) h2))
      exact key l.length 0 (by omega)
    · refine cm_bind (cm_now fun _ => hi) (cm_yes hg (cm_bind (vectors_f hg) ?_))
      -- how many of the first n events are not in the past of b
      let out : Nat → Nat → Int := fun b n => ((List.range n).map (fun a => if inPast l a b = true then (0 : Int) else 1)).sum
      have o0 : ∀ b n, out b (n + 1) = out b n + (if inPast l n b = true then 0 else 1) := by
        intro b n
        show ((List.range (n + 1)).map _).sum = _
        rw [List.range_succ, List.map_append, List.sum_append]
        simp [out]
      have ob : ∀ b n, 0 ≤ out b n ∧ out b n ≤ (n : Int) := by
        intro b n
        induction n with
        | zero => simp [out]
        | succ n ih => rw [o0]; split <;> omega
      -- what is counted is what the past lacks
      have cnt : ∀ (n : Nat) (p : List Int), Inc p → (∀ x ∈ p, 0 ≤ x ∧ x < (n : Int)) → ((List.range n).map (fun (a : Nat) => if decide ((a : Int) ∈ p) = true then (0 : Int) else 1)).sum = (n : Int) - (p.length : Int) := by
        intro n
        induction n with
        | zero =>
          intro p _ hp
          cases p with
          | nil => simp
          | cons x t => have := hp x (by simp); omega
        | succ n ih =>
          intro p hinc hp
          rw [List.range_succ, List.map_append, List.sum_append]
          by_cases c : (n : Int) ∈ p
          · obtain ⟨q, e⟩ : ∃ q, p = q ++ [(n : Int)] := by
              have hne : p ≠ [] := by intro z; rw [z] at c; cases c
              refine ⟨p.dropLast, ?_⟩
              have hl2 := List.dropLast_concat_getLast hne
              have h5 : p.getLast hne = (n : Int) := by
                have h6 := (hp _ (List.getLast_mem hne)).2
                obtain ⟨a, b, e2⟩ := List.append_of_mem c
                cases hb : b.getLast? with
                | none =>
                  have hb0 : b = [] := by simpa using hb
                  subst hb0
                  simp [e2]
                | some y =>
                  exfalso
                  have hy : y ∈ b := List.mem_of_getLast? hb
                  have h7 := (List.pairwise_append.1 (e2 ▸ hinc)).2.1
                  have h8 := (List.pairwise_cons.1 h7).1 y hy
                  have h9 := (hp y (by rw [e2]; simp [hy])).2
                  omega
              rw [← h5]
              exact hl2.symm
            have hq : Inc q := (List.pairwise_append.1 (e ▸ hinc)).1
            have hq2 : ∀ x ∈ q, 0 ≤ x ∧ x < (n : Int) := fun x hx => ⟨(hp x (by rw [e]; simp [hx])).1, (List.pairwise_append.1 (e ▸ hinc)).2.2 x hx _ (by simp)⟩
            have h6 := ih q hq hq2
            have h7 : ((List.range n).map (fun (a : Nat) => if decide ((a : Int) ∈ p) = true then (0 : Int) else 1)) = ((List.range n).map (fun (a : Nat) => if decide ((a : Int) ∈ q) = true then (0 : Int) else 1)) := by
              apply List.map_congr_left
              intro a ha
              rw [List.mem_range] at ha
              have : (a : Int) ∈ p ↔ (a : Int) ∈ q := by
                rw [e, List.mem_append, List.mem_singleton]
                constructor
                · rintro (z | z)
                  · exact z
                  · omega
                · exact .inl
              rw [show decide ((a : Int) ∈ p) = decide ((a : Int) ∈ q) by rw [decide_eq_decide]; exact this]
            rw [h7, h6]
            simp only [List.map_cons, List.map_nil, List.sum_cons, List.sum_nil, c, decide_true, if_true]
            rw [e, List.length_append]
            simp
            omega
          · have h6 := ih p hinc (fun x hx => ⟨(hp x hx).1, by have := (hp x hx).2; have : x ≠ (n : Int) := fun z => c (z ▸ hx); omega⟩)
            rw [h6]
            simp only [List.map_cons, List.map_nil, List.sum_cons, List.sum_nil, c, decide_false]
            simp
            omega
      have inner : ∀ (b : Nat) (hb : b < l.length) (m : Int) (v : Int × Bool), 0 ≤ m → m ≤ 1000000 → Cm (fun k => impl_Concurrent.l0 k l (vecs a0 l l.length) (m + out b b) (l.length : Int) ((b + 1 : Nat) : Int)) v →
          Cm (fun k => impl_Concurrent.l1 k l (vecs a0 l l.length) m (b : Int) (l.length : Int) (b : Int) (b : Int) 0) v := by
        intro b hb m v hm0 hm hv
        have key : ∀ (d i : Nat), i + d = b → Cm (fun k => impl_Concurrent.l1 k l (vecs a0 l l.length) (m + out b i) (b : Int) (l.length : Int) (b : Int) (b : Int) (i : Int)) v := by
          intro d
          induction d with
          | zero =>
            intro i e
            obtain rfl : i = b := by omega
            refine cm_step (fun k => by rw [impl_Concurrent.l1]) ?_
            rw [wrap_len hb (by omega)]
            exact cm_no (by omega) hv
          | succ d ih =>
            intro i e
            have h2 := ih (i + 1) (by omega)
            have h3 := ob b i
            have h4 := isAhead_f hg (a := i) (b := b) (by omega) hb
            rw [o0] at h2
            refine cm_step (fun k => by rw [impl_Concurrent.l1]) ?_
            rw [wrap_len (n := i) (m := b) (by omega) (by omega), wrap_in (x := m + out b i + 1) (by omega) (by omega)]
            refine cm_yes (by omega) (cm_bind (cm_now fun _ => h4) ?_)
            by_cases c : inPast l i b = true
            · rw [if_pos c, Int.add_zero] at h2
              exact cm_yes c h2
            · rw [if_neg c, ← Int.add_assoc] at h2
              exact cm_no c h2
        have := key b 0 (by omega)
        have e0 : out b 0 = 0 := rfl
        rw [e0, Int.add_zero] at this
        exact this
      have key : ∀ (d i : Nat), i + d = l.length → Cm (fun k => impl_Concurrent.l0 k l (vecs a0 l l.length) (tot i) (l.length : Int) (i : Int)) (tot l.length, true) := by
        intro d
        induction d with
        | zero =>
          intro i e
          obtain rfl : i = l.length := by omega
          refine cm_step (fun k => by rw [impl_Concurrent.l0]) ?_
          exact cm_no (by omega) (cm_now fun _ => rfl)
        | succ d ih =>
          intro i e
          have h2 := ih (i + 1) (by omega)
          have h3 := tb i (by omega)
          have h4 := cnt i (pastOf l i) (pastOf_inc l i) (past_lt hg1 (by omega))
          refine cm_step (fun k => by rw [impl_Concurrent.l0]) ?_
          refine cm_yes (by omega) (inner i (by omega) (tot i) _ h3.1 (by omega) ?_)
          have h5 : tot i + out i i = tot (i + 1) := by rw [t0, ← h4]; rfl
          rw [h5]
          exact h2
      exact key l.length 0 (by omega)
  · exact ⟨(0, false), cm_bind hs (cm_no hg (cm_now fun _ => rfl)), cm_bind (cm_now fun _ => hi) (cm_no hg (cm_now fun _ => rfl)), trivial⟩
end
end Go.Proofs.Ytinbfclfglogmaa.PastsF
end
section
namespace Go.Proofs.Ytinbfclfglogmaa.Pick
open Go.RowKit Go.Proofs.YtinbfclfglogmaaW.PrintWords
open Go.Proofs.Ytinbfclfglogmaa.Pl Go.Proofs.Ytinbfclfglogmaa.EvN Go.Proofs.Ytinbfclfglogmaa.Lp
set_option linter.unusedVariables false
set_option linter.unusedSimpArgs false
theorem iter_cm {σ ρ : Type} {L : Nat → Int → σ → Option ρ} (n : Nat) (st : Nat → σ) {v : ρ} (hs : ∀ i, i < n → ∀ u, Cm (fun k => L k ((i + 1 : Nat) : Int) (st (i + 1))) u → Cm (fun k => L k (i : Int) (st i)) u)
    (he : Cm (fun k => L k (n : Int) (st n)) v) : Cm (fun k => L k 0 (st 0)) v := by
  have key : ∀ (d i : Nat), i + d = n → Cm (fun k => L k (i : Int) (st i)) v := by
    intro d
    induction d with
    | zero => intro i e; rw [Nat.add_zero] at e; subst e; exact he
    | succ d ih => intro i e; exact hs i (by omega) v (ih (i + 1) (by omega))
  exact key n 0 (by omega)
theorem wrap_n {i n : Nat} (h : i < n) (hn : n ≤ 4611686018427387904) : wrap64 ((i : Int) + 1) = ((i + 1 : Nat) : Int) := by
  rw [show ((i + 1 : Nat) : Int) = (i : Int) + 1 by omega]
  exact wrap_in (by omega) (by omega)
end Go.Proofs.Ytinbfclfglogmaa.Pick
end
section
namespace Go.Proofs.Ytinbfclfglogmaa.Draw
open Go.RowKit Go.Proofs.Ytinbfclfglogmaa.P Go.Proofs.YtinbfclfglogmaaW.PrintWords Go.Proofs.YtinbfclfglogmaaW.PrintLast Go.Proofs.YtinbfclfglogmaaW.PrintMore
open Go.Proofs.Ytinbfclfglogmaa.Pl Go.Proofs.Ytinbfclfglogmaa.EvN Go.Proofs.Ytinbfclfglogmaa.Lp Go.Proofs.Ytinbfclfglogmaa.Pick
set_option linter.unusedSimpArgs false
set_option linter.unusedVariables false
theorem wf_u8 {x : Int} (h : (Lit.int .u8 x).wf = true) : 0 ≤ x ∧ x ≤ 255 := by
  simp [Lit.wf] at h
  have h1 : IntKind.u8.min = 0 := by decide
  have h2 : IntKind.u8.max = 255 := by decide
  omega
def Bytes (s : List Int) : Prop := s.length ≤ 4611686018427387904 ∧ ∀ x ∈ s, 0 ≤ x ∧ x ≤ 255
theorem and_255 (a : Int) : 0 ≤ Go.bits .and .u64 a 255 ∧ Go.bits .and .u64 a 255 ≤ 255 := by
  have h : (BitVec.ofInt 64 a &&& BitVec.ofInt 64 255).toNat ≤ 255 := by
    rw [BitVec.toNat_and]
    exact Nat.and_le_right
  show 0 ≤ IntKind.u64.wrap ((BitVec.ofInt 64 a &&& BitVec.ofInt 64 255).toNat : Int) ∧ IntKind.u64.wrap ((BitVec.ofInt 64 a &&& BitVec.ofInt 64 255).toNat : Int) ≤ 255
  generalize (BitVec.ofInt 64 a &&& BitVec.ofInt 64 255).toNat = z at h
  simp [IntKind.wrap, IntKind.bits, IntKind.signed]
  omega
theorem rd_mem {l : List Int} {i : Int} (h0 : 0 ≤ i) (h : i < (l.length : Int)) : rd l i ∈ l := by
  have h2 : i.toNat < l.length := by omega
  have : rd l i = l[i.toNat] := by
    show l.getD _ _ = _
    simp [List.getD, h2]
  rw [this]
  exact List.getElem_mem h2
theorem next_f {s : List Int} (hs : Bytes s) (p st : Int) (h0 : 0 ≤ p) (h1 : p ≤ 4611686018427387904) : ∃ b q u, spec_l1Cur_next.f s p st = some (b, q, u) ∧ (0 ≤ b ∧ b ≤ 255) ∧ (p ≤ q ∧ q ≤ p + 1) := by
  have hw : wrap64 (p + 1) = p + 1 := wrap_in (by omega) (by omega)
  have hb : ∀ a : Int, 0 ≤ wrap64 (Go.bits .and .u64 a 255) ∧ wrap64 (Go.bits .and .u64 a 255) ≤ 255 := by
    intro a
    have := and_255 a
    rw [wrap_in (by omega) (by omega)]
    exact this
  unfold spec_l1Cur_next.f
  rw [hw]
  by_cases c : p < (s.length : Int)
  · rw [if_pos c, if_pos h0]
    have hr := hs.2 _ (rd_mem h0 c)
    by_cases d : p + 1 ≤ (s.length : Int)
    · rw [if_pos d]
      exact ⟨_, _, _, rfl, by rw [wrap_in (by omega) (by omega)]; exact hr, by omega⟩
    · rw [if_neg d]
      exact ⟨_, _, _, rfl, hb _, by omega⟩
  · rw [if_neg c]
    by_cases d : p + 1 ≤ (s.length : Int)
    · rw [if_pos d]
      exact ⟨_, _, _, rfl, by omega, by omega⟩
    · rw [if_neg d]
      exact ⟨_, _, _, rfl, hb _, by omega⟩
theorem pick_f {s : List Int} (hs : Bytes s) (p st : Int) (h0 : 0 ≤ p) (h1 : p ≤ 4611686018427387000) (a : Int) : ∃ b q u, spec_l1Cur_pick.f s p st a = some (b, q, u) ∧ (0 ≤ b ∧ (b < a ∨ b = 0)) ∧ (p ≤ q ∧ q ≤ p + 2) := by
  unfold spec_l1Cur_pick.f
  by_cases c : a ≤ 1
  · rw [if_pos c]
    exact ⟨_, _, _, rfl, by omega, by omega⟩
  · rw [if_neg c]
    obtain ⟨b, q, u, e, hb, hq⟩ := next_f hs p st h0 (by omega)
    rw [e]
    simp only [Option.bind_some]
    by_cases d : a > 200
    · rw [if_pos d]
      obtain ⟨b2, q2, u2, e2, hb2, hq2⟩ := next_f hs q u (by omega) (by omega)
      rw [e2]
      simp only [Option.bind_some]
      rw [if_neg (by omega)]
      refine ⟨_, _, _, rfl, ?_, by omega⟩
      rw [wrap_in (x := b * 256) (by omega) (by omega), wrap_in (x := b * 256 + b2) (by omega) (by omega)]
      exact ⟨Int.tmod_nonneg _ (by omega), .inl (Int.tmod_lt_of_pos _ (by omega))⟩
    · rw [if_neg d, if_neg (by omega)]
      exact ⟨_, _, _, rfl, ⟨Int.tmod_nonneg _ (by omega), .inl (Int.tmod_lt_of_pos _ (by omega))⟩, by omega⟩
theorem one_f {s : List Int} (hs : Bytes s) (p st : Int) (h0 : 0 ≤ p) (h1 : p ≤ 4611686018427387000) (a : Int) : ∃ b q u, spec_l1Cur_one.f s p st a = some (b, q, u) ∧ (p ≤ q ∧ q ≤ p + 2) := by
  obtain ⟨b, q, u, e, _, hq⟩ := pick_f hs p st h0 h1 a
  unfold spec_l1Cur_one.f
  rw [e]
  exact ⟨_, _, _, rfl, hq⟩
theorem among_f {s : List Int} (hs : Bytes s) (p st : Int) (h0 : 0 ≤ p) (h1 : p ≤ 4611686018427387000) (l : List Int) (hl : 1 ≤ l.length) : ∃ b q u, spec_l1Cur_among.f s p st l = some (b, q, u) ∧ b ∈ l ∧ (p ≤ q ∧ q ≤ p + 2) := by
  obtain ⟨b, q, u, e, hb, hq⟩ := pick_f hs p st h0 h1 (l.length : Int)
  unfold spec_l1Cur_among.f
  rw [e]
  simp only [Option.bind_some]
  rw [if_pos hb.1, if_pos (by omega)]
  exact ⟨_, _, _, rfl, rd_mem hb.1 (by omega), hq⟩
end Go.Proofs.Ytinbfclfglogmaa.Draw
end
section
namespace Go.Proofs.Ytinbfclfglogmaa.PastD
open Go.RowKit Go.Proofs.Ytinbfclfglogmaa.P Go.Proofs.YtinbfclfglogmaaW.PrintWords Go.Proofs.YtinbfclfglogmaaW.PrintLast Go.Proofs.YtinbfclfglogmaaW.PrintMore
open Go.Proofs.Ytinbfclfglogmaa.Pl Go.Proofs.Ytinbfclfglogmaa.EvN Go.Proofs.Ytinbfclfglogmaa.Lp Go.Proofs.Ytinbfclfglogmaa.Mem Go.Proofs.Ytinbfclfglogmaa.Xm Go.Proofs.Ytinbfclfglogmaa.Hg Go.Proofs.Ytinbfclfglogmaa.Events Go.Proofs.Ytinbfclfglogmaa.Causes Go.Proofs.Ytinbfclfglogmaa.Put Go.Proofs.Ytinbfclfglogmaa.Pasts Go.Proofs.Ytinbfclfglogmaa.PastsF Go.Proofs.Ytinbfclfglogmaa.Draw
set_option linter.unusedSimpArgs false
set_option linter.unusedVariables false
theorem wf_small {x : Int} (h : -1000 ≤ x ∧ x ≤ 1000) : (Lit.int .i64 x).wf = true := by
  have e0 : IntKind.i64.min = -9223372036854775808 := rfl
  have e1 : IntKind.i64.max = 9223372036854775807 := rfl
  simp [Lit.wf, e0, e1]
  omega
def E1 (x : S65) : Prop := (0 ≤ x.f0 ∧ x.f0 ≤ 100) ∧ (0 ≤ x.f1 ∧ x.f1 ≤ 100) ∧ (0 ≤ x.f2 ∧ x.f2 ≤ 100)
def Small (n : Int) (l : List S65) : Prop := (0 ≤ n ∧ n ≤ 100) ∧ l.length ≤ 100 ∧ ∀ x ∈ l, E1 x
theorem lift {n : Int} {l : List S65} (h : Small n l) : ∃ l1 : List S69, l1.map cEvent = l ∧ (l1.length ≤ maxLen ∧ l1.length * 24 ≤ 140737488351232 ∧ ∀ x_ ∈ l1, ok69 x_) := by
  refine ⟨l.map (fun x => (⟨x.f0, x.f1, x.f2⟩ : S69)), ?_, ?_, ?_, ?_⟩
  · rw [List.map_map]
    exact (List.map_congr_left (fun x _ => rfl)).trans (List.map_id l)
  · rw [List.length_map]
    exact Nat.le_trans h.2.1 (by decide)
  · rw [List.length_map]
    have := h.2.1
    omega
  · intro y hy
    obtain ⟨x, hx, rfl⟩ := List.mem_map.1 hy
    have := h.2.2 x hx
    exact ⟨wf_small (by have := this.1; show -1000 ≤ x.f0 ∧ x.f0 ≤ 1000; omega), wf_small (by have := this.2.1; show -1000 ≤ x.f1 ∧ x.f1 ≤ 1000; omega), wf_small (by have := this.2.2; show -1000 ≤ x.f2 ∧ x.f2 ≤ 1000; omega)⟩
def hapV (n : Int) (l : List S65) (a b : Int) : Bool × Bool := if good n l = true ∧ (0 ≤ a ∧ a < (l.length : Int)) ∧ (0 ≤ b ∧ b < (l.length : Int)) then (inPast l a.toNat b.toNat, true) else (false, false)
theorem hap_f {n : Int} {l : List S65} (h : Small n l) (a b : Int) (ha : -1000 ≤ a ∧ a ≤ 1000) (hb : -1000 ≤ b ∧ b ≤ 1000) : Cm (fun k => spec_HappensBefore.f k n l a b) (hapV n l a b) ∧ Cm (fun k => impl_HappensBefore.f k n l a b) (hapV n l a b) := by
  obtain ⟨l1, e, h1⟩ := lift h
  have hn : (Lit.int .i64 n).wf = true := wf_small (by have := h.1; omega)
  obtain ⟨v, hs, hi, _⟩ := happensBefore_both n l1 hn h1 a b (wf_small ha) (wf_small hb)
  have t2 := there_f n l1 hn h1 a
  have t3 := there_f n l1 hn h1 b
  rw [e] at hs hi t2 t3
  suffices hv : v = hapV n l a b by rw [← hv]; exact ⟨hs, hi⟩
  refine cm_one hs ?_
  unfold spec_HappensBefore.f hapV
  have sj : Cm (fun k => spec_HappensBefore.j0 k l a b true) (false, false) := by
    refine cm_step (fun k => by rw [spec_HappensBefore.j0]) ?_
    exact cm_yes rfl (cm_now fun _ => rfl)
  by_cases hg : good n l = true
  · rw [hg, Bool.true_and] at t2 t3
    obtain ⟨hg1, _, hl⟩ := good_iff.1 hg
    by_cases c2 : 0 ≤ a ∧ a < (l.length : Int)
    · rw [decide_eq_true c2] at t2
      by_cases c3 : 0 ≤ b ∧ b < (l.length : Int)
      · rw [decide_eq_true c3] at t3
        rw [if_pos ⟨hg, c2, c3⟩]
        have e2 : ((a.toNat : Nat) : Int) = a := by omega
        have e3 : ((b.toNat : Nat) : Int) = b := by omega
        refine cm_bind t2 (cm_yes rfl (cm_bind t3 ?_))
        refine cm_step (fun k => by rw [spec_HappensBefore.j0]) ?_
        refine cm_no (by simp) (cm_bind (pasts_f hg) ?_)
        rw [pasts_length]
        have hrd := rd_pasts l (n := l.length) (k := b.toNat) (by omega)
        rw [e3] at hrd
        rw [hrd]
        have hpl := past_len hg1 (i := b.toNat) (by omega)
        refine cm_yes (by omega) (cm_yes (by omega) (cm_bind (has_f _ _ (by omega)) (cm_now fun _ => ?_)))
        unfold inPast
        rw [e2]
      · rw [decide_eq_false c3] at t3
        rw [if_neg (fun h => c3 h.2.2)]
        exact cm_bind t2 (cm_yes rfl (cm_bind t3 sj))
    · rw [decide_eq_false c2] at t2
      rw [if_neg (fun h => c2 h.2.1)]
      exact cm_bind t2 (cm_no (by simp) sj)
  · have hg2 : good n l = false := by simpa using hg
    rw [hg2, Bool.false_and] at t2
    rw [if_neg (fun h => hg h.1)]
    exact cm_bind t2 (cm_no (by simp) sj)
theorem rdT_mem {l : List S65} {i : Int} (h0 : 0 ≤ i) (h : i < (l.length : Int)) : rd_T65 l i ∈ l := by
  have h2 : i.toNat < l.length := by omega
  have : rd_T65 l i = l[i.toNat] := by
    unfold rd_T65
    simp [List.getD, h2]
  rw [this]
  exact List.getElem_mem h2
theorem j2_go {s : List Int} (hs : Bytes s) (n : Int) (acc : List S65) (ha : acc.length ≤ 30) (he : ∀ x ∈ acc, E1 x) (f : Bool) (hf : f = true → 1 ≤ acc.length) (p st : Int) (h0 : 0 ≤ p) (h1 : p ≤ 4611686018427380000) :
    ∃ l q u, Cm (fun k => spec_l1Cur_events.j2 k n acc f s p st) (n, l, q, u) ∧ l.length ≤ 30 ∧ (∀ x ∈ l, E1 x) ∧ (p ≤ q ∧ q ≤ p + 8) := by
  cases f with
  | false =>
    refine ⟨acc, p, st, ?_, ha, he, by omega⟩
    refine cm_step (fun k => by rw [spec_l1Cur_events.j2]) ?_
    refine cm_no (fun h => Bool.false_ne_true h) ?_
    exact cm_now fun _ => rfl
  | true =>
    have hl := hf rfl
    obtain ⟨b1, q1, u1, e1, v1, w1⟩ := pick_f hs p st h0 (by omega) (acc.length : Int)
    obtain ⟨b2, q2, u2, e2, v2, w2⟩ := pick_f hs q1 u1 (by omega) (by omega) 6
    obtain ⟨b3, q3, u3, e3, v3, w3⟩ := pick_f hs q2 u2 (by omega) (by omega) 5
    obtain ⟨b4, q4, u4, e4, v4, w4⟩ := pick_f hs q3 u3 (by omega) (by omega) 4
    refine ⟨acc.set b1.toNat ⟨b2, b3, b4⟩, q4, u4, ?_, by rw [List.length_set]; exact ha, ?_, by omega⟩
    · refine cm_step (fun k => by rw [spec_l1Cur_events.j2]) ?_
      refine cm_yes rfl ?_
      refine cm_bind (cm_now fun _ => e1) ?_
      refine cm_bind (cm_now fun _ => e2) ?_
      refine cm_bind (cm_now fun _ => e3) ?_
      refine cm_bind (cm_now fun _ => e4) ?_
      refine cm_yes v1.1 ?_
      refine cm_yes (show b1 < (acc.length : Int) by omega) ?_
      exact cm_now fun _ => rfl
    · intro x hx
      rcases List.mem_or_eq_of_mem_set hx with h | rfl
      · exact he x h
      · exact ⟨by show 0 ≤ b2 ∧ b2 ≤ 100; omega, by show 0 ≤ b3 ∧ b3 ≤ 100; omega, by show 0 ≤ b4 ∧ b4 ≤ 100; omega⟩
theorem snoc {P : S65 → Prop} {l : List S65} {x : S65} (h : ∀ y ∈ l, P y) (hx : P x) : ∀ y ∈ l ++ [x], P y := by
  intro y hy
  rcases List.mem_append.1 hy with h1 | h1
  · exact h y h1
  · rw [List.mem_singleton.1 h1]
    exact hx
theorem ev_go {s : List Int} (hs : Bytes s) (n : Int) (hn : n ≤ 4) : ∀ (d : Nat) (acc wt : List S65) (m p st : Int), acc.length + d ≤ 30 → wt.length ≤ acc.length → 0 ≤ m → m + (d : Int) ≤ 90 → (∀ x ∈ acc, E1 x) → (∀ x ∈ wt, E1 x) → 0 ≤ p → p + 8 * (d : Int) ≤ 4611686018427370000 →
    ∃ l q u, Cm (fun k => spec_l1Cur_events.l0 k n acc wt m (d : Int) s p st) (n, l, q, u) ∧ l.length ≤ 30 ∧ (∀ x ∈ l, E1 x) ∧ (p ≤ q ∧ q ≤ p + 8 * (d : Int) + 12)
  | 0, acc, wt, m, p, st, ha, hw, hm, hm2, he, hv, h0, h1 => by
    by_cases c : acc.length = 0
    · obtain ⟨l, q, u, a, b, b2, c2⟩ := j2_go hs n acc (by omega) he false (fun h => absurd h (by simp)) p st h0 (by omega)
      refine ⟨l, q, u, ?_, b, b2, by omega⟩
      refine cm_step (fun k => by rw [spec_l1Cur_events.l0]) ?_
      refine cm_no (by omega) ?_
      refine cm_no (by omega) ?_
      exact a
    · obtain ⟨f, q1, u1, e1, w1⟩ := one_f hs p st h0 (by omega) 20
      obtain ⟨l, q, u, a, b, b2, c2⟩ := j2_go hs n acc (by omega) he f (fun _ => by omega) q1 u1 (by omega) (by omega)
      refine ⟨l, q, u, ?_, b, b2, by omega⟩
      refine cm_step (fun k => by rw [spec_l1Cur_events.l0]) ?_
      refine cm_no (by omega) ?_
      refine cm_yes (by omega) ?_
      refine cm_bind (cm_now fun _ => e1) ?_
      exact a
  | d + 1, acc, wt, m, p, st, ha, hw, hm, hm2, he, hv, h0, h1 => by
    obtain ⟨b1, q1, u1, e1, v1, w1⟩ := pick_f hs p st h0 (by omega) n
    obtain ⟨b2, q2, u2, e2, v2, w2⟩ := pick_f hs q1 u1 (by omega) (by omega) 3
    have hx8 : wrap64 (((d + 1 : Nat) : Int) - 1) = (d : Int) := by rw [wrap_in (by omega) (by omega)]; omega
    have hl1 : ∀ x : S65, (acc ++ [x]).length = acc.length + 1 := fun x => by simp
    have hev : ∀ i j : Int, 0 ≤ i ∧ i ≤ 3 → 0 ≤ j ∧ j ≤ 100 → E1 ⟨b1, i, j⟩ := fun i j hi hj => ⟨by show 0 ≤ b1 ∧ b1 ≤ 100; omega, by show 0 ≤ i ∧ i ≤ 100; omega, hj⟩
    by_cases c0 : b2 = 0
    · have hmm : wrap64 (m + 1) = m + 1 := wrap_in (by omega) (by omega)
      have hen := hev 2 (m + 1) (by omega) (by omega)
      obtain ⟨l, q, u, a, b, c, e⟩ := ev_go hs n hn d (acc ++ [⟨b1, 2, m + 1⟩]) (wt ++ [⟨b1, 2, m + 1⟩]) (m + 1) q2 u2 (by rw [hl1]; omega) (by simp; omega) (by omega) (by omega) (snoc he hen) (snoc hv hen) (by omega) (by omega)
      refine ⟨l, q, u, ?_, b, c, by omega⟩
      refine cm_step (fun k => by rw [spec_l1Cur_events.l0]) ?_
      simp only [hx8, hmm]
      refine cm_yes (by omega) ?_
      refine cm_bind (cm_now fun _ => e1) ?_
      refine cm_bind (cm_now fun _ => e2) ?_
      refine cm_yes c0 ?_
      refine cm_yes (by omega) ?_
      refine cm_yes (by omega) ?_
      exact a
    · have hen := hev 1 0 (by omega) (by omega)
      by_cases c1 : b2 = 1
      · by_cases cw : (wt.length : Int) > 0
        · obtain ⟨b3, q3, u3, e3, v3, w3⟩ := pick_f hs q2 u2 (by omega) (by omega) (wt.length : Int)
          have hr := hv _ (rdT_mem (l := wt) (i := b3) v3.1 (by omega))
          by_cases cr : (rd_T65 wt b3).f0 = b1
          · obtain ⟨l, q, u, a, b, c, e⟩ := ev_go hs n hn d (acc ++ [⟨b1, 1, 0⟩]) wt m q3 u3 (by rw [hl1]; omega) (by rw [hl1]; omega) hm (by omega) (snoc he hen) hv (by omega) (by omega)
            refine ⟨l, q, u, ?_, b, c, by omega⟩
            refine cm_step (fun k => by rw [spec_l1Cur_events.l0]) ?_
            simp only [hx8]
            refine cm_yes (by omega) ?_
            refine cm_bind (cm_now fun _ => e1) ?_
            refine cm_bind (cm_now fun _ => e2) ?_
            refine cm_no c0 ?_
            refine cm_yes c1 ?_
            refine cm_yes cw ?_
            refine cm_bind (cm_now fun _ => e3) ?_
            refine cm_yes v3.1 ?_
            refine cm_yes (show b3 < (wt.length : Int) by omega) ?_
            refine cm_yes cr ?_
            refine cm_yes (by omega) ?_
            exact a
          · have hen3 := hev 3 (rd_T65 wt b3).f2 (by omega) hr.2.2
            have hb3 : wrap64 (b3 + 1) = b3 + 1 := wrap_in (by omega) (by omega)
            have hw1 : (wt.take b3.toNat).length ≤ wt.length := by rw [List.length_take]; omega
            have hw2 : (wt.take b3.toNat).length + (wt.drop (b3 + 1).toNat).length ≤ wt.length := by rw [List.length_take, List.length_drop]; omega
            obtain ⟨l, q, u, a, b, c, e⟩ := ev_go hs n hn d (acc ++ [⟨b1, 3, (rd_T65 wt b3).f2⟩]) (([] ++ wt.take b3.toNat) ++ wt.drop (b3 + 1).toNat) m q3 u3 (by rw [hl1]; omega) (by rw [hl1, List.nil_append, List.length_append]; omega) hm (by omega) (snoc he hen3) (fun x hx => by
              rw [List.nil_append] at hx
              rcases List.mem_append.1 hx with h | h
              · exact hv x (List.mem_of_mem_take h)
              · exact hv x (List.mem_of_mem_drop h)) (by omega) (by omega)
            refine ⟨l, q, u, ?_, b, c, by omega⟩
            refine cm_step (fun k => by rw [spec_l1Cur_events.l0]) ?_
            simp only [hx8]
            refine cm_yes (by omega) ?_
            refine cm_bind (cm_now fun _ => e1) ?_
            refine cm_bind (cm_now fun _ => e2) ?_
            refine cm_no c0 ?_
            refine cm_yes c1 ?_
            refine cm_yes cw ?_
            refine cm_bind (cm_now fun _ => e3) ?_
            refine cm_yes v3.1 ?_
            refine cm_yes (show b3 < (wt.length : Int) by omega) ?_
            refine cm_no cr ?_
            refine cm_bind (cm_now fun _ => rfl) ?_
            refine cm_yes (show b3 ≤ (wt.length : Int) by omega) ?_
            refine cm_bind (cm_now fun _ => rfl) ?_
            refine cm_yes (show ([] : List S65).length + (wt.take b3.toNat).length < 5864062014805 by rw [List.length_nil]; omega) ?_
            refine cm_bind (cm_now fun _ => rfl) ?_
            simp only [hb3]
            refine cm_yes (show 0 ≤ b3 + 1 by omega) ?_
            refine cm_yes (show b3 + 1 ≤ (wt.length : Int) by omega) ?_
            refine cm_bind (cm_now fun _ => rfl) ?_
            refine cm_yes (show (([] : List S65) ++ wt.take b3.toNat).length + (wt.drop (b3 + 1).toNat).length < 5864062014805 by rw [List.nil_append]; omega) ?_
            refine cm_yes (by omega) ?_
            exact a
        · obtain ⟨l, q, u, a, b, c, e⟩ := ev_go hs n hn d (acc ++ [⟨b1, 1, 0⟩]) wt m q2 u2 (by rw [hl1]; omega) (by rw [hl1]; omega) hm (by omega) (snoc he hen) hv (by omega) (by omega)
          refine ⟨l, q, u, ?_, b, c, by omega⟩
          refine cm_step (fun k => by rw [spec_l1Cur_events.l0]) ?_
          simp only [hx8]
          refine cm_yes (by omega) ?_
          refine cm_bind (cm_now fun _ => e1) ?_
          refine cm_bind (cm_now fun _ => e2) ?_
          refine cm_no c0 ?_
          refine cm_yes c1 ?_
          refine cm_no cw ?_
          refine cm_yes (by omega) ?_
          exact a
      · obtain ⟨l, q, u, a, b, c, e⟩ := ev_go hs n hn d (acc ++ [⟨b1, 1, 0⟩]) wt m q2 u2 (by rw [hl1]; omega) (by rw [hl1]; omega) hm (by omega) (snoc he hen) hv (by omega) (by omega)
        refine ⟨l, q, u, ?_, b, c, by omega⟩
        refine cm_step (fun k => by rw [spec_l1Cur_events.l0]) ?_
        simp only [hx8]
        refine cm_yes (by omega) ?_
        refine cm_bind (cm_now fun _ => e1) ?_
        refine cm_bind (cm_now fun _ => e2) ?_
        refine cm_no c0 ?_
        refine cm_no c1 ?_
        refine cm_yes (by omega) ?_
        exact a
theorem events_draw {s : List Int} (hs : Bytes s) : ∃ n l q u, Cm (fun k => spec_l1Cur_events.f k s 0 0) (n, l, q, u) ∧ Small n l ∧ (0 ≤ q ∧ q ≤ 1000) ∧ l.length ≤ 30 := by
  obtain ⟨b1, q1, u1, e1, v1, w1⟩ := pick_f hs 0 0 (by omega) (by omega) 4
  obtain ⟨b2, q2, u2, e2, v2, w2⟩ := pick_f hs q1 u1 (by omega) (by omega) 14
  obtain ⟨f, q3, u3, e3, w3⟩ := one_f hs q2 u2 (by omega) (by omega) 20
  have hn : wrap64 (1 + b1) = 1 + b1 := wrap_in (by omega) (by omega)
  have hj : ∀ (d : Nat) (p st : Int), d ≤ 30 → 0 ≤ p → p ≤ 100 → ∃ l q u, Cm (fun k => spec_l1Cur_events.j0 k (1 + b1) 0 (d : Int) s p st) (1 + b1, l, q, u) ∧ l.length ≤ 30 ∧ (∀ x ∈ l, E1 x) ∧ (0 ≤ q ∧ q ≤ 1000) := by
    intro d p st hd h0 h1
    obtain ⟨l, q, u, a, b, c, e⟩ := ev_go hs (1 + b1) (by omega) d [] [] 0 p st (by simp; omega) (by simp) (by omega) (by omega) (by simp) (by simp) h0 (by omega)
    refine ⟨l, q, u, ?_, b, c, by omega⟩
    refine cm_step (fun k => by rw [spec_l1Cur_events.j0]) ?_
    exact a
  cases f with
  | true =>
    obtain ⟨b4, q4, u4, e4, v4, w4⟩ := pick_f hs q3 u3 (by omega) (by omega) 2
    obtain ⟨l, q, u, a, b, c, e⟩ := hj (24 + b4.toNat) q4 u4 (by omega) (by omega) (by omega)
    refine ⟨1 + b1, l, q, u, ?_, ⟨by omega, by omega, c⟩, e, b⟩
    unfold spec_l1Cur_events.f
    refine cm_bind (cm_now fun _ => e1) ?_
    refine cm_bind (cm_now fun _ => e2) ?_
    refine cm_bind (cm_now fun _ => e3) ?_
    refine cm_yes rfl ?_
    refine cm_bind (cm_now fun _ => e4) ?_
    simp only [hn, show wrap64 (24 + b4) = ((24 + b4.toNat : Nat) : Int) from by rw [wrap_in (by omega) (by omega)]; omega]
    exact a
  | false =>
    obtain ⟨l, q, u, a, b, c, e⟩ := hj b2.toNat q3 u3 (by omega) (by omega) (by omega)
    refine ⟨1 + b1, l, q, u, ?_, ⟨by omega, by omega, c⟩, e, b⟩
    rw [show ((b2.toNat : Nat) : Int) = b2 by omega] at a
    unfold spec_l1Cur_events.f
    refine cm_bind (cm_now fun _ => e1) ?_
    refine cm_bind (cm_now fun _ => e2) ?_
    refine cm_bind (cm_now fun _ => e3) ?_
    refine cm_no (fun h => Bool.false_ne_true h) ?_
    simp only [hn]
    exact a
end Go.Proofs.Ytinbfclfglogmaa.PastD
end
section
namespace Go.Proofs.Ytinbfclfglogmaa.Base
open Go.RowKit Go.Proofs.Ytinbfclfglogmaa.P Go.Proofs.YtinbfclfglogmaaW.PrintWords Go.Proofs.YtinbfclfglogmaaW.PrintLast Go.Proofs.YtinbfclfglogmaaW.PrintMore
open Go.Proofs.Ytinbfclfglogmaa.Pl
theorem in_f (a b c : Int) : impl_in.f a b c = some (decide (b ≤ a ∧ a ≤ c)) := by
  unfold impl_in.f
  split <;> simp <;> omega
theorem l1In_f (a b c : Int) : spec_l1In.f a b c = some (decide (b ≤ a ∧ a ≤ c)) := by
  unfold spec_l1In.f
  split <;> simp <;> omega
end Go.Proofs.Ytinbfclfglogmaa.Base
end
section
namespace Go.Proofs.Ytinbfclfglogmaa.Clocks
open Go.RowKit Go.Proofs.Ytinbfclfglogmaa.P Go.Proofs.YtinbfclfglogmaaW.PrintWords Go.Proofs.YtinbfclfglogmaaW.PrintLast Go.Proofs.YtinbfclfglogmaaW.PrintMore
open Go.Proofs.Ytinbfclfglogmaa.Pl Go.Proofs.Ytinbfclfglogmaa.Base
def inK (n : Int) : Bool := decide (0 ≤ n ∧ n ≤ 1000)
def clock (l : List Int) : Bool := l.all inK && decide (1 ≤ l.length ∧ l.length ≤ 5)
def clocks (a b : List Int) : Bool := clock a && clock b && decide (a.length = b.length)
theorem clock_len {l : List Int} (h : clock l = true) : 1 ≤ l.length ∧ l.length ≤ 5 := by
  simp only [clock, Bool.and_eq_true, decide_eq_true_eq] at h
  exact h.2
theorem clock_all {l : List Int} (h : clock l = true) : ∀ x ∈ l, 0 ≤ x ∧ x ≤ 1000 := by
  simp only [clock, Bool.and_eq_true, List.all_eq_true, inK, decide_eq_true_eq] at h
  exact h.1
theorem clocks_iff {a b : List Int} : clocks a b = true ↔ clock a = true ∧ clock b = true ∧ a.length = b.length := by
  simp [clocks, and_assoc]
theorem spec_clock_l0 (l : List Int) (hl : l.length ≤ 1048576) : ∀ (rest pre : List Int) (k : Nat), pre ++ rest = l → rest.length < k →
    spec_l7Clock.l0 k l l (l.length : Int) (pre.length : Int) = some (rest.all inK && decide (1 ≤ l.length ∧ l.length ≤ 5)) := by
  intro rest
  induction rest with
  | nil =>
    intro pre k e hk
    obtain ⟨k, rfl⟩ := round hk
    have := len_end e
    simp only [spec_l7Clock.l0]
    rw [if_neg (by omega), l1In_f]
    simp only [Option.bind_some, List.all_nil, Bool.true_and, Option.some.injEq]
    congr 1
    apply propext
    omega
  | cons h t ih =>
    intro pre k e hk
    obtain ⟨k, rfl⟩ := round hk
    have hlt := len_mid e
    simp only [spec_l7Clock.l0]
    rw [if_pos (by omega), if_pos (by omega), if_pos (by omega), rd_at e, wrap_len hlt (by omega), l1In_f]
    have := ih (pre ++ [h]) k (app_mid e) (by simpa using hk)
    rw [len_one] at this
    rw [this]
    by_cases h1 : 0 ≤ h ∧ h ≤ 1000 <;> simp [inK, h1]
theorem spec_clock_f (l : List Int) (hl : l.length ≤ 1048576) (k : Nat) (hk : l.length < k) : spec_l7Clock.f k l = some (clock l) := by
  unfold spec_l7Clock.f
  exact spec_clock_l0 l hl l [] k rfl hk
theorem impl_are_l0 (a b : List Int) (hl : a.length ≤ 1048576) : ∀ (ra rb pa pb : List Int) (k : Nat), pa ++ ra = a → pb ++ rb = b → pa.length = pb.length → ra.length = rb.length → ra.length < k →
    impl_areClocks.l0 k b a (a.length : Int) (pa.length : Int) = some (ra.all inK && rb.all inK) := by
  intro ra
  induction ra with
  | nil =>
    intro rb pa pb k ea eb hp hr hk
    obtain ⟨k, rfl⟩ := round hk
    have := len_end ea
    obtain rfl : rb = [] := List.length_eq_zero_iff.1 hr.symm
    simp only [impl_areClocks.l0]
    rw [if_neg (by omega)]
    rfl
  | cons x ta ih =>
    intro rb pa pb k ea eb hp hr hk
    obtain ⟨k, rfl⟩ := round hk
    match rb, hr with
    | y :: tb, hr =>
    have hlt := len_mid ea
    have hltb := len_mid eb
    have e2 : rd b (pa.length : Int) = y := by rw [hp]; exact rd_at eb
    have := ih tb (pa ++ [x]) (pb ++ [y]) k (app_mid ea) (app_mid eb) (by simpa using hp) (by simpa using hr) (by simpa using hk)
    rw [len_one] at this
    simp only [impl_areClocks.l0]
    rw [if_pos (by omega), if_pos (by omega), if_pos (by omega), rd_at ea, e2, wrap_len hlt (by omega), in_f, in_f, this]
    simp only [Option.bind_some]
    by_cases hx : 0 ≤ x ∧ x ≤ 1000
    · rw [if_pos (by simpa using hx), if_pos (by omega)]
      by_cases hy : 0 ≤ y ∧ y ≤ 1000
      · rw [if_pos (by simpa using hy)]; simp [inK, hx, hy]
      · rw [if_neg (by simpa using hy)]; simp [inK, hy]
    · rw [if_neg (by simpa using hx)]; simp [inK, hx]
theorem impl_are_f (a b : List Int) (hl : a.length ≤ 1048576) (k : Nat) (hk : a.length + 1 < k) : impl_areClocks.f k a b = some (clocks a b) := by
  unfold impl_areClocks.f
  obtain ⟨k, rfl⟩ := round hk
  by_cases he : a.length = b.length
  · rw [if_pos (by omega), in_f]
    simp only [Option.bind_some, impl_areClocks.j0]
    by_cases h1 : 1 ≤ a.length ∧ a.length ≤ 5
    · have := impl_are_l0 a b hl a b [] [] k rfl rfl rfl he (by omega)
      simp only [List.length_nil] at this
      rw [if_neg (by simp; omega), show (0 : Int) = ((0 : Nat) : Int) from rfl, this]
      have h2 : 1 ≤ b.length ∧ b.length ≤ 5 := by omega
      simp [clocks, clock, h2, he]
    · rw [if_pos (by simp; omega)]
      have : clock a = false := by simp [clock, h1]
      simp [clocks, this]
  · rw [if_neg (by omega)]
    simp only [impl_areClocks.j0, if_true]
    simp [clocks, he]
def joinL : List Int → List Int → List Int
  | a :: ta, b :: tb => mx a b :: joinL ta tb
  | _, _ => []
theorem joinL_length : ∀ (a b : List Int), a.length = b.length → (joinL a b).length = a.length
  | [], [], _ => rfl
  | a :: ta, b :: tb, h => by simp [joinL, joinL_length ta tb (by simpa using h)]
def joinClocks (a b : List Int) : List Int × Bool := if clocks a b = true then (joinL a b, true) else ([], false)
theorem joinClocks_length (a b : List Int) : (joinClocks a b).1.length ≤ 5 := by
  unfold joinClocks
  by_cases h : clocks a b = true
  · rw [if_pos h]
    obtain ⟨h1, h2, h3⟩ := clocks_iff.1 h
    have := clock_len h1
    show (joinL a b).length ≤ 5
    rw [joinL_length a b h3]
    omega
  · rw [if_neg h]; simp
theorem spec_join_l0 (b : List Int) (hl : b.length ≤ 1048576) : ∀ (rb ra pb out : List Int) (k : Nat), pb ++ rb = b → out.length = pb.length → ra.length = rb.length → rb.length < k →
    spec_l7Join.l0 k (out ++ ra) b (b.length : Int) (pb.length : Int) = some (out ++ joinL ra rb) := by
  intro rb
  induction rb with
  | nil =>
    intro ra pb out k eb ho hr hk
    obtain ⟨k, rfl⟩ := round hk
    have := len_end eb
    obtain rfl : ra = [] := List.length_eq_zero_iff.1 hr
    simp only [spec_l7Join.l0]
    rw [if_neg (by omega)]
    rfl
  | cons y tb ih =>
    intro ra pb out k eb ho hr hk
    obtain ⟨k, rfl⟩ := round hk
    match ra, hr with
    | x :: ta, hr =>
    have hlt := len_mid eb
    have e2 : rd (out ++ x :: ta) (pb.length : Int) = x := by rw [← ho]; exact rd_mid out x ta
    have := ih ta (pb ++ [y]) (out ++ [mx x y]) k (app_mid eb) (by simp [ho]) (by simpa using hr) (by simpa using hk)
    rw [len_one] at this
    simp only [spec_l7Join.l0]
    rw [if_pos (by omega), if_pos (by omega), if_pos (by omega), if_pos (by simp; omega), rd_at eb, e2, wrap_len hlt (by omega), Int.toNat_natCast]
    by_cases h : y > x
    · have hs : (out ++ x :: ta).set pb.length y = (out ++ [mx x y]) ++ ta := by
        rw [← ho]; simp [mx]; omega
      rw [if_pos h, hs, this]
      simp [joinL]
    · have hs : out ++ x :: ta = (out ++ [mx x y]) ++ ta := by
        simp [mx]; omega
      rw [if_neg h, hs, this]
      simp [joinL]
theorem spec_join_f (a b : List Int) (hl : a.length ≤ 1048576) (he : a.length = b.length) (k : Nat) (hk : a.length < k) : spec_l7Join.f k a b = some (joinL a b) := by
  unfold spec_l7Join.f
  simp only [Option.bind_some, List.nil_append, List.length_nil]
  rw [if_pos (by omega)]
  exact spec_join_l0 b (by omega) b a [] [] k rfl rfl he (by omega)
theorem spec_joinClocks_f (a b : List Int) (hl : a.length ≤ 1048576) (hlb : b.length ≤ 1048576) (k : Nat) (hk : a.length + b.length + 1 < k) : spec_JoinClocks.f k a b = some (joinClocks a b) := by
  unfold spec_JoinClocks.f joinClocks
  rw [spec_clock_f a hl k (by omega), spec_clock_f b hlb k (by omega)]
  simp only [Option.bind_some]
  by_cases h1 : clock a = true
  · by_cases h2 : clock b = true
    · by_cases he : a.length = b.length
      · rw [if_pos h1, if_pos h2, if_pos (by omega), spec_join_f a b hl he k (by omega), if_pos (clocks_iff.2 ⟨h1, h2, he⟩)]; rfl
      · rw [if_pos h1, if_pos h2, if_neg (by omega), if_neg (fun h => he (clocks_iff.1 h).2.2)]
    · rw [if_pos h1, if_neg h2, if_neg (fun h => h2 (clocks_iff.1 h).2.1)]
  · rw [if_neg h1, if_neg (fun h => h1 (clocks_iff.1 h).1)]
theorem impl_join_l0 (a b : List Int) (hl : a.length ≤ 1048576) : ∀ (ra rb pa pb out : List Int) (k : Nat), pa ++ ra = a → pb ++ rb = b → pa.length = pb.length → out.length = pa.length → ra.length = rb.length → ra.length < k →
    impl_JoinClocks.l0 k b out a (a.length : Int) (pa.length : Int) = some (out ++ joinL ra rb, true) := by
  intro ra
  induction ra with
  | nil =>
    intro rb pa pb out k ea eb hp ho hr hk
    obtain ⟨k, rfl⟩ := round hk
    have := len_end ea
    simp only [impl_JoinClocks.l0]
    rw [if_neg (by omega)]
    simp [joinL]
  | cons x ta ih =>
    intro rb pa pb out k ea eb hp ho hr hk
    obtain ⟨k, rfl⟩ := round hk
    match rb, hr with
    | y :: tb, hr =>
    have hlt := len_mid ea
    have hltb := len_mid eb
    have e2 : rd b (pa.length : Int) = y := by rw [hp]; exact rd_at eb
    have := ih tb (pa ++ [x]) (pb ++ [y]) (out ++ [mx x y]) k (app_mid ea) (app_mid eb) (by simpa using hp) (by simp [ho]) (by simpa using hr) (by simpa using hk)
    rw [len_one] at this
    simp only [impl_JoinClocks.l0]
    rw [if_pos (by omega), if_pos (by omega), if_pos (by omega), if_pos (by omega), if_pos (by omega), rd_at ea, e2, wrap_len hlt (by omega), this]
    simp [joinL]
theorem impl_joinClocks_f (a b : List Int) (hl : a.length ≤ 1048576) (hlb : b.length ≤ 1048576) (k : Nat) (hk : a.length + b.length + 1 < k) : impl_JoinClocks.f k a b = some (joinClocks a b) := by
  unfold impl_JoinClocks.f joinClocks
  rw [impl_are_f a b hl k (by omega)]
  simp only [Option.bind_some]
  by_cases h : clocks a b = true
  · have := impl_join_l0 a b hl a b [] [] [] k rfl rfl rfl rfl (clocks_iff.1 h).2.2 (by omega)
    simp only [List.length_nil, List.nil_append] at this
    rw [if_pos h, if_pos h, show (0 : Int) = ((0 : Nat) : Int) from rfl, this]
  · rw [if_neg h, if_neg h]
def lessB : List Int → List Int → Bool
  | a :: ta, b :: tb => decide (a < b) || lessB ta tb
  | _, _ => false
def moreB : List Int → List Int → Bool
  | a :: ta, b :: tb => decide (a > b) || moreB ta tb
  | _, _ => false
def verdict (less more : Bool) : Int := if less = true ∧ more = true then 2 else if less = true then -1 else if more = true then 1 else 0
def compareClocks (a b : List Int) : Int × Bool := if clocks a b = true then (verdict (lessB a b) (moreB a b), true) else (0, false)
theorem spec_compare_l0 (a b : List Int) (hl : a.length ≤ 1048576) : ∀ (ra rb pa pb : List Int) (le mo : Bool) (k : Nat), pa ++ ra = a → pb ++ rb = b → pa.length = pb.length → ra.length = rb.length → ra.length + 1 < k →
    spec_l7Compare.l0 k a b le mo (a.length : Int) (pa.length : Int) = some (verdict (le || lessB ra rb) (mo || moreB ra rb)) := by
  intro ra
  induction ra with
  | nil =>
    intro rb pa pb le mo k ea eb hp hr hk
    obtain ⟨k, rfl⟩ := round hk
    obtain ⟨k, rfl⟩ : ∃ m, k = m + 1 := ⟨k - 1, by simp at hk; omega⟩
    have := len_end ea
    simp only [spec_l7Compare.l0]
    rw [if_neg (by omega)]
    cases le <;> cases mo <;> simp [spec_l7Compare.j1, verdict, lessB, moreB]
  | cons x ta ih =>
    intro rb pa pb le mo k ea eb hp hr hk
    obtain ⟨k, rfl⟩ := round hk
    match rb, hr with
    | y :: tb, hr =>
    have hlt := len_mid ea
    have hltb := len_mid eb
    have e2 : rd b (pa.length : Int) = y := by rw [hp]; exact rd_at eb
    have := fun le mo => ih tb (pa ++ [x]) (pb ++ [y]) le mo k (app_mid ea) (app_mid eb) (by simpa using hp) (by simpa using hr) (by simpa using hk)
    rw [len_one] at this
    simp only [spec_l7Compare.l0]
    rw [if_pos (by omega), wrap_len hlt (by omega), rd_at ea, e2]
    have g1 : (0 : Int) ≤ (pa.length : Int) := by omega
    have g2 : (pa.length : Int) < (a.length : Int) := by omega
    have g3 : (pa.length : Int) < (b.length : Int) := by omega
    cases le <;> cases mo <;> simp only [if_pos g1, if_pos g2, if_pos g3, this, if_true, Bool.false_eq_true, if_false, lessB, moreB, Bool.true_or, Bool.false_or]
theorem spec_compare_f (a b : List Int) (hl : a.length ≤ 1048576) (he : a.length = b.length) (k : Nat) (hk : a.length + 1 < k) : spec_l7Compare.f k a b = some (verdict (lessB a b) (moreB a b)) := by
  unfold spec_l7Compare.f
  have := spec_compare_l0 a b hl a b [] [] false false k rfl rfl rfl he hk
  simpa using this
theorem impl_compare_l0 (a b : List Int) (hl : a.length ≤ 1048576) : ∀ (ra rb pa pb : List Int) (le mo : Bool) (k : Nat), pa ++ ra = a → pb ++ rb = b → pa.length = pb.length → ra.length = rb.length → ra.length + 1 < k →
    impl_CompareClocks.l0 k b le mo a (a.length : Int) (pa.length : Int) = some (verdict (le || lessB ra rb) (mo || moreB ra rb), true) := by
  intro ra
  induction ra with
  | nil =>
    intro rb pa pb le mo k ea eb hp hr hk
    obtain ⟨k, rfl⟩ := round hk
    obtain ⟨k, rfl⟩ : ∃ m, k = m + 1 := ⟨k - 1, by simp at hk; omega⟩
    have := len_end ea
    simp only [impl_CompareClocks.l0]
    rw [if_neg (by omega)]
    cases le <;> cases mo <;> simp [impl_CompareClocks.j1, verdict, lessB, moreB]
  | cons x ta ih =>
    intro rb pa pb le mo k ea eb hp hr hk
    obtain ⟨k, rfl⟩ := round hk
    match rb, hr with
    | y :: tb, hr =>
    have hlt := len_mid ea
    have hltb := len_mid eb
    have e2 : rd b (pa.length : Int) = y := by rw [hp]; exact rd_at eb
    have := fun le mo => ih tb (pa ++ [x]) (pb ++ [y]) le mo k (app_mid ea) (app_mid eb) (by simpa using hp) (by simpa using hr) (by simpa using hk)
    rw [len_one] at this
    simp only [impl_CompareClocks.l0]
    rw [if_pos (by omega), wrap_len hlt (by omega), rd_at ea, e2]
    have g1 : (0 : Int) ≤ (pa.length : Int) := by omega
    have g2 : (pa.length : Int) < (a.length : Int) := by omega
    have g3 : (pa.length : Int) < (b.length : Int) := by omega
    cases le <;> cases mo <;> simp only [if_pos g1, if_pos g2, if_pos g3, this, if_true, Bool.false_eq_true, if_false, lessB, moreB, Bool.true_or, Bool.false_or]
theorem spec_compareClocks_f (a b : List Int) (hl : a.length ≤ 1048576) (hlb : b.length ≤ 1048576) (k : Nat) (hk : a.length + b.length + 1 < k) : spec_CompareClocks.f k a b = some (compareClocks a b) := by
  unfold spec_CompareClocks.f compareClocks
  rw [spec_clock_f a hl k (by omega), spec_clock_f b hlb k (by omega)]
  simp only [Option.bind_some]
  by_cases h1 : clock a = true
  · by_cases h2 : clock b = true
    · by_cases he : a.length = b.length
      · rw [if_pos h1, if_pos h2, if_pos (by omega), spec_compare_f a b hl he k (by omega), if_pos (clocks_iff.2 ⟨h1, h2, he⟩)]; rfl
      · rw [if_pos h1, if_pos h2, if_neg (by omega), if_neg (fun h => he (clocks_iff.1 h).2.2)]
    · rw [if_pos h1, if_neg h2, if_neg (fun h => h2 (clocks_iff.1 h).2.1)]
  · rw [if_neg h1, if_neg (fun h => h1 (clocks_iff.1 h).1)]
theorem impl_compareClocks_f (a b : List Int) (hl : a.length ≤ 1048576) (hlb : b.length ≤ 1048576) (k : Nat) (hk : a.length + b.length + 1 < k) : impl_CompareClocks.f k a b = some (compareClocks a b) := by
  unfold impl_CompareClocks.f compareClocks
  rw [impl_are_f a b hl k (by omega)]
  simp only [Option.bind_some]
  by_cases h : clocks a b = true
  · have := impl_compare_l0 a b hl a b [] [] false false k rfl rfl rfl (clocks_iff.1 h).2.2 (by omega)
    simp only [List.length_nil, Bool.false_or] at this
    rw [if_pos h, if_pos h, show (0 : Int) = ((0 : Nat) : Int) from rfl, this]
  · rw [if_neg h, if_neg h]
end Go.Proofs.Ytinbfclfglogmaa.Clocks
end
section
namespace Go.Proofs.Ytinbfclfglogmaa.ClkA
open Go.RowKit Go.Proofs.Ytinbfclfglogmaa.P Go.Proofs.YtinbfclfglogmaaW.PrintWords Go.Proofs.YtinbfclfglogmaaW.PrintLast Go.Proofs.YtinbfclfglogmaaW.PrintMore
open Go.Proofs.Ytinbfclfglogmaa.Pl Go.Proofs.Ytinbfclfglogmaa.EvN Go.Proofs.Ytinbfclfglogmaa.Lp Go.Proofs.Ytinbfclfglogmaa.Mem Go.Proofs.Ytinbfclfglogmaa.Xm Go.Proofs.Ytinbfclfglogmaa.Hg Go.Proofs.Ytinbfclfglogmaa.Events Go.Proofs.Ytinbfclfglogmaa.Causes Go.Proofs.Ytinbfclfglogmaa.Put Go.Proofs.Ytinbfclfglogmaa.Pasts Go.Proofs.Ytinbfclfglogmaa.PastsF Go.Proofs.Ytinbfclfglogmaa.Draw Go.Proofs.Ytinbfclfglogmaa.PastD
set_option linter.unusedSimpArgs false
set_option linter.unusedVariables false
theorem less_get : ∀ (a b : List Int), Clocks.lessB a b = true ↔ ∃ i, i < a.length ∧ i < b.length ∧ a.getD i 0 < b.getD i 0
  | [], b => by cases b <;> simp [Clocks.lessB]
  | x :: t, [] => by simp [Clocks.lessB]
  | x :: t, y :: s => by
    simp only [Clocks.lessB, Bool.or_eq_true, decide_eq_true_eq, less_get t s]
    constructor
    · rintro (h | ⟨i, h1, h2, h3⟩)
      · exact ⟨0, by simp, by simp, by simpa using h⟩
      · exact ⟨i + 1, by simpa using h1, by simpa using h2, by simpa using h3⟩
    · rintro ⟨i, h1, h2, h3⟩
      cases i with
      | zero => left; simpa using h3
      | succ i => right; exact ⟨i, by simpa using h1, by simpa using h2, by simpa using h3⟩
theorem more_less : ∀ (a b : List Int), Clocks.moreB a b = Clocks.lessB b a
  | [], b => by cases b <;> simp [Clocks.lessB, Clocks.moreB]
  | x :: t, [] => by simp [Clocks.lessB, Clocks.moreB]
  | x :: t, y :: s => by
    simp only [Clocks.lessB, Clocks.moreB, more_less t s, gt_iff_lt]
theorem less_rd (a b : List Int) (h : a.length = b.length) : Clocks.lessB a b = true ↔ ∃ p : Nat, p < a.length ∧ rd a (p : Int) < rd b (p : Int) := by
  rw [less_get]
  constructor
  · rintro ⟨i, h1, _, h3⟩
    exact ⟨i, h1, by simpa [rd] using h3⟩
  · rintro ⟨i, h1, h3⟩
    exact ⟨i, h1, by omega, by simpa [rd] using h3⟩
section
variable {procs : Int} {l : List S65}
theorem vnn (hg : okFrom (good1 procs) [] l = true) {i : Nat} (hi : i < l.length) {p : Nat} (hp : (p : Int) < procs) : 0 ≤ rd (vecOf procs l i) (p : Int) := by
  have hj := join_nonneg hg hi hp
  have hpi := proc_in hg hi
  have hlen := (vec_length hg hi).1
  have hq : (((ev l i).f0.toNat : Nat) : Int) = (ev l i).f0 := by omega
  unfold vecOf
  rw [← hq]
  by_cases c : p = (ev l i).f0.toNat
  · subst c
    rw [rd_bump_same (by omega)]
    omega
  · rw [rd_bump_other c]
    exact hj
theorem vle (hg : okFrom (good1 procs) [] l = true) {a b : Nat} (ha : a < l.length) (hb : b < l.length) (h : (a : Int) ∈ pastOf l b) {p : Nat} (hp : (p : Int) < procs) : rd (vecOf procs l a) (p : Int) ≤ rd (vecOf procs l b) (p : Int) := by
  by_cases c : 1 ≤ rd (vecOf procs l a) (p : Int)
  · obtain ⟨j, h1, h2, h3⟩ := ((told hg ha).2.2 p hp _ c).1 (Int.le_refl _)
    refine ((told hg hb).2.2 p hp _ c).2 ⟨j, .inr ?_, h2, h3⟩
    rcases h1 with rfl | h1
    · exact h
    · exact past_trans hg h1 hb h
  · have := vnn hg hb hp
    omega
theorem vlt (hg : okFrom (good1 procs) [] l = true) {a b : Nat} (ha : a < l.length) (hb : b < l.length) (hne : a ≠ b) (h : (a : Int) ∉ pastOf l b) : Clocks.lessB (vecOf procs l b) (vecOf procs l a) = true := by
  have hpa := proc_in hg ha
  have la := (vec_length hg ha).2
  have lb := (vec_length hg hb).2
  have hq : (((ev l a).f0.toNat : Nat) : Int) = (ev l a).f0 := by omega
  rw [less_rd _ _ (by rw [la, lb])]
  refine ⟨(ev l a).f0.toNat, by omega, ?_⟩
  rw [hq]
  have := (ahead_iff hg ha hb)
  by_cases c : rd (vecOf procs l a) (ev l a).f0 ≤ rd (vecOf procs l b) (ev l a).f0
  · exact absurd (this.1 ⟨hne, c⟩) h
  · omega
theorem vno (hg : okFrom (good1 procs) [] l = true) {a b : Nat} (ha : a < l.length) (hb : b < l.length) (h : (a : Int) ∈ pastOf l b ∨ a = b) : Clocks.lessB (vecOf procs l b) (vecOf procs l a) = false := by
  have la := (vec_length hg ha).2
  have lb := (vec_length hg hb).2
  cases c : Clocks.lessB (vecOf procs l b) (vecOf procs l a) with
  | false => rfl
  | true =>
    obtain ⟨p, h1, h2⟩ := (less_rd _ _ (by rw [la, lb])).1 c
    rcases h with h | rfl
    · have := vle hg ha hb h (p := p) (by omega)
      omega
    · omega
theorem cmp_vec (hg : okFrom (good1 procs) [] l = true) {a b : Nat} (ha : a < l.length) (hb : b < l.length) :
    Clocks.verdict (Clocks.lessB (vecOf procs l a) (vecOf procs l b)) (Clocks.moreB (vecOf procs l a) (vecOf procs l b)) = if a = b then 0 else if (a : Int) ∈ pastOf l b then -1 else if (b : Int) ∈ pastOf l a then 1 else 2 := by
  rw [more_less]
  by_cases e : a = b
  · rw [if_pos e, vno hg ha hb (.inr e), vno hg hb ha (.inr e.symm)]
    rfl
  · rw [if_neg e]
    by_cases h : (a : Int) ∈ pastOf l b
    · rw [if_pos h, vno hg ha hb (.inl h), vlt hg hb ha (fun e2 => e e2.symm) (fun h2 => by
        have := past_lt hg hb _ h
        have := past_lt hg ha _ h2
        omega)]
      rfl
    · rw [if_neg h, vlt hg ha hb e h]
      by_cases h2 : (b : Int) ∈ pastOf l a
      · rw [if_pos h2, vno hg hb ha (.inl h2)]
        rfl
      · rw [if_neg h2, vlt hg hb ha (fun e2 => e e2.symm) h2]
        rfl
theorem vrange (hg : okFrom (good1 procs) [] l = true) (hl : l.length ≤ 24) {i : Nat} (hi : i < l.length) : ∀ x ∈ vecOf procs l i, 0 ≤ x ∧ x ≤ 1000 := by
  intro x hx
  have lv := (vec_length hg hi).2
  obtain ⟨p, hp, rfl⟩ := List.getElem_of_mem hx
  have e : rd (vecOf procs l i) (p : Int) = (vecOf procs l i)[p] := by simp [rd, List.getD, hp]
  rw [← e]
  have h0 := vnn hg hi (p := p) (by omega)
  refine ⟨h0, ?_⟩
  by_cases c : 1 ≤ rd (vecOf procs l i) (p : Int)
  · obtain ⟨j, h1, h2, h3⟩ := ((told hg hi).2.2 p (by omega) _ c).1 (Int.le_refl _)
    have hj : j < l.length := by
      rcases h1 with rfl | h1
      · exact hi
      · have := past_lt hg hi _ h1
        omega
    have := rank_le (l := l) (ev l j).f0 (j + 1)
    unfold rk at h3
    omega
  · omega
theorem vclocks (hg : good procs l = true) {a b : Nat} (ha : a < l.length) (hb : b < l.length) : Clocks.clocks (vecOf procs l a) (vecOf procs l b) = true := by
  obtain ⟨hg1, hp, hl⟩ := good_iff.1 hg
  have la := (vec_length hg1 ha).2
  have lb := (vec_length hg1 hb).2
  have key : ∀ i, i < l.length → Clocks.clock (vecOf procs l i) = true := by
    intro i hi
    have lv := (vec_length hg1 hi).2
    simp only [Clocks.clock, Bool.and_eq_true, List.all_eq_true, decide_eq_true_eq, Clocks.inK]
    exact ⟨fun x hx => vrange hg1 hl hi x hx, by omega⟩
  exact Clocks.clocks_iff.2 ⟨key a ha, key b hb, by rw [la, lb]⟩
end
theorem rd_scal (l : List S65) : ∀ {n k : Nat}, k < n → rd (scal l n) (k : Int) = maxOver (scal l k) (causesL l k) + 1 := by
  intro n
  induction n with
  | zero => intro k h; omega
  | succ n ih =>
    intro k h
    have hn := scal_length l n
    have hs : scal l (n + 1) = scal l n ++ [maxOver (scal l n) (causesL l n) + 1] := rfl
    rw [hs]
    by_cases c : k = n
    · subst c
      simp [rd, List.getD, hn]
    · have h2 : k < n := by omega
      rw [← ih h2]
      simp [rd, List.getD, List.getElem?_append, hn, h2]
theorem max_ge (out : List Int) : ∀ (cs : List Int) (m : Int), m ≤ cs.foldl (fun m k => mx m (rd out k)) m ∧ ∀ k ∈ cs, rd out k ≤ cs.foldl (fun m k => mx m (rd out k)) m
  | [], m => by simp
  | c :: cs, m => by
    obtain ⟨h1, h2⟩ := max_ge out cs (mx m (rd out c))
    have h3 : m ≤ mx m (rd out c) ∧ rd out c ≤ mx m (rd out c) := by unfold mx; split <;> omega
    rw [List.foldl_cons]
    refine ⟨by omega, fun k hk => ?_⟩
    rcases List.mem_cons.1 hk with rfl | hk
    · omega
    · exact h2 k hk
theorem scal_lt {procs : Int} {l : List S65} (hg : okFrom (good1 procs) [] l = true) {a : Nat} : ∀ {b : Nat}, b < l.length → (a : Int) ∈ pastOf l b → rd (scal l l.length) (a : Int) < rd (scal l l.length) (b : Int) := by
  intro b
  induction b using Nat.strongRecOn with
  | _ b ih =>
    intro hb h
    obtain ⟨k, hk, hc, hak⟩ := (mem_past hg hb _).1 h
    have h1 := (max_ge (scal l b) (causesL l b) 0).2 _ hc
    have h2 : rd (scal l b) (k : Int) = rd (scal l l.length) (k : Int) := by rw [rd_scal l hk, rd_scal l (show k < l.length by omega)]
    have h3 : rd (scal l l.length) (b : Int) = maxOver (scal l b) (causesL l b) + 1 := rd_scal l hb
    have h4 : rd (scal l l.length) (k : Int) < rd (scal l l.length) (b : Int) := by
      rw [h3, ← h2]
      unfold maxOver
      omega
    rcases hak with e | hak
    · rw [e]; exact h4
    · have := ih k hk (by omega) hak
      omega
end Go.Proofs.Ytinbfclfglogmaa.ClkA
end
section
namespace Go.Proofs.Ytinbfclfglogmaa.Vec
open Go.RowKit Go.Proofs.Ytinbfclfglogmaa.P Go.Proofs.YtinbfclfglogmaaW.PrintWords Go.Proofs.YtinbfclfglogmaaW.PrintLast Go.Proofs.YtinbfclfglogmaaW.PrintMore
open Go.Proofs.Ytinbfclfglogmaa.Pl Go.Proofs.Ytinbfclfglogmaa.EvN Go.Proofs.Ytinbfclfglogmaa.Lp Go.Proofs.Ytinbfclfglogmaa.Hs Go.Proofs.Ytinbfclfglogmaa.Hg Go.Proofs.Ytinbfclfglogmaa.Events Go.Proofs.Ytinbfclfglogmaa.Causes Go.Proofs.Ytinbfclfglogmaa.Pick
set_option linter.unusedVariables false
set_option linter.unusedSimpArgs false
def joinTo (a b : List Int) : Nat → List Int
  | 0 => a
  | i + 1 => (joinTo a b i).set i (mx (rd (joinTo a b i) (i : Int)) (rd b (i : Int)))
theorem joinTo_length (a b : List Int) : ∀ i, (joinTo a b i).length = a.length
  | 0 => rfl
  | i + 1 => by rw [joinTo, List.length_set, joinTo_length a b i]
def join (a b : List Int) : List Int := joinTo a b b.length
theorem set_self {l : List Int} {i : Nat} (h : i < l.length) : l.set i (rd l (i : Int)) = l := by
  have : rd l (i : Int) = l[i] := by
    unfold rd
    rw [Int.toNat_natCast, List.getD_eq_getElem?_getD, List.getElem?_eq_getElem h, Option.getD_some]
  rw [this]
  exact List.set_getElem_self h
theorem specJoin_f (a b : List Int) (ha : a.length ≤ 1048576) (hb : b.length = a.length) : Cm (fun k => spec_l7Join.f k a b) (join a b) := by
  unfold spec_l7Join.f
  refine cm_bind (cm_now fun _ => rfl) (cm_yes (by simp only [List.length_nil]; omega) ?_)
  rw [List.nil_append]
  refine iter_cm (L := fun k i s => spec_l7Join.l0 k s b (b.length : Int) i) b.length (joinTo a b) ?_ ?_
  · intro i hi u hu
    have hl := joinTo_length a b i
    refine cm_step (fun k => by rw [spec_l7Join.l0]) ?_
    simp only [wrap_n hi (show b.length ≤ 4611686018427387904 by omega), Int.toNat_natCast]
    refine cm_yes (by omega) (cm_yes (by omega) (cm_yes (by omega) (cm_yes (by omega) (cm_if (fun c => ?_) (fun c => ?_)))))
    · rw [joinTo, show mx (rd (joinTo a b i) (i : Int)) (rd b (i : Int)) = rd b (i : Int) by unfold mx; omega] at hu
      exact hu
    · rw [joinTo, show mx (rd (joinTo a b i) (i : Int)) (rd b (i : Int)) = rd (joinTo a b i) (i : Int) by unfold mx; omega, set_self (by omega)] at hu
      exact hu
  · refine cm_step (fun k => by rw [spec_l7Join.l0]) ?_
    exact cm_no (by omega) (cm_now fun _ => rfl)
def over (out : List (List Int)) (cs : List Int) (v : List Int) : List Int := cs.foldl (fun v k => join v (rd_L1 out k)) v
theorem over_length (out : List (List Int)) : ∀ (cs v : List Int), (over out cs v).length = v.length
  | [], _ => rfl
  | k :: cs, v => by
    show (over out cs (join v (rd_L1 out k))).length = _
    rw [over_length out cs, join, joinTo_length]
def bump (v : List Int) (p : Int) : List Int := v.set p.toNat (wrap64 (rd v p + 1))
def vecs (procs : Int) (l : List S65) : Nat → List (List Int)
  | 0 => []
  | i + 1 => vecs procs l i ++ [bump (over (vecs procs l i) (causesL l i) (List.replicate procs.toNat 0)) (ev l i).f0]
theorem vecs_length (procs : Int) (l : List S65) : ∀ i, (vecs procs l i).length = i
  | 0 => rfl
  | i + 1 => by rw [vecs, List.length_append, List.length_singleton, vecs_length procs l i]
theorem vecs_wide (procs : Int) (l : List S65) : ∀ i, ∀ y ∈ vecs procs l i, y.length = procs.toNat
  | 0, y, hy => by simp [vecs] at hy
  | i + 1, y, hy => by
    rw [vecs] at hy
    rcases List.mem_append.1 hy with hy | hy
    · exact vecs_wide procs l i y hy
    · rw [List.mem_singleton.1 hy, bump, List.length_set, over_length, List.length_replicate]
theorem rdL_mem {out : List (List Int)} {k : Int} (h : 0 ≤ k ∧ k < (out.length : Int)) : rd_L1 out k ∈ out := by
  unfold rd_L1
  rw [List.getD_eq_getElem?_getD, List.getElem?_eq_getElem (by omega), Option.getD_some]
  exact List.getElem_mem _
theorem rd_at2 {pre t l : List Int} {h : Int} (e : pre ++ h :: t = l) : rd l (pre.length : Int) = h := getD_at e _
theorem spec_l1 (procs : Int) (l : List S65) (out : List (List Int)) (W : Nat) (hW : W ≤ 1048576) (ho : ∀ y ∈ out, y.length = W) (i : Nat) (cs : List Int) (hc : ∀ k ∈ cs, 0 ≤ k ∧ k < (out.length : Int)) (hcl : cs.length ≤ 2) (f0 f1 f2 : Int) {u : List (List Int) × Bool} :
    ∀ (rest pre : List Int) (v : List Int), pre ++ rest = cs → v.length = W → Cm (fun k => spec_VectorClocks.l1 k procs l out (over out rest v) l (l.length : Int) (i : Int) cs (cs.length : Int) (cs.length : Int) f0 f1 f2) u →
      Cm (fun k => spec_VectorClocks.l1 k procs l out v l (l.length : Int) (i : Int) cs (cs.length : Int) (pre.length : Int) f0 f1 f2) u
  | [], pre, v, e, hv, hu => by
    rw [List.append_nil] at e
    subst e
    exact hu
  | h :: t, pre, v, e, hv, hu => by
    have hk := hc h (by rw [← e]; simp)
    have hlt := len_mid e
    have ih := spec_l1 procs l out W hW ho i cs hc hcl f0 f1 f2 (u := u) t (pre ++ [h]) (join v (rd_L1 out h)) (app_mid e) (by rw [join, joinTo_length]; exact hv) hu
    rw [len_one] at ih
    refine cm_step (fun k => by rw [spec_VectorClocks.l1]) ?_
    simp only [rd_at2 e, wrap_len hlt (show cs.length ≤ 4611686018427387904 by omega)]
    exact cm_yes (by omega) (cm_yes (by omega) (cm_yes (by omega) (cm_yes (by omega) (cm_yes (by omega) (cm_bind (specJoin_f v _ (by omega) (by rw [ho _ (rdL_mem hk), hv])) ih)))))
theorem impl_l2 (procs : Int) (l : List S65) (out : List (List Int)) (i : Nat) (cs : List Int) (q : Int) (v b : List Int) (hv : v.length ≤ 1048576) (hb : b.length = v.length) (f0 f1 f2 : Int) {u : List (List Int)} (hu : Cm (fun k => impl_vectors.l1 k procs l out (join v b) l (l.length : Int) (i : Int) cs (cs.length : Int) (wrap64 (q + 1)) f0 f1 f2) u) :
    Cm (fun k => impl_vectors.l2 k procs l out v l (l.length : Int) (i : Int) cs (cs.length : Int) q b (b.length : Int) 0 f0 f1 f2) u := by
  refine iter_cm (L := fun k j s => impl_vectors.l2 k procs l out s l (l.length : Int) (i : Int) cs (cs.length : Int) q b (b.length : Int) j f0 f1 f2) b.length (joinTo v b) ?_ ?_
  · intro j hj w hw
    have hl := joinTo_length v b j
    refine cm_step (fun k => by rw [impl_vectors.l2]) ?_
    simp only [wrap_n hj (show b.length ≤ 4611686018427387904 by omega), Int.toNat_natCast]
    exact cm_yes (by omega) (cm_yes (by omega) (cm_yes (by omega) (cm_yes (by omega) hw)))
  · refine cm_step (fun k => by rw [impl_vectors.l2]) ?_
    exact cm_no (by omega) hu
theorem impl_l1 (procs : Int) (l : List S65) (out : List (List Int)) (W : Nat) (hW : W ≤ 1048576) (ho : ∀ y ∈ out, y.length = W) (i : Nat) (cs : List Int) (hc : ∀ k ∈ cs, 0 ≤ k ∧ k < (out.length : Int)) (hcl : cs.length ≤ 2) (f0 f1 f2 : Int) {u : List (List Int)} :
    ∀ (rest pre : List Int) (v : List Int), pre ++ rest = cs → v.length = W → Cm (fun k => impl_vectors.l1 k procs l out (over out rest v) l (l.length : Int) (i : Int) cs (cs.length : Int) (cs.length : Int) f0 f1 f2) u →
      Cm (fun k => impl_vectors.l1 k procs l out v l (l.length : Int) (i : Int) cs (cs.length : Int) (pre.length : Int) f0 f1 f2) u
  | [], pre, v, e, hv, hu => by
    rw [List.append_nil] at e
    subst e
    exact hu
  | h :: t, pre, v, e, hv, hu => by
    have hk := hc h (by rw [← e]; simp)
    have hlt := len_mid e
    have ih := impl_l1 procs l out W hW ho i cs hc hcl f0 f1 f2 (u := u) t (pre ++ [h]) (join v (rd_L1 out h)) (app_mid e) (by rw [join, joinTo_length]; exact hv) hu
    rw [len_one] at ih
    refine cm_step (fun k => by rw [impl_vectors.l1]) ?_
    simp only [rd_at2 e]
    refine cm_yes (by omega) (cm_yes (by omega) (cm_yes (by omega) (cm_yes (by omega) (cm_yes (by omega) (impl_l2 procs l out i cs _ v _ (by omega) (by rw [ho _ (rdL_mem hk), hv]) f0 f1 f2 ?_)))))
    rw [wrap_len hlt (show cs.length ≤ 4611686018427387904 by omega)]
    exact ih
theorem proc_in {procs : Int} {l : List S65} (hg : okFrom (good1 procs) [] l = true) {i : Nat} (hi : i < l.length) : 0 ≤ (ev l i).f0 ∧ (ev l i).f0 ≤ procs - 1 := by
  have := (okFrom_iff _ l []).1 hg _ _ _ (split_at hi)
  unfold good1 at this
  simp only [Bool.and_eq_true, decide_eq_true_eq] at this
  first | exact this.1 | exact this.1.1 | exact this.1.1.1 | omega
theorem vectors {procs : Int} {l : List S65} (hg : good procs l = true) : Cm (fun k => spec_VectorClocks.l0 k procs l [] l (l.length : Int) 0) (vecs procs l l.length, true) ∧ Cm (fun k => impl_vectors.f k procs l) (vecs procs l l.length) := by
  obtain ⟨h1, h2, h3⟩ := good_iff.1 hg
  have hz : ((procs.toNat : Nat) : Int) = procs := by omega
  constructor
  · refine iter_cm (L := fun k i s => spec_VectorClocks.l0 k procs l s l (l.length : Int) i) l.length (vecs procs l) ?_ ?_
    · intro i hi u hu
      have hp := proc_in h1 hi
      have hlen := vecs_length procs l i
      refine cm_step (fun k => by rw [spec_VectorClocks.l0]) ?_
      refine cm_yes (by omega) (cm_yes (by omega) (cm_yes (by omega) (cm_yes (by omega) (cm_yes (by omega) (cm_bind (l7Causes_f l i hi (by omega)) ?_)))))
      refine spec_l1 procs l (vecs procs l i) procs.toNat (by omega) (vecs_wide procs l i) i (causesL l i) (fun k hk => by have := causes_lt h1 hi k hk; omega) (causes_len l i) _ _ _ (causesL l i) [] _ rfl (by rw [List.length_replicate]) ?_
      have hol := over_length (vecs procs l i) (causesL l i) (List.replicate procs.toNat 0)
      rw [List.length_replicate] at hol
      refine cm_step (fun k => by rw [spec_VectorClocks.l1]) ?_
      simp only [wrap_n hi (show l.length ≤ 4611686018427387904 by omega)]
      exact cm_no (by omega) (cm_yes hp.1 (cm_yes (by show (ev l i).f0 < _; omega) (cm_yes (by omega) hu)))
    · refine cm_step (fun k => by rw [spec_VectorClocks.l0]) ?_
      exact cm_no (by omega) (cm_now fun _ => rfl)
  · unfold impl_vectors.f
    refine iter_cm (L := fun k i s => impl_vectors.l0 k procs l s l (l.length : Int) i) l.length (vecs procs l) ?_ ?_
    · intro i hi u hu
      have hp := proc_in h1 hi
      have hlen := vecs_length procs l i
      refine cm_step (fun k => by rw [impl_vectors.l0]) ?_
      refine cm_yes (by omega) (cm_yes (by omega) (cm_yes (by omega) (cm_yes (by omega) (cm_yes (by omega) (cm_bind (causes_f h1 i hi (by omega)) ?_)))))
      refine impl_l1 procs l (vecs procs l i) procs.toNat (by omega) (vecs_wide procs l i) i (causesL l i) (fun k hk => by have := causes_lt h1 hi k hk; omega) (causes_len l i) _ _ _ (causesL l i) [] _ rfl (by rw [List.length_replicate]) ?_
      have hol := over_length (vecs procs l i) (causesL l i) (List.replicate procs.toNat 0)
      rw [List.length_replicate] at hol
      refine cm_step (fun k => by rw [impl_vectors.l1]) ?_
      simp only [wrap_n hi (show l.length ≤ 4611686018427387904 by omega)]
      exact cm_no (by omega) (cm_yes hp.1 (cm_yes (by show (ev l i).f0 < _; omega) (cm_yes (by omega) hu)))
    · refine cm_step (fun k => by rw [impl_vectors.l0]) ?_
      exact cm_no (by omega) (cm_now fun _ => rfl)
end Go.Proofs.Ytinbfclfglogmaa.Vec
end
section
namespace Go.Proofs.Ytinbfclfglogmaa.ClkB
open Go.RowKit Go.Proofs.Ytinbfclfglogmaa.P Go.Proofs.YtinbfclfglogmaaW.PrintWords Go.Proofs.YtinbfclfglogmaaW.PrintLast Go.Proofs.YtinbfclfglogmaaW.PrintMore
open Go.Proofs.Ytinbfclfglogmaa.Pl Go.Proofs.Ytinbfclfglogmaa.EvN Go.Proofs.Ytinbfclfglogmaa.Lp Go.Proofs.Ytinbfclfglogmaa.Mem Go.Proofs.Ytinbfclfglogmaa.Xm Go.Proofs.Ytinbfclfglogmaa.Hg Go.Proofs.Ytinbfclfglogmaa.Events Go.Proofs.Ytinbfclfglogmaa.Causes Go.Proofs.Ytinbfclfglogmaa.Put Go.Proofs.Ytinbfclfglogmaa.Pasts Go.Proofs.Ytinbfclfglogmaa.PastsF Go.Proofs.Ytinbfclfglogmaa.Draw Go.Proofs.Ytinbfclfglogmaa.PastD Go.Proofs.Ytinbfclfglogmaa.ClkA
set_option linter.unusedSimpArgs false
set_option linter.unusedVariables false
def sumN (f : Nat → Int) : Nat → Int
  | 0 => 0
  | n + 1 => sumN f n + f n
theorem sumN_congr {f g : Nat → Int} : ∀ n, (∀ i, i < n → f i = g i) → sumN f n = sumN g n
  | 0, _ => rfl
  | n + 1, h => by unfold sumN; rw [sumN_congr n (fun i hi => h i (by omega)), h n (by omega)]
theorem sumN_add (f g : Nat → Int) : ∀ n, sumN (fun i => f i + g i) n = sumN f n + sumN g n
  | 0 => rfl
  | n + 1 => by unfold sumN; rw [sumN_add f g n]; omega
theorem sumN_zero : ∀ n, sumN (fun _ => 0) n = 0
  | 0 => rfl
  | n + 1 => by unfold sumN; rw [sumN_zero n]; rfl
theorem sumN_swap (f : Nat → Nat → Int) (m : Nat) : ∀ n, sumN (fun a => sumN (fun b => f a b) m) n = sumN (fun b => sumN (fun a => f a b) n) m
  | 0 => by
    show (0 : Int) = _
    rw [show (fun b => sumN (fun a => f a b) 0) = fun _ => (0 : Int) from rfl, sumN_zero]
  | n + 1 => by
    show sumN _ n + _ = _
    rw [sumN_swap f m n, ← sumN_add]
    rfl
theorem sumN_tail (f : Nat → Int) (b : Nat) : ∀ d, (∀ i, b ≤ i → f i = 0) → sumN f (b + d) = sumN f b
  | 0, _ => rfl
  | d + 1, h => by
    show sumN f (b + d) + f (b + d) = _
    rw [sumN_tail f b d h, h _ (by omega)]
    omega
theorem cnt : ∀ (n : Nat) (p : List Int), Inc p → (∀ x ∈ p, 0 ≤ x ∧ x < (n : Int)) → sumN (fun a => if (a : Int) ∈ p then (0 : Int) else 1) n = (n : Int) - (p.length : Int) := by
  intro n
  induction n with
  | zero =>
    intro p _ hp
    cases p with
    | nil => rfl
    | cons x t => have := hp x (by simp); omega
  | succ n ih =>
    intro p hinc hp
    by_cases c : (n : Int) ∈ p
    · have hs : ∃ q, p = q ++ [(n : Int)] := by
        have hne : p ≠ [] := by intro z; rw [z] at c; cases c
        refine ⟨p.dropLast, ?_⟩
        have h1 := List.dropLast_concat_getLast hne
        have h2 : p.getLast hne = (n : Int) := by
          have h3 := hp _ (List.getLast_mem hne)
          rw [← h1] at c hinc
          rcases List.mem_append.1 c with h4 | h4
          · have := (List.pairwise_append.1 hinc).2.2 _ h4 (p.getLast hne) (by simp)
            omega
          · exact (List.mem_singleton.1 h4).symm
        rw [h2] at h1
        exact h1.symm
      obtain ⟨q, e⟩ := hs
      have hq : Inc q := by rw [e] at hinc; exact (List.pairwise_append.1 hinc).1
      have hlt : ∀ x ∈ q, x < (n : Int) := fun x hx => by rw [e] at hinc; exact (List.pairwise_append.1 hinc).2.2 x hx (n : Int) (by simp)
      have h1 := ih q hq (fun x hx => ⟨(hp x (by rw [e]; simp [hx])).1, hlt x hx⟩)
      unfold sumN
      rw [if_pos c, sumN_congr n (g := fun a => if (a : Int) ∈ q then (0 : Int) else 1) (fun i hi => by
        have : (i : Int) ∈ p ↔ (i : Int) ∈ q := by
          rw [e]
          simp
          omega
        simp only [this]), h1, e]
      simp
      omega
    · have h1 := ih p hinc (fun x hx => ⟨(hp x hx).1, by
        have := (hp x hx).2
        have : x ≠ (n : Int) := fun z => c (z ▸ hx)
        omega⟩)
      unfold sumN
      rw [if_neg c, h1]
      omega
def conc (l : List S65) : Nat → Int := sumN (fun b => (b : Int) - ((pastOf l b).length : Int))
def apart (l : List S65) (a b : Nat) : Int := if a < b ∧ (a : Int) ∉ pastOf l b then 1 else 0
theorem apart_sum {procs : Int} {l : List S65} (hg : okFrom (good1 procs) [] l = true) : sumN (fun a => sumN (fun b => apart l a b) l.length) l.length = conc l l.length := by
  rw [sumN_swap]
  refine sumN_congr _ (fun b hb => ?_)
  have h1 := sumN_tail (fun a => apart l a b) b (l.length - b) (fun i hi => by unfold apart; rw [if_neg (by omega)])
  rw [show b + (l.length - b) = l.length by omega] at h1
  rw [h1, ← cnt b (pastOf l b) (pastOf_inc l b) (past_lt hg hb)]
  refine sumN_congr _ (fun a ha => ?_)
  unfold apart
  by_cases c : (a : Int) ∈ pastOf l b
  · rw [if_neg (fun h => h.2 c), if_pos c]
  · rw [if_pos ⟨ha, c⟩, if_neg c]
def conV (n : Int) (l : List S65) : Int × Bool := if good n l = true then (conc l l.length, true) else (0, false)
def vecV (n : Int) (l : List S65) : List (List Int) × Bool := if good n l = true then (Pasts.vecs n l l.length, true) else ([], false)
def scaV (n : Int) (l : List S65) : List Int × Bool := if good n l = true then (scal l l.length, true) else ([], false)
theorem small_wf {n : Int} {l : List S65} (h : Small n l) : Wf l ∧ (-9223372036854775808 ≤ n ∧ n ≤ 9223372036854775807) ∧ l.length ≤ 4611686018427387904 := by
  refine ⟨fun x hx => ?_, by have := h.1; omega, by have := h.2.1; omega⟩
  have := h.2.2 x hx
  exact ⟨wf_small (by have := this.1; omega), wf_small (by have := this.2.2; omega)⟩
theorem conV_f {n : Int} {l : List S65} (h : Small n l) : Cm (fun k => spec_Concurrent.f k n l) (conV n l) ∧ Cm (fun k => impl_Concurrent.f k n l) (conV n l) := by
  obtain ⟨l1, e, h1⟩ := lift h
  have hn : (Lit.int .i64 n).wf = true := wf_small (by have := h.1; omega)
  obtain ⟨v, hs, hi, _⟩ := concurrent_both n l1 hn h1
  rw [e] at hs hi
  suffices hv : v = conV n l by rw [← hv]; exact ⟨hs, hi⟩
  refine cm_one hs ?_
  obtain ⟨w1, w2, w3⟩ := small_wf h
  have hg0 := spec_good_f n l w2 w3
  unfold spec_Concurrent.f conV
  by_cases hg : good n l = true
  · obtain ⟨hg1, _, hl⟩ := good_iff.1 hg
    rw [if_pos hg]
    have tb : ∀ m, m ≤ l.length → 0 ≤ conc l m ∧ conc l m ≤ 24 * (m : Int) := by
      intro m
      induction m with
      | zero => intro _; simp [conc, sumN]
      | succ m ih =>
        intro hm
        have h2 := ih (by omega)
        have h3 := past_len hg1 (i := m) (by omega)
        have h4 : conc l (m + 1) = conc l m + ((m : Int) - ((pastOf l m).length : Int)) := rfl
        rw [h4]
        omega
    refine cm_bind hg0 (cm_yes hg (cm_bind (pasts_f hg) ?_))
    refine Pick.iter_cm (L := fun k i s => spec_Concurrent.l0 k (pasts l l.length) s (l.length : Int) i) l.length (conc l) ?_ ?_
    · intro i hi u hu
      have h3 := tb i (by omega)
      have h4 := past_len hg1 (i := i) (by omega)
      have h5 : conc l (i + 1) = conc l i + ((i : Int) - ((pastOf l i).length : Int)) := rfl
      rw [h5] at hu
      refine cm_step (fun k => by rw [spec_Concurrent.l0]) ?_
      rw [pasts_length, rd_pasts l (show i < l.length by omega), wrap_in (x := (i : Int) - ((pastOf l i).length : Int)) (by omega) (by omega), wrap_in (x := conc l i + ((i : Int) - ((pastOf l i).length : Int))) (by omega) (by omega), wrap_len (show i < l.length by omega) (by omega)]
      exact cm_yes (by omega) (cm_yes (by omega) (cm_yes (by omega) hu))
    · refine cm_step (fun k => by rw [spec_Concurrent.l0]) ?_
      exact cm_no (by omega) (cm_now fun _ => rfl)
  · rw [if_neg hg]
    exact cm_bind hg0 (cm_no hg (cm_now fun _ => rfl))
theorem scaV_f {n : Int} {l : List S65} (h : Small n l) : Cm (fun k => spec_ScalarClocks.f k n l) (scaV n l) ∧ Cm (fun k => impl_ScalarClocks.f k n l) (scaV n l) := by
  obtain ⟨w1, w2, w3⟩ := small_wf h
  have hg0 := spec_good_f n l w2 w3
  have hg2 := areEvents_f n l w1
  unfold spec_ScalarClocks.f impl_ScalarClocks.f scaV
  by_cases hg : good n l = true
  · rw [if_pos hg]
    obtain ⟨h2, h3⟩ := scalars hg
    exact ⟨cm_bind hg0 (cm_yes hg h2), cm_bind (cm_now fun _ => hg2) (cm_yes hg h3)⟩
  · rw [if_neg hg]
    exact ⟨cm_bind hg0 (cm_no hg (cm_now fun _ => rfl)), cm_bind (cm_now fun _ => hg2) (cm_no hg (cm_now fun _ => rfl))⟩
theorem vecV_f {n : Int} {l : List S65} (h : Small n l) : Cm (fun k => spec_VectorClocks.f k n l) (vecV n l) ∧ Cm (fun k => impl_VectorClocks.f k n l) (vecV n l) := by
  obtain ⟨w1, w2, w3⟩ := small_wf h
  have hg0 := spec_good_f n l w2 w3
  have hg2 := areEvents_f n l w1
  unfold spec_VectorClocks.f impl_VectorClocks.f vecV
  by_cases hg : good n l = true
  · rw [if_pos hg]
    obtain ⟨h2, h3⟩ := Vec.vectors hg
    have e := cm_one h3 (vectors_f hg)
    rw [e] at h2 h3
    exact ⟨cm_bind hg0 (cm_yes hg h2), cm_bind (cm_now fun _ => hg2) (cm_yes hg (cm_bind h3 (cm_now fun _ => rfl)))⟩
  · rw [if_neg hg]
    exact ⟨cm_bind hg0 (cm_no hg (cm_now fun _ => rfl)), cm_bind (cm_now fun _ => hg2) (cm_no hg (cm_now fun _ => rfl))⟩
theorem compare_cm (a b : List Int) (ha : a.length ≤ 1048576) (hb : b.length ≤ 1048576) : Cm (fun k => impl_CompareClocks.f k a b) (Clocks.compareClocks a b) ∧ Cm (fun k => spec_CompareClocks.f k a b) (Clocks.compareClocks a b) :=
  ⟨cm_of_some (fun k hk => Clocks.impl_compareClocks_f a b ha hb k hk), cm_of_some (fun k hk => Clocks.spec_compareClocks_f a b ha hb k hk)⟩
theorem join_cm (a b : List Int) (ha : a.length ≤ 1048576) (hb : b.length ≤ 1048576) : Cm (fun k => impl_JoinClocks.f k a b) (Clocks.joinClocks a b) ∧ Cm (fun k => spec_JoinClocks.f k a b) (Clocks.joinClocks a b) :=
  ⟨cm_of_some (fun k hk => Clocks.impl_joinClocks_f a b ha hb k hk), cm_of_some (fun k hk => Clocks.spec_joinClocks_f a b ha hb k hk)⟩
theorem no_more : ∀ (a b : List Int), a.length = b.length → Clocks.moreB a (Clocks.joinL a b) = false ∧ Clocks.moreB b (Clocks.joinL a b) = false
  | [], [], _ => ⟨rfl, rfl⟩
  | x :: t, y :: s, h => by
    obtain ⟨h1, h2⟩ := no_more t s (by simpa using h)
    have h3 : x ≤ mx x y ∧ y ≤ mx x y := by unfold mx; split <;> omega
    simp only [Clocks.moreB, Clocks.joinL, h1, h2, Bool.or_false, decide_eq_false_iff_not]
    omega
theorem join_in : ∀ (a b : List Int), (∀ x ∈ a, 0 ≤ x ∧ x ≤ 1000) → (∀ x ∈ b, 0 ≤ x ∧ x ≤ 1000) → ∀ x ∈ Clocks.joinL a b, 0 ≤ x ∧ x ≤ 1000
  | [], b, _, _ => by simp [Clocks.joinL]
  | x :: t, [], _, _ => by simp [Clocks.joinL]
  | x :: t, y :: s, ha, hb => by
    intro z hz
    simp only [Clocks.joinL, List.mem_cons] at hz
    rcases hz with rfl | hz
    · have h1 := ha x (by simp)
      have h2 := hb y (by simp)
      unfold mx
      split <;> omega
    · exact join_in t s (fun w hw => ha w (by simp [hw])) (fun w hw => hb w (by simp [hw])) z hz
theorem joined {a b : List Int} (h : Clocks.clocks a b = true) : Clocks.clocks a (Clocks.joinL a b) = true ∧ Clocks.clocks b (Clocks.joinL a b) = true := by
  obtain ⟨h1, h2, h3⟩ := Clocks.clocks_iff.1 h
  have hl := Clocks.joinL_length a b h3
  have l1 := Clocks.clock_len h1
  have hj : Clocks.clock (Clocks.joinL a b) = true := by
    simp only [Clocks.clock, Bool.and_eq_true, List.all_eq_true, decide_eq_true_eq, Clocks.inK]
    exact ⟨fun x hx => join_in a b (Clocks.clock_all h1) (Clocks.clock_all h2) x hx, by omega⟩
  exact ⟨Clocks.clocks_iff.2 ⟨h1, hj, hl.symm⟩, Clocks.clocks_iff.2 ⟨h2, hj, by omega⟩⟩
theorem verdict_less (b : Bool) : Clocks.verdict b false = -1 ∨ Clocks.verdict b false = 0 := by
  cases b
  · right; rfl
  · left; rfl
theorem clock_go {s : List Int} (hs : Bytes s) : ∀ (d : Nat) (acc : List Int) (p st : Int), acc.length + d ≤ 20 → 0 ≤ p → p + 2 * (d : Int) ≤ 4611686018427380000 →
    ∃ R q u, Cm (fun k => spec_l1Cur_clock.l0 k (d : Int) acc s p st) (R, q, u) ∧ R.length ≤ 20 ∧ (p ≤ q ∧ q ≤ p + 2 * (d : Int) + 4)
  | 0, acc, p, st, ha, h0, h1 => by
    by_cases c : (acc.length : Int) > 0
    · obtain ⟨b, q, u, e, hq⟩ := one_f hs p st h0 (by omega) 30
      cases b with
      | true =>
        obtain ⟨b2, q2, u2, e2, _, hq2⟩ := among_f hs q u (by omega) (by omega) [(-1), 1000, 1001] (by simp)
        refine ⟨acc.set (0 : Int).toNat b2, q2, u2, ?_, by simp; omega, by omega⟩
        refine cm_step (fun k => by rw [spec_l1Cur_clock.l0]) ?_
        refine cm_no (by omega) ?_
        refine cm_yes c ?_
        refine cm_bind (cm_now fun _ => e) ?_
        refine cm_yes rfl ?_
        refine cm_bind (cm_now fun _ => e2) ?_
        refine cm_yes (by omega) ?_
        exact cm_now fun _ => rfl
      | false =>
        refine ⟨acc, q, u, ?_, by omega, by omega⟩
        refine cm_step (fun k => by rw [spec_l1Cur_clock.l0]) ?_
        refine cm_no (by omega) ?_
        refine cm_yes c ?_
        refine cm_bind (cm_now fun _ => e) ?_
        refine cm_no (fun h => Bool.false_ne_true h) ?_
        exact cm_now fun _ => rfl
    · refine ⟨acc, p, st, ?_, by omega, by omega⟩
      refine cm_step (fun k => by rw [spec_l1Cur_clock.l0]) ?_
      refine cm_no (by omega) ?_
      refine cm_no c ?_
      exact cm_now fun _ => rfl
  | d + 1, acc, p, st, ha, h0, h1 => by
    obtain ⟨b, q, u, e, hb, hq⟩ := pick_f hs p st h0 (by omega) 4
    obtain ⟨R, q2, u2, a, b2, c⟩ := clock_go hs d (acc ++ [b]) q u (by rw [List.length_append]; simp only [List.length_cons, List.length_nil]; omega) (by omega) (by omega)
    refine ⟨R, q2, u2, ?_, b2, by omega⟩
    refine cm_step (fun k => by rw [spec_l1Cur_clock.l0]) ?_
    simp only [show wrap64 (((d + 1 : Nat) : Int) - 1) = (d : Int) from by rw [wrap_in (by omega) (by omega)]; omega]
    refine cm_yes (by omega) ?_
    refine cm_bind (cm_now fun _ => e) ?_
    refine cm_yes (by omega) ?_
    exact a
theorem clock_draw {s : List Int} (hs : Bytes s) (n : Int) (hn : 0 ≤ n ∧ n ≤ 20) (p st : Int) (h0 : 0 ≤ p) (h1 : p ≤ 1000) : ∃ R q u, Cm (fun k => spec_l1Cur_clock.f k s p st n) (R, q, u) ∧ R.length ≤ 20 ∧ (p ≤ q ∧ q ≤ p + 44) := by
  obtain ⟨m, rfl⟩ := Int.eq_ofNat_of_zero_le hn.1
  obtain ⟨R, q, u, a, b, c⟩ := clock_go hs m [] p st (by simp; omega) h0 (by omega)
  exact ⟨R, q, u, a, b, by omega⟩
theorem draw_join {s : List Int} (hs : Bytes s) : ∃ x y, Cm (fun k => spec_DrawJoinClocks.f k s) (x, y) ∧ x.length ≤ 20 ∧ y.length ≤ 20 := by
  obtain ⟨b1, q1, u1, e1, v1, w1⟩ := pick_f hs 0 0 (by omega) (by omega) 5
  have hw : wrap64 (1 + b1) = 1 + b1 := wrap_in (by omega) (by omega)
  obtain ⟨x, q2, u2, a2, l2, w2⟩ := clock_draw hs (1 + b1) (by omega) q1 u1 (by omega) (by omega)
  obtain ⟨f, q3, u3, e3, w3⟩ := one_f hs q2 u2 (by omega) (by omega) 12
  cases f with
  | true =>
    obtain ⟨b4, q4, u4, e4, v4, w4⟩ := pick_f hs q3 u3 (by omega) (by omega) 7
    obtain ⟨y, q5, u5, a5, l5, w5⟩ := clock_draw hs b4 (by omega) q4 u4 (by omega) (by omega)
    refine ⟨x, y, ?_, l2, l5⟩
    unfold spec_DrawJoinClocks.f
    refine cm_bind (cm_now fun _ => e1) ?_
    simp only [hw]
    refine cm_bind a2 ?_
    refine cm_bind (cm_now fun _ => e3) ?_
    refine cm_yes rfl ?_
    refine cm_bind (cm_now fun _ => e4) ?_
    refine cm_bind a5 ?_
    exact cm_now fun _ => rfl
  | false =>
    obtain ⟨y, q5, u5, a5, l5, w5⟩ := clock_draw hs (1 + b1) (by omega) q3 u3 (by omega) (by omega)
    refine ⟨x, y, ?_, l2, l5⟩
    unfold spec_DrawJoinClocks.f
    refine cm_bind (cm_now fun _ => e1) ?_
    simp only [hw]
    refine cm_bind a2 ?_
    refine cm_bind (cm_now fun _ => e3) ?_
    refine cm_no (fun h => Bool.false_ne_true h) ?_
    refine cm_bind a5 ?_
    exact cm_now fun _ => rfl
end Go.Proofs.Ytinbfclfglogmaa.ClkB
end
section
namespace Go.Proofs.Ytinbfclfglogmaa.Pure
open Go.RowKit Go.Proofs.Ytinbfclfglogmaa.P Go.Proofs.YtinbfclfglogmaaW.PrintWords Go.Proofs.YtinbfclfglogmaaW.PrintLast Go.Proofs.YtinbfclfglogmaaW.PrintMore
open Go.Proofs.Ytinbfclfglogmaa.Pl Go.Proofs.Ytinbfclfglogmaa.EvN Go.Proofs.Ytinbfclfglogmaa.Lp Go.Proofs.Ytinbfclfglogmaa.Mem Go.Proofs.Ytinbfclfglogmaa.Xm Go.Proofs.Ytinbfclfglogmaa.Hg Go.Proofs.Ytinbfclfglogmaa.Events Go.Proofs.Ytinbfclfglogmaa.Causes Go.Proofs.Ytinbfclfglogmaa.Put Go.Proofs.Ytinbfclfglogmaa.Pasts Go.Proofs.Ytinbfclfglogmaa.PastsF Go.Proofs.Ytinbfclfglogmaa.Draw Go.Proofs.Ytinbfclfglogmaa.PastD Go.Proofs.Ytinbfclfglogmaa.ClkA Go.Proofs.Ytinbfclfglogmaa.ClkB
set_option linter.unusedVariables false
set_option linter.unusedSimpArgs false
theorem sameInts_self (l : List Int) (hl : l.length ≤ 4611686018427387904) : Cm (fun k => laws_sameInts.f k l l) true := by
  unfold laws_sameInts.f
  refine cm_yes rfl ?_
  refine same_cm (L := fun k i => laws_sameInts.l0 k l l (l.length : Int) i) l ?_ ?_
  · intro pre h t e hlt v hv
    refine cm_step (fun k => by rw [laws_sameInts.l0]) ?_
    simp only [wrap_len hlt hl]
    exact cm_yes (by omega) (cm_yes (by omega) (cm_yes (by omega) (cm_yes (by omega) (cm_yes (by trivial) hv))))
  · refine cm_step (fun k => by rw [laws_sameInts.l0]) ?_
    exact cm_no (by omega) (cm_now fun _ => rfl)
theorem sameLists_self (l : List (List Int)) (hl : l.length ≤ 4611686018427387904) (hs : ∀ g ∈ l, g.length ≤ 4611686018427387904) : Cm (fun k => laws_sameLists.f k l l) true := by
  unfold laws_sameLists.f
  refine cm_yes rfl ?_
  refine same_cm (L := fun k i => laws_sameLists.l0 k l l (l.length : Int) i) l ?_ ?_
  · intro pre h t e hlt v hv
    have hg := hs h (by rw [← e]; simp)
    refine cm_step (fun k => by rw [laws_sameLists.l0]) ?_
    simp only [wrap_len hlt hl, l1_at e]
    exact cm_yes (by omega) (cm_yes (by omega) (cm_yes (by omega) (cm_yes (by omega) (cm_bind (sameInts_self h hg) (cm_yes rfl hv)))))
  · refine cm_step (fun k => by rw [laws_sameLists.l0]) ?_
    exact cm_no (by omega) (cm_now fun _ => rfl)
theorem rest_f {s : List Int} (hs : Bytes s) : Cm (fun k => laws_FnClocks.j4 k s) true := by
  obtain ⟨x, y, d, hx, hy⟩ := draw_join hs
  obtain ⟨a1, a2⟩ := join_cm x y (by omega) (by omega)
  obtain ⟨b1, b2⟩ := compare_cm x y (by omega) (by omega)
  have hjl := Clocks.joinClocks_length x y
  refine cm_step (fun k => by rw [laws_FnClocks.j4]) ?_
  refine cm_bind d ?_
  refine cm_bind a1 ?_
  refine cm_bind a2 ?_
  refine cm_bind b1 ?_
  refine cm_bind b2 ?_
  refine cm_no (by simp) ?_
  refine cm_bind (sameInts_self _ (by omega)) ?_
  refine cm_yes rfl ?_
  refine cm_no (by simp) ?_
  simp only [bne_self_eq_false]
  refine cm_step (fun k => by rw [laws_FnClocks.j5]) ?_
  refine cm_no (fun h => Bool.false_ne_true h) ?_
  by_cases c : Clocks.clocks x y = true
  · have e1 : Clocks.joinClocks x y = (Clocks.joinL x y, true) := by unfold Clocks.joinClocks; rw [if_pos c]
    rw [e1] at hjl ⊢
    obtain ⟨_, _, hxy⟩ := Clocks.clocks_iff.1 c
    have hl := Clocks.joinL_length x y hxy
    obtain ⟨j1, j2⟩ := joined c
    obtain ⟨m1, m2⟩ := no_more x y hxy
    have c1 := (compare_cm x (Clocks.joinL x y) (by omega) (by omega)).1
    have c2 := (compare_cm y (Clocks.joinL x y) (by omega) (by omega)).1
    have e2 : Clocks.compareClocks x (Clocks.joinL x y) = (Clocks.verdict (Clocks.lessB x (Clocks.joinL x y)) false, true) := by unfold Clocks.compareClocks; rw [if_pos j1, m1]
    have e3 : Clocks.compareClocks y (Clocks.joinL x y) = (Clocks.verdict (Clocks.lessB y (Clocks.joinL x y)) false, true) := by unfold Clocks.compareClocks; rw [if_pos j2, m2]
    rw [e2] at c1
    rw [e3] at c2
    refine cm_yes rfl ?_
    refine cm_bind c1 ?_
    refine cm_bind c2 ?_
    refine cm_yes rfl ?_
    refine cm_yes rfl ?_
    rcases verdict_less (Clocks.lessB x (Clocks.joinL x y)) with h1 | h1
    · rw [h1]
      refine cm_yes rfl ?_
      rcases verdict_less (Clocks.lessB y (Clocks.joinL x y)) with h2 | h2
      · rw [h2]
        exact cm_yes rfl (cm_now fun _ => rfl)
      · rw [h2]
        exact cm_no (show ¬ (0 : Int) = -1 by omega) (cm_now fun _ => rfl)
    · rw [h1]
      refine cm_no (show ¬ (0 : Int) = -1 by omega) ?_
      refine cm_yes rfl ?_
      rcases verdict_less (Clocks.lessB y (Clocks.joinL x y)) with h2 | h2
      · rw [h2]
        exact cm_yes rfl (cm_now fun _ => rfl)
      · rw [h2]
        exact cm_no (show ¬ (0 : Int) = -1 by omega) (cm_now fun _ => rfl)
  · have e1 : Clocks.joinClocks x y = ([], false) := by unfold Clocks.joinClocks; rw [if_neg c]
    rw [e1]
    exact cm_no (fun h => Bool.false_ne_true h) (cm_now fun _ => rfl)
theorem apart_bnd (l : List S65) (a b : Nat) : 0 ≤ apart l a b ∧ apart l a b ≤ 1 := by
  unfold apart
  split <;> omega
theorem row_bnd (l : List S65) (a : Nat) : ∀ m, 0 ≤ sumN (fun b => apart l a b) m ∧ sumN (fun b => apart l a b) m ≤ (m : Int)
  | 0 => by simp [sumN]
  | m + 1 => by
    have := row_bnd l a m
    have := apart_bnd l a m
    unfold sumN
    omega
theorem all_bnd (l : List S65) (m : Nat) : ∀ n, 0 ≤ sumN (fun a => sumN (fun b => apart l a b) m) n ∧ sumN (fun a => sumN (fun b => apart l a b) m) n ≤ (m : Int) * (n : Int)
  | 0 => by simp [sumN]
  | n + 1 => by
    have := all_bnd l m n
    have := row_bnd l n m
    unfold sumN
    rw [show ((n + 1 : Nat) : Int) = (n : Int) + 1 by omega, Int.mul_add, Int.mul_one]
    omega
theorem inner_f {s : List Int} {n : Int} {l : List S65} (h : Small n l) (hg : good n l = true) (c : Int) (a : Nat) (ha : a < l.length) (t : Int) (ht : 0 ≤ t ∧ t ≤ 1000000) (v : Bool)
    (hv : Cm (fun k => laws_FnClocks.l0 k s n l (Pasts.vecs n l l.length) (scal l l.length) c (t + sumN (fun b => apart l a b) l.length) (l.length : Int) ((a + 1 : Nat) : Int)) v) :
    Cm (fun k => laws_FnClocks.l1 k s n l (Pasts.vecs n l l.length) (scal l l.length) c t (a : Int) (l.length : Int) (a : Int) (l.length : Int) 0) v := by
  obtain ⟨hg1, hp, hl⟩ := good_iff.1 hg
  have hvl := Pasts.vecs_length n l l.length
  have hsl := scal_length l l.length
  have key := Pick.iter_cm (L := fun k i x => laws_FnClocks.l1 k s n l (Pasts.vecs n l l.length) (scal l l.length) c x (a : Int) (l.length : Int) (a : Int) (l.length : Int) i) l.length (fun b => t + sumN (fun b => apart l a b) b) (v := v) ?_ ?_
  · have e0 : t + sumN (fun b => apart l a b) 0 = t := Int.add_zero t
    simp only [e0] at key
    exact key
  · intro b hb u hu
    have hrow := row_bnd l a b
    have e1 : t + sumN (fun b => apart l a b) (b + 1) = t + sumN (fun b => apart l a b) b + apart l a b := by
      exact (Int.add_assoc t (sumN (fun b => apart l a b) b) (apart l a b)).symm
    simp only [e1] at hu
    have hxb : 0 ≤ t + sumN (fun b => apart l a b) b ∧ t + sumN (fun b => apart l a b) b ≤ 2000000 := by omega
    generalize t + sumN (fun b => apart l a b) b = x at hu hxb ⊢
    have hx1 : wrap64 (x + 1) = x + 1 := wrap_in (by omega) (by omega)
    have hK : ∀ K : Int, (apart l a b = if a < b then (if K = 2 then 1 else 0) else 0) → Cm (fun k => laws_FnClocks.j3 k s n l (Pasts.vecs n l l.length) (scal l l.length) c x (a : Int) (b : Int) K (l.length : Int) (a : Int) (l.length : Int) (b : Int) false) u := by
      intro K hk
      rw [hk] at hu
      refine cm_step (fun k => by rw [laws_FnClocks.j3]) ?_
      simp only [Pick.wrap_n hb (show l.length ≤ 4611686018427387904 by omega), hx1]
      refine cm_no (fun h => Bool.false_ne_true h) ?_
      by_cases c1 : a < b
      · rw [if_pos c1] at hu
        refine cm_yes (by omega) ?_
        by_cases c2 : K = 2
        · rw [if_pos c2] at hu
          exact cm_yes c2 hu
        · rw [if_neg c2, Int.add_zero] at hu
          exact cm_no c2 hu
      · rw [if_neg c1, Int.add_zero] at hu
        exact cm_no (by omega) hu
    have h1 := (hap_f h (a : Int) (b : Int) (by have := h.2.1; omega) (by have := h.2.1; omega)).2
    have e2 : hapV n l (a : Int) (b : Int) = (inPast l a b, true) := by
      unfold hapV
      rw [if_pos ⟨hg, by omega, by omega⟩]
      simp
    rw [e2] at h1
    have la := (vec_length hg1 ha).2
    have lb := (vec_length hg1 hb).2
    have h2 := (compare_cm (vecOf n l a) (vecOf n l b) (by omega) (by omega)).1
    have e3 : Clocks.compareClocks (vecOf n l a) (vecOf n l b) = (if a = b then 0 else if (a : Int) ∈ pastOf l b then -1 else if (b : Int) ∈ pastOf l a then 1 else 2, true) := by
      unfold Clocks.compareClocks
      rw [if_pos (vclocks hg ha hb), cmp_vec hg1 ha hb]
    rw [e3] at h2
    refine cm_step (fun k => by rw [laws_FnClocks.l1]) ?_
    rw [rd_vecs n l ha, rd_vecs n l hb]
    refine cm_yes (by omega) ?_
    refine cm_bind h1 ?_
    refine cm_yes (by omega) ?_
    refine cm_yes (by omega) ?_
    refine cm_yes (by omega) ?_
    refine cm_yes (by omega) ?_
    refine cm_bind h2 ?_
    refine cm_yes rfl ?_
    refine cm_yes rfl ?_
    by_cases e : a = b
    · have hn : (a : Int) ∉ pastOf l b := fun h => by
        have := past_lt hg1 hb _ h
        omega
      have hi : inPast l a b = false := decide_eq_false hn
      rw [hi, if_pos e]
      refine cm_no (by decide) ?_
      refine cm_no (fun h => Bool.false_ne_true h) ?_
      rw [show (((0 : Int) == 0) != ((a : Int) == (b : Int))) = false by simp [e]]
      exact hK 0 (by unfold apart; rw [if_neg (by omega), if_neg (by omega)])
    · have hab : ((a : Int) == (b : Int)) = false := by rw [beq_eq_false_iff_ne]; omega
      rw [hab, if_neg e]
      by_cases h3 : (a : Int) ∈ pastOf l b
      · have hlt := past_lt hg1 hb _ h3
        have hi : inPast l a b = true := decide_eq_true h3
        rw [hi, if_pos h3]
        refine cm_no (by decide) ?_
        refine cm_yes rfl ?_
        refine cm_yes (by omega) ?_
        refine cm_yes (by omega) ?_
        refine cm_no (by have := scal_lt hg1 hb h3; omega) ?_
        rw [show (((-1 : Int) == 0) != false) = false by decide]
        exact hK (-1) (by unfold apart; rw [if_neg (fun h => h.2 h3)]; simp)
      · have hi : inPast l a b = false := decide_eq_false h3
        rw [hi, if_neg h3]
        by_cases h4 : (b : Int) ∈ pastOf l a
        · have hlt := past_lt hg1 ha _ h4
          rw [if_pos h4]
          refine cm_no (by decide) ?_
          refine cm_no (fun h => Bool.false_ne_true h) ?_
          rw [show (((1 : Int) == 0) != false) = false by decide]
          exact hK 1 (by unfold apart; rw [if_neg (by omega), if_neg (by omega)])
        · rw [if_neg h4]
          refine cm_no (by decide) ?_
          refine cm_no (fun h => Bool.false_ne_true h) ?_
          rw [show (((2 : Int) == 0) != false) = false by decide]
          refine hK 2 ?_
          unfold apart
          by_cases c1 : a < b
          · rw [if_pos ⟨c1, h3⟩, if_pos c1]
            simp
          · rw [if_neg (fun h => c1 h.1), if_neg c1]
  · refine cm_step (fun k => by rw [laws_FnClocks.l1]) ?_
    simp only [Pick.wrap_n ha (show l.length ≤ 4611686018427387904 by omega)]
    exact cm_no (by omega) hv
theorem FnClocks : laws_FnClocks.Pure := by
  intro l0 l1 a0 a1 a2 b0 b1 b2
  refine cm_ex (v := true) ?_
  unfold laws_FnClocks.f
  refine cm_if (fun _ => cm_now fun _ => rfl) (fun _ => ?_)
  have hs0 : Bytes l0 := ⟨by omega, fun x hx => wf_u8 (a2 x hx)⟩
  have hs1 : Bytes l1 := ⟨by omega, fun x hx => wf_u8 (b2 x hx)⟩
  obtain ⟨n, l, q, u, d, hsm, hq, hlen⟩ := events_draw hs0
  have hd : Cm (fun k => spec_DrawVectorClocks.f k l0) (n, l) := by
    unfold spec_DrawVectorClocks.f spec_DrawGoodEvents.f
    refine cm_bind (t := (n, l)) (cm_bind d (v := (n, l)) ?_) ?_
    · exact cm_now fun _ => rfl
    · exact cm_now fun _ => rfl
  have hrest := rest_f hs1
  obtain ⟨v1, v2⟩ := vecV_f hsm
  obtain ⟨s1, s2⟩ := scaV_f hsm
  obtain ⟨c1, c2⟩ := conV_f hsm
  obtain ⟨w1, w2, w3⟩ := small_wf hsm
  have hge := implGood_f n l w1
  refine cm_bind hd ?_
  refine cm_bind v2 ?_
  refine cm_bind v1 ?_
  refine cm_bind s2 ?_
  refine cm_bind s1 ?_
  refine cm_bind c2 ?_
  refine cm_bind c1 ?_
  refine cm_no (by simp) ?_
  by_cases hg : good n l = true
  · obtain ⟨hg1, hp, hl⟩ := good_iff.1 hg
    have e1 : vecV n l = (Pasts.vecs n l l.length, true) := by unfold vecV; rw [if_pos hg]
    have e2 : scaV n l = (scal l l.length, true) := by unfold scaV; rw [if_pos hg]
    have e3 : conV n l = (conc l l.length, true) := by unfold conV; rw [if_pos hg]
    rw [e1, e2, e3]
    have hvl := Pasts.vecs_length n l l.length
    have hsl := scal_length l l.length
    refine cm_bind (sameLists_self (Pasts.vecs n l l.length) (by omega) (fun g hgm => ?_)) ?_
    · obtain ⟨i, hi, rfl⟩ := List.getElem_of_mem hgm
      have h1 : rd_L1 (Pasts.vecs n l l.length) (i : Int) = (Pasts.vecs n l l.length)[i] := by simp [rd_L1, List.getD, hi]
      rw [← h1, rd_vecs n l (by omega), (vec_length hg1 (by omega)).2]
      omega
    refine cm_yes rfl ?_
    refine cm_no (by simp) ?_
    refine cm_bind (sameInts_self (scal l l.length) (by omega)) ?_
    refine cm_yes rfl ?_
    refine cm_no (by simp) ?_
    refine cm_yes rfl ?_
    refine cm_bind (cm_now fun _ => hge) ?_
    rw [show (good n l != true) = false by rw [hg]; rfl]
    refine cm_step (fun k => by rw [laws_FnClocks.j0]) ?_
    refine cm_no (fun h => Bool.false_ne_true h) ?_
    refine cm_yes rfl ?_
    refine Pick.iter_cm (L := fun k i x => laws_FnClocks.l0 k l1 n l (Pasts.vecs n l l.length) (scal l l.length) (conc l l.length) x (l.length : Int) i) l.length (fun a => sumN (fun a => sumN (fun b => apart l a b) l.length) a) ?_ ?_
    · intro a ha w hw
      have hb := all_bnd l l.length a
      have hb2 : (l.length : Int) * (a : Int) ≤ 24 * 24 := by
        have := Int.mul_le_mul (show (l.length : Int) ≤ 24 by omega) (show (a : Int) ≤ 24 by omega) (by omega) (by omega)
        exact this
      refine cm_step (fun k => by rw [laws_FnClocks.l0]) ?_
      refine cm_yes (by omega) ?_
      exact inner_f hsm hg _ a ha _ (by omega) w hw
    · refine cm_step (fun k => by rw [laws_FnClocks.l0]) ?_
      refine cm_no (by omega) ?_
      refine cm_yes (apart_sum hg1) ?_
      exact hrest
  · have e1 : vecV n l = ([], false) := by unfold vecV; rw [if_neg hg]
    have e2 : scaV n l = ([], false) := by unfold scaV; rw [if_neg hg]
    have e3 : conV n l = (0, false) := by unfold conV; rw [if_neg hg]
    rw [e1, e2, e3]
    refine cm_bind (sameLists_self [] (by simp) (by simp)) ?_
    refine cm_yes rfl ?_
    refine cm_no (by simp) ?_
    refine cm_bind (sameInts_self [] (by simp)) ?_
    refine cm_yes rfl ?_
    refine cm_no (by simp) ?_
    refine cm_yes rfl ?_
    refine cm_bind (cm_now fun _ => hge) ?_
    have hg2 : good n l = false := by simpa using hg
    rw [show (good n l != false) = false by rw [hg2]; rfl]
    refine cm_step (fun k => by rw [laws_FnClocks.j0]) ?_
    refine cm_no (fun h => Bool.false_ne_true h) ?_
    exact cm_no (fun h => Bool.false_ne_true h) hrest
end Go.Proofs.Ytinbfclfglogmaa.Pure
end
