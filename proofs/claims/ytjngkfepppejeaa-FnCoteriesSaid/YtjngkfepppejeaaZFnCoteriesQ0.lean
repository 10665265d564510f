-- Written by programs of this session (wip/prune.py, wip/xp.py), out of the translation and the printed words; what the law does not reach is left out. Not trusted: Lean checks it.
import Derived.Test.YtjngkfepppejeaaZFnCoteriesW0
import Derived.Laws.BitsAllLaws
import Derived.Test.YtjngkfepppejeaaZFnCoteriesPx1
import Derived.Test.YtjngkfepppejeaaZFnCoteriesPx2
import Derived.Test.YtjngkfepppejeaaZFnCoteriesPx3
import Derived.Test.YtjngkfepppejeaaZFnCoteriesPx6
import Derived.Test.YtjngkfepppejeaaZFnCoteriesPx4
import Derived.Test.YtjngkfepppejeaaZFnCoteriesPx13
import Derived.Test.YtjngkfepppejeaaZFnCoteriesPx5
import Derived.Test.YtjngkfepppejeaaZFnCoteriesPx9
import Derived.Test.YtjngkfepppejeaaZFnCoteriesPx10
import Derived.Test.YtjngkfepppejeaaZFnCoteriesPx11
section
namespace Go.Proofs.Ytjngkfepppejeaa.Pl
open Go.RowKit Go.Proofs.YtjngkfepppejeaaW.PrintWords Go.Proofs.YtjngkfepppejeaaW.PrintLast Go.Proofs.YtjngkfepppejeaaW.PrintMore
theorem wrap_in {x : Int} (h0 : -9223372036854775808 ≤ x) (h1 : x ≤ 9223372036854775807) : wrap64 x = x := by
  unfold wrap64
  omega
theorem wrap_len {n m : Nat} (h : n < m) (hm : m ≤ 4611686018427387904) : wrap64 ((n : Int) + 1) = ((n + 1 : Nat) : Int) := by
  rw [wrap_in (by omega) (by omega)]
  omega
theorem round {k d : Nat} (h : d < k) : ∃ m, k = m + 1 := ⟨k - 1, by omega⟩
theorem rd_mid (pre : List Int) (h : Int) (t : List Int) : rd (pre ++ h :: t) (pre.length : Int) = h := by
  simp [rd]
theorem rd_at {pre t l : List Int} {h : Int} (e : pre ++ h :: t = l) : rd l (pre.length : Int) = h := by
  rw [← e]; exact rd_mid pre h t
theorem len_mid {α : Type} {pre t : List α} {h : α} {l : List α} (e : pre ++ h :: t = l) : pre.length < l.length := by
  rw [← e]; simp
theorem app_mid {α : Type} {pre t : List α} {h : α} {l : List α} (e : pre ++ h :: t = l) : (pre ++ [h]) ++ t = l := by
  rw [← e]; simp
theorem len_one {α : Type} (pre : List α) (h : α) : (pre ++ [h]).length = pre.length + 1 := by simp
theorem rd_last {pre rest l : List Int} {p : Int} (e : pre ++ rest = l) (h : pre.getLast? = some p) : 0 < pre.length ∧ rd l ((pre.length : Int) - 1) = p := by
  obtain ⟨q, rfl⟩ := List.getLast?_eq_some_iff.1 h
  refine ⟨by simp, ?_⟩
  have h2 : q ++ [p] ++ rest = q ++ p :: rest := by simp
  rw [← e, h2, len_one, show (((q.length + 1 : Nat) : Int) - 1) = (q.length : Int) by omega]
  exact rd_mid q p rest
theorem no_last {α : Type} {pre : List α} (h : pre.getLast? = none) : pre = [] := by
  simpa using h
end Go.Proofs.Ytjngkfepppejeaa.Pl
end
section
namespace Go.Proofs.Ytjngkfepppejeaa.EvN
def Cm {α : Type} (f : Nat → Option α) (v : α) : Prop := ∃ K, ∀ k, K ≤ k → f k = some v
theorem cm_now {α : Type} {f : Nat → Option α} {v : α} (h : ∀ k, f k = some v) : Cm f v := ⟨0, fun k _ => h k⟩
theorem cm_step {α : Type} {f g : Nat → Option α} {v : α} (h : ∀ k, f (k + 1) = g k) (hg : Cm g v) : Cm f v := by
  obtain ⟨K, hK⟩ := hg
  refine ⟨K + 1, fun k hk => ?_⟩
  obtain ⟨m, rfl⟩ : ∃ m, k = m + 1 := ⟨k - 1, by omega⟩
  rw [h, hK m (by omega)]
theorem cm_same {α : Type} {f g : Nat → Option α} {v : α} (h : ∀ k, f k = g k) (hg : Cm g v) : Cm f v := by
  obtain ⟨K, hK⟩ := hg
  exact ⟨K, fun k hk => by rw [h, hK k hk]⟩
theorem cm_bind {α β : Type} {a : Nat → Option α} {t : α} {g : Nat → α → Option β} {v : β} (ha : Cm a t) (hg : Cm (fun k => g k t) v) : Cm (fun k => (a k).bind (g k)) v := by
  obtain ⟨K, hK⟩ := ha
  obtain ⟨M, hM⟩ := hg
  exact ⟨K + M, fun k hk => by simp only [hK k (by omega)]; exact hM k (by omega)⟩
theorem cm_yes {α : Type} {c : Prop} [Decidable c] {x y : Nat → Option α} {v : α} (h : c) (h2 : Cm x v) : Cm (fun k => if c then x k else y k) v :=
  cm_same (fun _ => if_pos h) h2
theorem cm_no {α : Type} {c : Prop} [Decidable c] {x y : Nat → Option α} {v : α} (h : ¬ c) (h2 : Cm y v) : Cm (fun k => if c then x k else y k) v :=
  cm_same (fun _ => if_neg h) h2
theorem cm_one {α : Type} {f : Nat → Option α} {v u : α} (h : Cm f v) (h2 : Cm f u) : v = u := by
  obtain ⟨K, hK⟩ := h
  obtain ⟨M, hM⟩ := h2
  have := (hK (K + M) (by omega)).symm.trans (hM (K + M) (by omega))
  exact Option.some.inj this
theorem cm_ex {α : Type} {f : Nat → Option α} {v : α} (h : Cm f v) : ∃ k, f k = some v := by
  obtain ⟨K, hK⟩ := h
  exact ⟨K, hK K (Nat.le_refl _)⟩
end Go.Proofs.Ytjngkfepppejeaa.EvN
end
section
namespace Go.Proofs.Ytjngkfepppejeaa.Lp
open Go.RowKit Go.Proofs.YtjngkfepppejeaaW.PrintWords
open Go.Proofs.Ytjngkfepppejeaa.Pl Go.Proofs.Ytjngkfepppejeaa.EvN
theorem loop_cm {α σ ρ : Type} {L : Nat → Int → σ → Option ρ} (xs : List α) (R : List α → List α → σ → ρ) (I : List α → σ → Prop)
    (hend : ∀ s, I xs s → Cm (fun k => L k (xs.length : Int) s) (R xs [] s))
    (hstep : ∀ pre h t s, pre ++ h :: t = xs → pre.length < xs.length → I pre s → (∀ s', I (pre ++ [h]) s' → Cm (fun k => L k ((pre.length + 1 : Nat) : Int) s') (R (pre ++ [h]) t s')) → Cm (fun k => L k (pre.length : Int) s) (R pre (h :: t) s)) :
    ∀ (rest pre : List α) (s : σ), pre ++ rest = xs → I pre s → Cm (fun k => L k (pre.length : Int) s) (R pre rest s)
  | [], pre, s, e, hi => by
    rw [List.append_nil] at e
    subst e
    exact hend s hi
  | h :: t, pre, s, e, hi => by
    refine hstep pre h t s e (len_mid e) hi (fun s' hi' => ?_)
    have := loop_cm xs R I hend hstep t (pre ++ [h]) s' (app_mid e) hi'
    rw [len_one] at this
    exact this
theorem fold_cm {α σ ρ : Type} {L : Nat → Int → σ → Option ρ} (xs : List α) (g : σ → α → σ) (I : List α → σ → Prop) (s0 : σ) {v : ρ} (h0 : I [] s0)
    (hstep : ∀ pre h t s, pre ++ h :: t = xs → pre.length < xs.length → I pre s → I (pre ++ [h]) (g s h) ∧ ∀ u, Cm (fun k => L k ((pre.length + 1 : Nat) : Int) (g s h)) u → Cm (fun k => L k (pre.length : Int) s) u)
    (hend : I xs (xs.foldl g s0) → Cm (fun k => L k (xs.length : Int) (xs.foldl g s0)) v) : Cm (fun k => L k 0 s0) v := by
  have key : ∀ (rest pre : List α) (s : σ), pre ++ rest = xs → I pre s → rest.foldl g s = xs.foldl g s0 → Cm (fun k => L k (pre.length : Int) s) v := by
    intro rest
    induction rest with
    | nil =>
      intro pre s e hi hf
      rw [List.append_nil] at e
      subst e
      rw [List.foldl_nil] at hf
      subst hf
      exact hend hi
    | cons h t ih =>
      intro pre s e hi hf
      obtain ⟨h1, h2⟩ := hstep pre h t s e (len_mid e) hi
      refine h2 v ?_
      have := ih (pre ++ [h]) (g s h) (app_mid e) h1 (by simpa using hf)
      rw [len_one] at this
      exact this
  exact key xs [] s0 rfl h0 rfl
def okFrom {α : Type} (p : List α → α → Bool) : List α → List α → Bool
  | _, [] => true
  | pre, h :: t => p pre h && okFrom p (pre ++ [h]) t
theorem okFrom_iff {α : Type} (p : List α → α → Bool) : ∀ (rest pre : List α), okFrom p pre rest = true ↔ ∀ a h t, a ++ h :: t = rest → p (pre ++ a) h = true
  | [], pre => by
    simp only [okFrom, true_iff]
    intro a h t e
    simp at e
  | x :: t, pre => by
    simp only [okFrom, Bool.and_eq_true]
    rw [okFrom_iff p t (pre ++ [x])]
    constructor
    · rintro ⟨h1, h2⟩ a h t' e
      cases a with
      | nil =>
        simp only [List.nil_append, List.cons.injEq] at e
        obtain ⟨rfl, rfl⟩ := e
        simpa using h1
      | cons y a =>
        simp only [List.cons_append, List.cons.injEq] at e
        obtain ⟨rfl, e⟩ := e
        have := h2 a h t' e
        simpa using this
    · intro h
      refine ⟨by simpa using h [] x t rfl, fun a h' t' e => ?_⟩
      have := h (x :: a) h' t' (by simp [e])
      simpa using this
theorem all_cm {α ρ : Type} {L : Nat → Int → Option ρ} (xs : List α) (p : List α → α → Bool) {fin no : ρ}
    (hstep : ∀ pre h t, pre ++ h :: t = xs → pre.length < xs.length → p pre h = true → ∀ v, Cm (fun k => L k ((pre.length + 1 : Nat) : Int)) v → Cm (fun k => L k (pre.length : Int)) v)
    (hno : ∀ pre h t, pre ++ h :: t = xs → pre.length < xs.length → p pre h = false → Cm (fun k => L k (pre.length : Int)) no)
    (hend : okFrom p [] xs = true → Cm (fun k => L k (xs.length : Int)) fin) : Cm (fun k => L k 0) (if okFrom p [] xs = true then fin else no) := by
  have key : ∀ (rest pre : List α), pre ++ rest = xs → (okFrom p pre rest = okFrom p [] xs) → Cm (fun k => L k (pre.length : Int)) (if okFrom p pre rest = true then fin else no) := by
    intro rest
    induction rest with
    | nil =>
      intro pre e h
      rw [List.append_nil] at e
      subst e
      simp only [okFrom, if_true] at h ⊢
      exact hend h.symm
    | cons x t ih =>
      intro pre e h
      by_cases c : p pre x = true
      · have h2 : okFrom p pre (x :: t) = okFrom p (pre ++ [x]) t := by simp only [okFrom, c, Bool.true_and]
        rw [h2] at h ⊢
        have h3 := ih (pre ++ [x]) (app_mid e) h
        rw [len_one] at h3
        exact hstep pre x t e (len_mid e) c _ h3
      · have c2 : p pre x = false := by simpa using c
        have h2 : okFrom p pre (x :: t) = false := by simp only [okFrom, c2, Bool.false_and]
        rw [h2]
        simpa using hno pre x t e (len_mid e) c2
  exact key xs [] rfl rfl
theorem okFrom_append {α : Type} (p : List α → α → Bool) : ∀ (b a c : List α), okFrom p a (b ++ c) = (okFrom p a b && okFrom p (a ++ b) c)
  | [], a, c => by simp [okFrom]
  | x :: b, a, c => by simp only [List.cons_append, okFrom, okFrom_append p b (a ++ [x]) c, Bool.and_assoc, List.append_assoc, List.nil_append]
theorem okFrom_all {α : Type} (p : α → Bool) : ∀ (rest pre : List α), okFrom (fun _ h => p h) pre rest = rest.all p
  | [], _ => rfl
  | x :: t, pre => by simp only [okFrom, List.all_cons, okFrom_all p t]
theorem every_cm {α ρ : Type} {L : Nat → Int → Option ρ} (xs : List α) (p : α → Bool) {fin no : ρ}
    (hstep : ∀ pre h t, pre ++ h :: t = xs → pre.length < xs.length → p h = true → ∀ v, Cm (fun k => L k ((pre.length + 1 : Nat) : Int)) v → Cm (fun k => L k (pre.length : Int)) v)
    (hno : ∀ pre h t, pre ++ h :: t = xs → pre.length < xs.length → p h = false → Cm (fun k => L k (pre.length : Int)) no)
    (hend : xs.all p = true → Cm (fun k => L k (xs.length : Int)) fin) : Cm (fun k => L k 0) (if xs.all p = true then fin else no) := by
  have := all_cm (L := L) xs (fun _ h => p h) hstep hno (by rw [okFrom_all]; exact hend)
  rw [okFrom_all] at this
  exact this
def foundAt {α ρ : Type} (p : α → Bool) (found : Nat → α → ρ) (none_ : ρ) : Nat → List α → ρ
  | _, [] => none_
  | i, h :: t => if p h = true then found i h else foundAt p found none_ (i + 1) t
theorem find_cm {α ρ : Type} {L : Nat → Int → Option ρ} (xs : List α) (p : α → Bool) (found : Nat → α → ρ) {none_ : ρ}
    (hstep : ∀ pre h t, pre ++ h :: t = xs → pre.length < xs.length → p h = false → ∀ v, Cm (fun k => L k ((pre.length + 1 : Nat) : Int)) v → Cm (fun k => L k (pre.length : Int)) v)
    (hyes : ∀ pre h t, pre ++ h :: t = xs → pre.length < xs.length → p h = true → Cm (fun k => L k (pre.length : Int)) (found pre.length h))
    (hend : Cm (fun k => L k (xs.length : Int)) none_) : Cm (fun k => L k 0) (foundAt p found none_ 0 xs) := by
  have key : ∀ (rest pre : List α), pre ++ rest = xs → Cm (fun k => L k (pre.length : Int)) (foundAt p found none_ pre.length rest) := by
    intro rest
    induction rest with
    | nil =>
      intro pre e
      rw [List.append_nil] at e
      subst e
      exact hend
    | cons x t ih =>
      intro pre e
      unfold foundAt
      by_cases c : p x = true
      · rw [if_pos c]
        exact hyes pre x t e (len_mid e) c
      · rw [if_neg c]
        have h3 := ih (pre ++ [x]) (app_mid e)
        rw [len_one] at h3
        exact hstep pre x t e (len_mid e) (by simpa using c) _ h3
  exact key xs [] rfl
theorem found_any {α : Type} (p : α → Bool) : ∀ (l : List α) (i : Nat), decide (foundAt p (fun i _ => (i : Int)) (-1) i l ≥ 0) = l.any p
  | [], _ => by simp [foundAt]
  | h :: t, i => by
    unfold foundAt
    by_cases c : p h = true
    · rw [if_pos c]; simp [c]
    · rw [if_neg c, found_any p t (i + 1)]; simp [c]
theorem not_any {α : Type} (p q : α → Bool) (l : List α) (h : ∀ x ∈ l, p x = !q x) : (!l.any p) = l.all q := by
  induction l with
  | nil => rfl
  | cons x t ih => rw [List.any_cons, List.all_cons, h x (by simp), ← ih (fun y hy => h y (by simp [hy]))]; cases q x <;> simp
theorem same_cm {α ρ : Type} {L : Nat → Int → Option ρ} (xs : List α) {fin : ρ}
    (hstep : ∀ pre h t, pre ++ h :: t = xs → pre.length < xs.length → ∀ v, Cm (fun k => L k ((pre.length + 1 : Nat) : Int)) v → Cm (fun k => L k (pre.length : Int)) v)
    (hend : Cm (fun k => L k (xs.length : Int)) fin) : Cm (fun k => L k 0) fin := by
  have := every_cm (L := L) xs (fun _ => true) (fin := fin) (no := fin) (fun pre h t e hl _ => hstep pre h t e hl) (fun _ _ _ _ _ hp => by cases hp) (fun _ => hend)
  have h : (xs.all fun _ => true) = true := by simp
  rw [if_pos h] at this
  exact this
theorem cm_if {α : Type} {c : Prop} [Decidable c] {x y : Nat → Option α} {v : α} (h : c → Cm x v) (h2 : ¬ c → Cm y v) : Cm (fun k => if c then x k else y k) v := by
  by_cases hc : c
  · exact cm_yes hc (h hc)
  · exact cm_no hc (h2 hc)
theorem getD_at {α : Type} {pre t l : List α} {h : α} (e : pre ++ h :: t = l) (d : α) : l.getD ((pre.length : Int)).toNat d = h := by
  rw [← e]; simp
theorem take_at {α : Type} {pre t l : List α} (e : pre ++ t = l) : l.take ((pre.length : Int)).toNat = pre := by
  rw [← e]; simp
theorem wrap_less {n : Nat} (h : 0 < n) (hm : n ≤ 4611686018427387904) : wrap64 ((n : Int) - 1) = (n : Int) - 1 := wrap_in (by omega) (by omega)
theorem cm_val {α : Type} {f : Nat → Option α} {u v : α} (h : Cm f u) (e : u = v) : Cm f v := e ▸ h
end Go.Proofs.Ytjngkfepppejeaa.Lp
end
section
namespace Go.Proofs.Ytjngkfepppejeaa.Pick
open Go.RowKit Go.Proofs.YtjngkfepppejeaaW.PrintWords
open Go.Proofs.Ytjngkfepppejeaa.Pl Go.Proofs.Ytjngkfepppejeaa.EvN Go.Proofs.Ytjngkfepppejeaa.Lp
set_option linter.unusedVariables false
set_option linter.unusedSimpArgs false
theorem iter_cm {σ ρ : Type} {L : Nat → Int → σ → Option ρ} (n : Nat) (st : Nat → σ) {v : ρ} (hs : ∀ i, i < n → ∀ u, Cm (fun k => L k ((i + 1 : Nat) : Int) (st (i + 1))) u → Cm (fun k => L k (i : Int) (st i)) u)
    (he : Cm (fun k => L k (n : Int) (st n)) v) : Cm (fun k => L k 0 (st 0)) v := by
  have key : ∀ (d i : Nat), i + d = n → Cm (fun k => L k (i : Int) (st i)) v := by
    intro d
    induction d with
    | zero => intro i e; rw [Nat.add_zero] at e; subst e; exact he
    | succ d ih => intro i e; exact hs i (by omega) v (ih (i + 1) (by omega))
  exact key n 0 (by omega)
theorem wrap_n {i n : Nat} (h : i < n) (hn : n ≤ 4611686018427387904) : wrap64 ((i : Int) + 1) = ((i + 1 : Nat) : Int) := by
  rw [show ((i + 1 : Nat) : Int) = (i : Int) + 1 by omega]
  exact wrap_in (by omega) (by omega)
end Go.Proofs.Ytjngkfepppejeaa.Pick
end
section
namespace Go.Proofs.Ytjngkfepppejeaa.Sets
open Go.RowKit Go.Proofs.YtjngkfepppejeaaW.PrintWords Go.Proofs.YtjngkfepppejeaaW.PrintLast Go.Proofs.YtjngkfepppejeaaW.PrintMore
open Go.Proofs.Ytjngkfepppejeaa.Pl Go.Proofs.Ytjngkfepppejeaa.EvN Go.Proofs.Ytjngkfepppejeaa.Lp
set_option linter.unusedSimpArgs false
set_option linter.unusedVariables false
def maskN (l : List Int) : Nat := l.foldl (fun s m => s ||| 2 ^ m.toNat) 0
theorem fold_bit (i : Nat) : ∀ (l : List Int) (s : Nat), (∀ x ∈ l, 0 ≤ x) → (l.foldl (fun s m => s ||| 2 ^ m.toNat) s).testBit i = (s.testBit i || decide ((i : Int) ∈ l))
  | [], s, _ => by simp
  | x :: t, s, h => by
    have h0 := h x (by simp)
    rw [List.foldl_cons, fold_bit i t _ (fun y hy => h y (by simp [hy])), Nat.testBit_or, Nat.testBit_two_pow, Bool.or_assoc]
    congr 1
    by_cases c : (i : Int) = x
    · have : x.toNat = i := by omega
      simp [this, c]
    · have : ¬ x.toNat = i := by omega
      simp [this, c]
theorem mask_bit (l : List Int) (h : ∀ x ∈ l, 0 ≤ x) (i : Nat) : (maskN l).testBit i = decide ((i : Int) ∈ l) := by
  unfold maskN
  rw [fold_bit i l 0 h]
  simp
theorem fold_lt (n : Nat) : ∀ (l : List Int) (s : Nat), s < 2 ^ n → (∀ x ∈ l, 0 ≤ x ∧ x < (n : Int)) → l.foldl (fun s m => s ||| 2 ^ m.toNat) s < 2 ^ n
  | [], s, hs, _ => hs
  | x :: t, s, hs, h => by
    have h0 := h x (by simp)
    rw [List.foldl_cons]
    refine fold_lt n t _ (Nat.or_lt_two_pow hs ?_) (fun y hy => h y (by simp [hy]))
    exact Nat.pow_lt_pow_right (by omega) (by omega)
theorem mask_lt (n : Nat) (l : List Int) (h : ∀ x ∈ l, 0 ≤ x ∧ x < (n : Int)) : maskN l < 2 ^ n := fold_lt n l 0 (Nat.two_pow_pos n) h
theorem and_zero (a b : Nat) : a &&& b = 0 ↔ ∀ i, ¬ (a.testBit i = true ∧ b.testBit i = true) := by
  constructor
  · intro h i ⟨h1, h2⟩
    have : (a &&& b).testBit i = true := by rw [Nat.testBit_and, h1, h2]; rfl
    rw [h, Nat.zero_testBit] at this
    exact Bool.false_ne_true this
  · intro h
    apply Nat.eq_of_testBit_eq
    intro i
    rw [Nat.testBit_and, Nat.zero_testBit]
    have := h i
    cases h1 : a.testBit i <;> cases h2 : b.testBit i <;> simp_all
theorem and_self (a b : Nat) : a &&& b = b ↔ ∀ i, b.testBit i = true → a.testBit i = true := by
  constructor
  · intro h i h2
    have : (a &&& b).testBit i = true := by rw [h]; exact h2
    rw [Nat.testBit_and] at this
    simp_all
  · intro h
    apply Nat.eq_of_testBit_eq
    intro i
    rw [Nat.testBit_and]
    have := h i
    cases h1 : a.testBit i <;> cases h2 : b.testBit i <;> simp_all
theorem i64_in {x : Int} (h0 : 0 ≤ x) (h1 : x < 9223372036854775808) : IntKind.i64.wrap x = x := by
  simp [IntKind.wrap, IntKind.bits, IntKind.signed]
  omega
theorem ofInt_nat (a : Nat) (ha : a < 9223372036854775808) : (BitVec.ofInt 64 (a : Int)).toNat = a := by
  rw [BitVec.ofInt_natCast, BitVec.toNat_ofNat]
  exact Nat.mod_eq_of_lt (by omega)
theorem and_i64 (a b : Nat) (ha : a < 9223372036854775808) (hb : b < 9223372036854775808) : Go.bits .and .i64 (a : Int) (b : Int) = ((a &&& b : Nat) : Int) := by
  have hx : a &&& b < 2 ^ 63 := Nat.and_lt_two_pow _ (by omega)
  show IntKind.i64.wrap ((BitVec.ofInt 64 (a : Int) &&& BitVec.ofInt 64 (b : Int)).toNat : Int) = _
  rw [BitVec.toNat_and, ofInt_nat a ha, ofInt_nat b hb, i64_in (by omega) (by omega)]
theorem or_i64 (a b : Nat) (ha : a < 9223372036854775808) (hb : b < 9223372036854775808) : Go.bits .or .i64 (a : Int) (b : Int) = ((a ||| b : Nat) : Int) := by
  have hx : a ||| b < 2 ^ 63 := Nat.or_lt_two_pow (by omega) (by omega)
  show IntKind.i64.wrap ((BitVec.ofInt 64 (a : Int) ||| BitVec.ofInt 64 (b : Int)).toNat : Int) = _
  rw [BitVec.toNat_or, ofInt_nat a ha, ofInt_nat b hb, i64_in (by omega) (by omega)]
theorem andNot_i64 (a b : Nat) (ha : a < 9223372036854775808) (hb : b < 9223372036854775808) : Go.bits .andNot .i64 (a : Int) (b : Int) = ((a &&& (18446744073709551615 - b) : Nat) : Int) := by
  have hx : a &&& (18446744073709551615 - b) ≤ a := Nat.and_le_left
  show IntKind.i64.wrap ((BitVec.ofInt 64 (a : Int) &&& ~~~ BitVec.ofInt 64 (b : Int)).toNat : Int) = _
  rw [BitVec.toNat_and, BitVec.toNat_not, ofInt_nat a ha, ofInt_nat b hb]
  have : 2 ^ 64 - 1 - b = 18446744073709551615 - b := by omega
  rw [this, i64_in (by omega) (by omega)]
theorem shl_one {m : Int} (h0 : 0 ≤ m) (h1 : m < 62) : shl .i64 1 m = ((2 ^ m.toNat : Nat) : Int) := by
  have hm : min m.toNat IntKind.i64.bits = m.toNat := by
    have : IntKind.i64.bits = 64 := rfl
    omega
  have hp : 2 ^ m.toNat < 2 ^ 62 := Nat.pow_lt_pow_right (by omega) (by omega)
  unfold shl
  rw [hm, Int.one_mul, show ((2 : Int) ^ m.toNat) = ((2 ^ m.toNat : Nat) : Int) by simp]
  generalize 2 ^ m.toNat = z at hp
  exact i64_in (by omega) (by omega)
theorem shr_nat (a : Nat) {m : Int} (h1 : m ≤ 64) : shr .i64 (a : Int) m = ((a / 2 ^ m.toNat : Nat) : Int) := by
  have hm : min m.toNat IntKind.i64.bits = m.toNat := by
    have : IntKind.i64.bits = 64 := rfl
    omega
  unfold shr
  rw [hm]
  simp
theorem bit_i64 (a : Nat) {m : Int} (ha : a < 9223372036854775808) (h0 : 0 ≤ m) (h1 : m ≤ 64) : Go.bits .and .i64 (shr .i64 (a : Int) m) 1 = if a.testBit m.toNat = true then 1 else 0 := by
  have hd : a / 2 ^ m.toNat ≤ a := Nat.div_le_self _ _
  rw [shr_nat a h1, show (1 : Int) = ((1 : Nat) : Int) from rfl, and_i64 _ _ (by omega) (by omega), Nat.and_one_is_mod, Nat.testBit_eq_decide_div_mod_eq]
  by_cases c : a / 2 ^ m.toNat % 2 = 1
  · simp [c]
  · have c2 : a / 2 ^ m.toNat % 2 = 0 := by omega
    simp [c2]
def meet (a b : List Int) : Bool := a.any (fun x => decide (x ∈ b))
def hasAll (a b : List Int) : Bool := b.all (fun x => decide (x ∈ a))
theorem meet_mask (a b : List Int) (ha : ∀ x ∈ a, 0 ≤ x) (hb : ∀ x ∈ b, 0 ≤ x) : meet a b = true ↔ ¬ maskN a &&& maskN b = 0 := by
  rw [and_zero]
  simp only [mask_bit a ha, mask_bit b hb, meet, List.any_eq_true, decide_eq_true_eq]
  constructor
  · rintro ⟨x, h1, h2⟩ h
    have := ha x h1
    refine h x.toNat ⟨?_, ?_⟩
    · rw [Int.toNat_of_nonneg this]; exact h1
    · rw [Int.toNat_of_nonneg this]; exact h2
  · intro h
    have : ∃ i : Nat, (i : Int) ∈ a ∧ (i : Int) ∈ b := by
      by_cases c : ∃ i : Nat, (i : Int) ∈ a ∧ (i : Int) ∈ b
      · exact c
      · exact absurd (fun i hi => c ⟨i, hi⟩) h
    obtain ⟨i, h1, h2⟩ := this
    exact ⟨i, h1, h2⟩
theorem has_mask (a b : List Int) (ha : ∀ x ∈ a, 0 ≤ x) (hb : ∀ x ∈ b, 0 ≤ x) : hasAll a b = true ↔ maskN a &&& maskN b = maskN b := by
  rw [and_self]
  simp only [mask_bit a ha, mask_bit b hb, hasAll, List.all_eq_true, decide_eq_true_eq]
  constructor
  · intro h i hi
    exact h i hi
  · intro h x hx
    have := hb x hx
    have h2 := h x.toNat
    rw [Int.toNat_of_nonneg this] at h2
    exact h2 hx
def rises (many : Int) (pre : List Int) (h : Int) : Bool := decide (0 ≤ h ∧ h < many) && (match pre.getLast? with | some q => decide (q < h) | none => true)
def members (many : Int) (l : List Int) : Bool := okFrom (rises many) [] l
theorem members_in {many : Int} {l : List Int} (h : members many l = true) : ∀ x ∈ l, 0 ≤ x ∧ x < many := by
  intro x hx
  obtain ⟨a, t, e⟩ := List.append_of_mem hx
  have := (okFrom_iff (rises many) l []).1 h a x t e.symm
  simp only [rises, Bool.and_eq_true, decide_eq_true_eq] at this
  exact this.1
def groups (many : Int) (l : List (List Int)) : Bool := l.all (fun g => decide (g.length ≠ 0) && members many g) && decide (l.length ≤ 40)
theorem groups_iff {many : Int} {l : List (List Int)} : groups many l = true ↔ (∀ g ∈ l, g.length ≠ 0 ∧ members many g = true) ∧ l.length ≤ 40 := by
  simp [groups]
end Go.Proofs.Ytjngkfepppejeaa.Sets
end
section
namespace Go.Proofs.Ytjngkfepppejeaa.Mem
open Go.RowKit Go.Proofs.Ytjngkfepppejeaa.P Go.Proofs.YtjngkfepppejeaaW.PrintWords Go.Proofs.YtjngkfepppejeaaW.PrintLast Go.Proofs.YtjngkfepppejeaaW.PrintMore
open Go.Proofs.Ytjngkfepppejeaa.Pl Go.Proofs.Ytjngkfepppejeaa.EvN Go.Proofs.Ytjngkfepppejeaa.Lp Go.Proofs.Ytjngkfepppejeaa.Sets
set_option linter.unusedSimpArgs false
set_option linter.unusedVariables false
theorem in_f (a b c : Int) : impl_in.f a b c = some (decide (b ≤ a ∧ a ≤ c)) := by
  unfold impl_in.f
  by_cases h : a ≥ b
  · rw [if_pos h]; congr 1; rw [decide_eq_decide]; omega
  · rw [if_neg h]; congr 1; symm; rw [decide_eq_false_iff_not]; omega
theorem l1In_f (a b c : Int) : spec_l1In.f a b c = some (decide (b ≤ a ∧ a ≤ c)) := by
  unfold spec_l1In.f
  by_cases h : a ≥ b
  · rw [if_pos h]; congr 1; rw [decide_eq_decide]; omega
  · rw [if_neg h]; congr 1; symm; rw [decide_eq_false_iff_not]; omega
theorem l1_at {pre t l : List (List Int)} {h : List Int} (e : pre ++ h :: t = l) : rd_L1 l (pre.length : Int) = h := getD_at e _
theorem if_self (b : Bool) : (if b = true then true else false) = b := by cases b <;> rfl
theorem rises_no {many : Int} {pre : List Int} {h : Int} (hp : rises many pre h = false) (h0 : 0 ≤ h) (h1 : h < many) : ∃ q, pre.getLast? = some q ∧ h ≤ q := by
  unfold rises at hp
  cases e : pre.getLast? with
  | none => rw [e] at hp; simp at hp; omega
  | some q =>
    rw [e] at hp
    simp at hp
    exact ⟨q, rfl, by omega⟩
theorem rises_yes {many : Int} {pre : List Int} {h : Int} (hp : rises many pre h = true) : (0 ≤ h ∧ h < many) ∧ ∀ q, pre.getLast? = some q → q < h := by
  unfold rises at hp
  simp only [Bool.and_eq_true, decide_eq_true_eq] at hp
  refine ⟨hp.1, fun q e => ?_⟩
  have h2 := hp.2
  rw [e] at h2
  simpa using h2
theorem last_cases {α : Type} (pre : List α) : pre = [] ∨ ∃ q, pre.getLast? = some q := by
  cases e : pre.getLast? with
  | none => exact .inl (no_last e)
  | some q => exact .inr ⟨q, rfl⟩
end Go.Proofs.Ytjngkfepppejeaa.Mem
end
section
namespace Go.Proofs.Ytjngkfepppejeaa.Mem
open Go.RowKit Go.Proofs.Ytjngkfepppejeaa.P Go.Proofs.YtjngkfepppejeaaW.PrintWords Go.Proofs.YtjngkfepppejeaaW.PrintLast Go.Proofs.YtjngkfepppejeaaW.PrintMore
open Go.Proofs.Ytjngkfepppejeaa.Pl Go.Proofs.Ytjngkfepppejeaa.EvN Go.Proofs.Ytjngkfepppejeaa.Lp Go.Proofs.Ytjngkfepppejeaa.Sets
set_option linter.unusedSimpArgs false
set_option linter.unusedVariables false
theorem has_f (l : List Int) (n : Int) (hl : l.length ≤ 4611686018427387904) : Cm (fun k => spec_l1Has.f k l n) (decide (n ∈ l)) := by
  unfold spec_l1Has.f
  have := every_cm (L := fun k i => spec_l1Has.l0 k n l (l.length : Int) i) l (fun x => decide (x ≠ n)) (fin := false) (no := true) ?_ ?_ ?_
  · refine cm_val this ?_
    by_cases c : n ∈ l
    · simp [c]
    · simp [c]
      intro x hx e
      subst e
      exact c hx
  · intro pre h t e hlt hp v hv
    simp only [decide_eq_true_eq] at hp
    refine cm_step (fun k => by rw [spec_l1Has.l0]) ?_
    simp only [rd_at e, wrap_len hlt hl]
    repeat (first | assumption | exact cm_now (fun _ => rfl) | refine cm_yes (by first | omega | assumption | (simp; done) | (simp; omega)) ?_ | refine cm_no (by first | omega | assumption | (simp; done) | (simp; omega)) ?_)
  · intro pre h t e hlt hp
    simp only [decide_eq_false_iff_not, ne_eq, Decidable.not_not] at hp
    refine cm_step (fun k => by rw [spec_l1Has.l0]) ?_
    simp only [rd_at e, wrap_len hlt hl]
    repeat (first | assumption | exact cm_now (fun _ => rfl) | refine cm_yes (by first | omega | assumption | (simp; done) | (simp; omega)) ?_ | refine cm_no (by first | omega | assumption | (simp; done) | (simp; omega)) ?_)
  · intro _
    refine cm_step (fun k => by rw [spec_l1Has.l0]) ?_
    repeat (first | assumption | exact cm_now (fun _ => rfl) | refine cm_yes (by first | omega | assumption | (simp; done) | (simp; omega)) ?_ | refine cm_no (by first | omega | assumption | (simp; done) | (simp; omega)) ?_)
theorem hasAll_f (a b : List Int) (ha : a.length ≤ 4611686018427387904) (hb : b.length ≤ 4611686018427387904) : Cm (fun k => spec_l6Has.f k a b) (hasAll a b) := by
  unfold spec_l6Has.f
  have := every_cm (L := fun k i => spec_l6Has.l0 k a b (b.length : Int) i) b (fun x => decide (x ∈ a)) (fin := true) (no := false) ?_ ?_ ?_
  · refine cm_val this ?_
    unfold hasAll
    cases b.all fun x => decide (x ∈ a) <;> rfl
  · intro pre h t e hlt hp v hv
    refine cm_step (fun k => by rw [spec_l6Has.l0]) ?_
    simp only [rd_at e, wrap_len hlt hb]
    repeat (first | assumption | exact cm_now (fun _ => rfl) | refine cm_bind (has_f _ _ ha) ?_ | refine cm_yes (by first | omega | assumption | (simp; done) | (simp; omega) | exact hp) ?_ | refine cm_no (by first | omega | assumption | (simp; done) | (simp; omega) | exact hp) ?_)
  · intro pre h t e hlt hp
    refine cm_step (fun k => by rw [spec_l6Has.l0]) ?_
    simp only [rd_at e, wrap_len hlt hb]
    repeat (first | assumption | exact cm_now (fun _ => rfl) | refine cm_bind (has_f _ _ ha) ?_ | refine cm_yes (by first | omega | assumption | (simp; done) | (simp; omega) | exact (by simpa using hp)) ?_ | refine cm_no (by first | omega | assumption | (simp; done) | (simp; omega) | exact (by simpa using hp)) ?_)
  · intro _
    refine cm_step (fun k => by rw [spec_l6Has.l0]) ?_
    repeat (first | assumption | exact cm_now (fun _ => rfl) | refine cm_yes (by first | omega | assumption | (simp; done) | (simp; omega)) ?_ | refine cm_no (by first | omega | assumption | (simp; done) | (simp; omega)) ?_)
theorem group_f (l : List Int) (many : Int) (hl : l.length ≤ 4611686018427387904) : Cm (fun k => spec_l6Group.f k l many) (members many l) := by
  unfold spec_l6Group.f
  have := all_cm (L := fun k i => spec_l6Group.l0 k l many l (l.length : Int) i) l (rises many) (fin := true) (no := false) ?_ ?_ ?_
  · exact cm_val this (if_self _)
  · intro pre h t e hlt hp v hv
    obtain ⟨⟨h0, h1⟩, h2⟩ := rises_yes hp
    refine cm_step (fun k => by rw [spec_l6Group.l0]) ?_
    simp only [rd_at e, wrap_len hlt hl]
    refine cm_yes (by omega) (cm_yes (by omega) (cm_yes (by omega) (cm_no (by omega) (cm_no (by omega) ?_))))
    rcases last_cases pre with rfl | ⟨q, hq⟩
    · exact cm_no (by simp) hv
    · obtain ⟨h3, h4⟩ := rd_last e hq
      have h5 := h2 q hq
      rw [wrap_less h3 (by omega), h4]
      repeat (first | assumption | exact cm_now (fun _ => rfl) | refine cm_yes (by first | omega | assumption | (simp; done) | (simp; omega)) ?_ | refine cm_no (by first | omega | assumption | (simp; done) | (simp; omega)) ?_)
  · intro pre h t e hlt hp
    refine cm_step (fun k => by rw [spec_l6Group.l0]) ?_
    simp only [rd_at e, wrap_len hlt hl]
    refine cm_yes (by omega) (cm_yes (by omega) (cm_yes (by omega) ?_))
    refine cm_if (fun _ => cm_now fun _ => rfl) (fun c0 => cm_if (fun _ => cm_now fun _ => rfl) (fun c1 => ?_))
    obtain ⟨q, hq, h5⟩ := rises_no hp (by omega) (by omega)
    obtain ⟨h3, h4⟩ := rd_last e hq
    rw [wrap_less h3 (by omega), h4]
    repeat (first | assumption | exact cm_now (fun _ => rfl) | refine cm_yes (by first | omega | assumption | (simp; done) | (simp; omega)) ?_ | refine cm_no (by first | omega | assumption | (simp; done) | (simp; omega)) ?_)
  · intro _
    refine cm_step (fun k => by rw [spec_l6Group.l0]) ?_
    repeat (first | assumption | exact cm_now (fun _ => rfl) | refine cm_yes (by first | omega | assumption | (simp; done) | (simp; omega)) ?_ | refine cm_no (by first | omega | assumption | (simp; done) | (simp; omega)) ?_)
theorem areMembers_f (l : List Int) (many : Int) (hl : l.length ≤ 4611686018427387904) (hm : 0 ≤ many ∧ many ≤ 4611686018427387904) : Cm (fun k => impl_areMembers.f k l many) (members many l) := by
  have hw : wrap64 (many - 1) = many - 1 := wrap_in (by omega) (by omega)
  unfold impl_areMembers.f
  have := all_cm (L := fun k i => impl_areMembers.l0 k l many l (l.length : Int) i) l (rises many) (fin := true) (no := false) ?_ ?_ ?_
  · exact cm_val this (if_self _)
  · intro pre h t e hlt hp v hv
    obtain ⟨⟨h0, h1⟩, h2⟩ := rises_yes hp
    refine cm_step (fun k => by rw [impl_areMembers.l0]) ?_
    simp only [rd_at e, wrap_len hlt hl, hw]
    refine cm_yes (by omega) (cm_yes (by omega) (cm_yes (by omega) (cm_bind (cm_now fun _ => in_f _ _ _) (cm_yes (by simp; omega) ?_))))
    rcases last_cases pre with rfl | ⟨q, hq⟩
    · exact cm_no (by simp) hv
    · obtain ⟨h3, h4⟩ := rd_last e hq
      have h5 := h2 q hq
      rw [wrap_less h3 (by omega), h4]
      repeat (first | assumption | exact cm_now (fun _ => rfl) | refine cm_yes (by first | omega | assumption | (simp; done) | (simp; omega)) ?_ | refine cm_no (by first | omega | assumption | (simp; done) | (simp; omega)) ?_)
  · intro pre h t e hlt hp
    refine cm_step (fun k => by rw [impl_areMembers.l0]) ?_
    simp only [rd_at e, wrap_len hlt hl, hw]
    refine cm_yes (by omega) (cm_yes (by omega) (cm_yes (by omega) (cm_bind (cm_now fun _ => in_f _ _ _) ?_)))
    refine cm_if (fun c0 => ?_) (fun _ => cm_now fun _ => rfl)
    simp only [decide_eq_true_eq] at c0
    obtain ⟨q, hq, h5⟩ := rises_no hp (by omega) (by omega)
    obtain ⟨h3, h4⟩ := rd_last e hq
    rw [wrap_less h3 (by omega), h4]
    repeat (first | assumption | exact cm_now (fun _ => rfl) | refine cm_yes (by first | omega | assumption | (simp; done) | (simp; omega)) ?_ | refine cm_no (by first | omega | assumption | (simp; done) | (simp; omega)) ?_)
  · intro _
    refine cm_step (fun k => by rw [impl_areMembers.l0]) ?_
    repeat (first | assumption | exact cm_now (fun _ => rfl) | refine cm_yes (by first | omega | assumption | (simp; done) | (simp; omega)) ?_ | refine cm_no (by first | omega | assumption | (simp; done) | (simp; omega)) ?_)
end Go.Proofs.Ytjngkfepppejeaa.Mem
end
section
namespace Go.Proofs.Ytjngkfepppejeaa.Hlp
open Go.RowKit Go.Proofs.Ytjngkfepppejeaa.P Go.Proofs.YtjngkfepppejeaaW.PrintWords Go.Proofs.YtjngkfepppejeaaW.PrintLast Go.Proofs.YtjngkfepppejeaaW.PrintMore
open Go.Proofs.Ytjngkfepppejeaa.Pl Go.Proofs.Ytjngkfepppejeaa.EvN Go.Proofs.Ytjngkfepppejeaa.Lp Go.Proofs.Ytjngkfepppejeaa.Pick Go.Proofs.Ytjngkfepppejeaa.Mem
set_option linter.unusedSimpArgs false
set_option linter.unusedVariables false
theorem sameInts_self (l : List Int) (hl : l.length ≤ 4611686018427387904) : Cm (fun k => laws_sameInts.f k l l) true := by
  unfold laws_sameInts.f
  refine cm_yes rfl ?_
  refine same_cm (L := fun k i => laws_sameInts.l0 k l l (l.length : Int) i) l ?_ ?_
  · intro pre h t e hlt v hv
    refine cm_step (fun k => by rw [laws_sameInts.l0]) ?_
    simp only [wrap_len hlt hl]
    exact cm_yes (by omega) (cm_yes (by omega) (cm_yes (by omega) (cm_yes (by omega) (cm_yes (by trivial) hv))))
  · refine cm_step (fun k => by rw [laws_sameInts.l0]) ?_
    exact cm_no (by omega) (cm_now fun _ => rfl)
theorem sameLists_self (l : List (List Int)) (hl : l.length ≤ 4611686018427387904) (hs : ∀ g ∈ l, g.length ≤ 4611686018427387904) : Cm (fun k => laws_sameLists.f k l l) true := by
  unfold laws_sameLists.f
  refine cm_yes rfl ?_
  refine same_cm (L := fun k i => laws_sameLists.l0 k l l (l.length : Int) i) l ?_ ?_
  · intro pre h t e hlt v hv
    have hg := hs h (by rw [← e]; simp)
    refine cm_step (fun k => by rw [laws_sameLists.l0]) ?_
    simp only [wrap_len hlt hl, l1_at e]
    exact cm_yes (by omega) (cm_yes (by omega) (cm_yes (by omega) (cm_yes (by omega) (cm_bind (sameInts_self h hg) (cm_yes rfl hv)))))
  · refine cm_step (fun k => by rw [laws_sameLists.l0]) ?_
    exact cm_no (by omega) (cm_now fun _ => rfl)
theorem lawHas_v (l : List Int) (x : Int) (hl : l.length ≤ 4611686018427387904) : Cm (fun k => laws_has.f k l x) (decide (x ∈ l)) := by
  unfold laws_has.f
  have := every_cm (L := fun k i => laws_has.l0 k x l (l.length : Int) i) l (fun y => !decide (y = x)) (fin := false) (no := true) ?_ ?_ ?_
  · refine cm_val this ?_
    by_cases c : x ∈ l
    · rw [if_neg, decide_eq_true c]
      rw [List.all_eq_true]
      intro h
      have := h x c
      simp at this
    · rw [if_pos, decide_eq_false c]
      rw [List.all_eq_true]
      intro y hy
      have : y ≠ x := fun e => c (e ▸ hy)
      simp [this]
  · intro pre h t e hlt hp v hv
    refine cm_step (fun k => by rw [laws_has.l0]) ?_
    simp only [wrap_len hlt hl, rd_at e]
    exact cm_yes (by omega) (cm_yes (by omega) (cm_yes (by omega) (cm_no (by simpa using hp) hv)))
  · intro pre h t e hlt hp
    refine cm_step (fun k => by rw [laws_has.l0]) ?_
    simp only [wrap_len hlt hl, rd_at e]
    exact cm_yes (by omega) (cm_yes (by omega) (cm_yes (by omega) (cm_yes (by simpa using hp) (cm_now fun _ => rfl))))
  · intro _
    refine cm_step (fun k => by rw [laws_has.l0]) ?_
    exact cm_no (by omega) (cm_now fun _ => rfl)
end Go.Proofs.Ytjngkfepppejeaa.Hlp
end
section
namespace Go.Proofs.Ytjngkfepppejeaa.Qs
open Go.RowKit Go.Proofs.Ytjngkfepppejeaa.P Go.Proofs.YtjngkfepppejeaaW.PrintWords Go.Proofs.YtjngkfepppejeaaW.PrintLast Go.Proofs.YtjngkfepppejeaaW.PrintMore
open Go.Proofs.Ytjngkfepppejeaa.Pl Go.Proofs.Ytjngkfepppejeaa.EvN Go.Proofs.Ytjngkfepppejeaa.Lp Go.Proofs.Ytjngkfepppejeaa.Sets Go.Proofs.Ytjngkfepppejeaa.Mem
set_option linter.unusedSimpArgs false
set_option linter.unusedVariables false
theorem meet_f (a b : List Int) (ha : a.length ≤ 4611686018427387904) (hb : b.length ≤ 4611686018427387904) : Cm (fun k => spec_l6Meet.f k a b) (meet a b) := by
  unfold spec_l6Meet.f
  have := every_cm (L := fun k i => spec_l6Meet.l0 k b a (a.length : Int) i) a (fun x => decide (x ∉ b)) (fin := false) (no := true) ?_ ?_ ?_
  · refine cm_val this ?_
    unfold meet
    by_cases c : ∃ x ∈ a, x ∈ b
    · obtain ⟨x, h1, h2⟩ := c
      have h3 : a.any (fun x => decide (x ∈ b)) = true := by simp; exact ⟨x, h1, h2⟩
      have h4 : a.all (fun x => decide (x ∉ b)) = false := by simp; exact ⟨x, h1, h2⟩
      rw [h3, h4]; rfl
    · have h3 : a.any (fun x => decide (x ∈ b)) = false := by simp; intro x h1 h2; exact c ⟨x, h1, h2⟩
      have h4 : a.all (fun x => decide (x ∉ b)) = true := by simp; intro x h1 h2; exact c ⟨x, h1, h2⟩
      rw [h3, h4]; rfl
  · intro pre h t e hlt hp v hv
    simp only [decide_eq_true_eq] at hp
    refine cm_step (fun k => by rw [spec_l6Meet.l0]) ?_
    simp only [rd_at e, wrap_len hlt ha]
    repeat (first | assumption | exact cm_now (fun _ => rfl) | refine cm_bind (has_f _ _ hb) ?_ | refine cm_yes (by first | omega | assumption | (simp; done) | (simp; omega) | exact (by simpa using hp)) ?_ | refine cm_no (by first | omega | assumption | (simp; done) | (simp; omega) | exact (by simpa using hp)) ?_)
  · intro pre h t e hlt hp
    simp only [decide_eq_false_iff_not, Decidable.not_not] at hp
    refine cm_step (fun k => by rw [spec_l6Meet.l0]) ?_
    simp only [rd_at e, wrap_len hlt ha]
    repeat (first | assumption | exact cm_now (fun _ => rfl) | refine cm_bind (has_f _ _ hb) ?_ | refine cm_yes (by first | omega | assumption | (simp; done) | (simp; omega) | exact (by simpa using hp)) ?_ | refine cm_no (by first | omega | assumption | (simp; done) | (simp; omega) | exact (by simpa using hp)) ?_)
  · intro _
    refine cm_step (fun k => by rw [spec_l6Meet.l0]) ?_
    repeat (first | assumption | exact cm_now (fun _ => rfl) | refine cm_yes (by first | omega | assumption | (simp; done) | (simp; omega)) ?_ | refine cm_no (by first | omega | assumption | (simp; done) | (simp; omega)) ?_)
theorem groups_f (l : List (List Int)) (many : Int) (hl : l.length ≤ 4611686018427387904) (hs : ∀ g ∈ l, g.length ≤ 4611686018427387904) : Cm (fun k => spec_l6Groups.f k l many) (groups many l) := by
  unfold spec_l6Groups.f
  have := every_cm (L := fun k i => spec_l6Groups.l0 k l many l (l.length : Int) i) l (fun g => decide (g.length ≠ 0) && members many g) (fin := decide (l.length ≤ 40)) (no := false) ?_ ?_ ?_
  · refine cm_val this ?_
    unfold groups
    cases l.all fun g => decide (g.length ≠ 0) && members many g <;> simp
  · intro pre h t e hlt hp v hv
    have hg := hs h (by rw [← e]; simp)
    simp only [Bool.and_eq_true, decide_eq_true_eq] at hp
    refine cm_step (fun k => by rw [spec_l6Groups.l0]) ?_
    simp only [l1_at e, wrap_len hlt hl]
    repeat (first | assumption | exact cm_now (fun _ => rfl) | refine cm_bind (group_f _ _ hg) ?_ | refine cm_yes (by first | omega | assumption | (simp; done) | (simp; omega) | exact hp.2) ?_ | refine cm_no (by first | omega | assumption | (simp; done) | (simp; omega) | exact hp.2) ?_)
  · intro pre h t e hlt hp
    have hg := hs h (by rw [← e]; simp)
    refine cm_step (fun k => by rw [spec_l6Groups.l0]) ?_
    simp only [l1_at e, wrap_len hlt hl]
    refine cm_yes (by omega) (cm_yes (by omega) (cm_yes (by omega) ?_))
    refine cm_if (fun _ => cm_now fun _ => rfl) (fun c => cm_bind (group_f _ _ hg) (cm_no ?_ (cm_now fun _ => rfl)))
    have c2 : h.length ≠ 0 := by omega
    simpa [c2] using hp
  · intro _
    refine cm_step (fun k => by rw [spec_l6Groups.l0]) ?_
    refine cm_no (by omega) (cm_now fun _ => ?_)
    congr 1
    rw [decide_eq_decide]
    omega
theorem anyG_index (a : Int) (l : List (List Int)) (hl : l.length ≤ 4611686018427387904) (p : (List Int) → Bool) (hc : ∀ h ∈ l, Cm (fun k => impl_areGroups_1.f k h a) (p h)) :
    Cm (fun k => slices_IndexFunc_int_int_of_impl_areGroups_1.f k l a) (foundAt p (fun i _ => (i : Int)) (-1) 0 l) := by
  unfold slices_IndexFunc_int_int_of_impl_areGroups_1.f
  refine find_cm (L := fun k i => slices_IndexFunc_int_int_of_impl_areGroups_1.l0 k l (l.length : Int) i a) l p (fun i _ => (i : Int)) (none_ := (-1 : Int)) ?_ ?_ ?_
  · intro pre h t e hlt hp v hv
    refine cm_step (fun k => by rw [slices_IndexFunc_int_int_of_impl_areGroups_1.l0]) ?_
    simp only [l1_at e, wrap_len hlt hl]
    refine cm_yes (by omega) (cm_yes (by omega) (cm_yes (by omega) (cm_bind (hc h (by rw [← e]; simp)) ?_)))
    exact cm_no (by simpa using hp) hv
  · intro pre h t e hlt hp
    refine cm_step (fun k => by rw [slices_IndexFunc_int_int_of_impl_areGroups_1.l0]) ?_
    simp only [l1_at e, wrap_len hlt hl]
    refine cm_yes (by omega) (cm_yes (by omega) (cm_yes (by omega) (cm_bind (hc h (by rw [← e]; simp)) ?_)))
    exact cm_yes hp (cm_now fun _ => rfl)
  · refine cm_step (fun k => by rw [slices_IndexFunc_int_int_of_impl_areGroups_1.l0]) ?_
    exact cm_no (by omega) (cm_now fun _ => rfl)
theorem anyG (a : Int) (l : List (List Int)) (hl : l.length ≤ 4611686018427387904) (p : (List Int) → Bool) (hc : ∀ h ∈ l, Cm (fun k => impl_areGroups_1.f k h a) (p h)) : Cm (fun k => slices_ContainsFunc_int_int_of_impl_areGroups_1.f k l a) (l.any p) := by
  unfold slices_ContainsFunc_int_int_of_impl_areGroups_1.f
  refine cm_bind (anyG_index a l hl p hc) (cm_now fun _ => ?_)
  rw [found_any]
theorem areGroups_f (l : List (List Int)) (many : Int) (hl : l.length ≤ 4611686018427387904) (hs : ∀ g ∈ l, g.length ≤ 4611686018427387904) (hm : 0 ≤ many ∧ many ≤ 4611686018427387904) : Cm (fun k => impl_areGroups.f k l many) (groups many l) := by
  unfold impl_areGroups.f
  by_cases c : l.length ≤ 40
  · refine cm_yes (by omega) (cm_bind (anyG many l hl (fun g => !(decide (g.length ≠ 0) && members many g)) (fun g hg => ?_)) (cm_now fun _ => ?_))
    · unfold impl_areGroups_1.f
      by_cases c0 : g.length = 0
      · exact cm_yes (by omega) (cm_now fun _ => by simp [c0])
      · exact cm_no (by omega) (cm_bind (areMembers_f g many (hs g hg) hm) (cm_now fun _ => by simp [c0]))
    · rw [not_any _ (fun g => decide (g.length ≠ 0) && members many g) l (fun _ _ => rfl)]
      simp [groups, c]
  · refine cm_no (by omega) (cm_now fun _ => ?_)
    simp [groups, c]
end Go.Proofs.Ytjngkfepppejeaa.Qs
end
section
namespace Go.Proofs.Ytjngkfepppejeaa.Qs
open Go.RowKit Go.Proofs.Ytjngkfepppejeaa.P Go.Proofs.YtjngkfepppejeaaW.PrintWords Go.Proofs.YtjngkfepppejeaaW.PrintLast Go.Proofs.YtjngkfepppejeaaW.PrintMore
open Go.Proofs.Ytjngkfepppejeaa.Pl Go.Proofs.Ytjngkfepppejeaa.EvN Go.Proofs.Ytjngkfepppejeaa.Lp Go.Proofs.Ytjngkfepppejeaa.Sets Go.Proofs.Ytjngkfepppejeaa.Mem
set_option linter.unusedSimpArgs false
set_option linter.unusedVariables false
def Fits (l : List Int) : Prop := l.length ≤ 4611686018427387904 ∧ ∀ x ∈ l, 0 ≤ x ∧ x < 62
theorem Fits.pos {l : List Int} (h : Fits l) : ∀ x ∈ l, 0 ≤ x := fun x hx => (h.2 x hx).1
theorem Fits.lt {l : List Int} (h : Fits l) : maskN l < 9223372036854775808 := by
  have := mask_lt 62 l (fun x hx => by have := h.2 x hx; omega)
  omega
theorem maskOf_f (l : List Int) (h : Fits l) : Cm (fun k => impl_maskOf.f k l) ((maskN l : Nat) : Int) := by
  unfold impl_maskOf.f
  refine fold_cm (L := fun k i s => impl_maskOf.l0 k s l (l.length : Int) i) l (fun s m => ((s.toNat ||| 2 ^ m.toNat : Nat) : Int)) (fun pre s => s = ((maskN pre : Nat) : Int)) 0 rfl ?_ ?_
  · intro pre x t s e hlt hi
    have hx := h.2 x (by rw [← e]; simp)
    subst hi
    have hb : maskN pre < 2 ^ 62 := mask_lt 62 pre (fun y hy => by have := h.2 y (by rw [← e]; simp [hy]); omega)
    have hp : 2 ^ x.toNat < 2 ^ 62 := Nat.pow_lt_pow_right (by omega) (by omega)
    refine ⟨by simp [maskN], fun u hu => ?_⟩
    refine cm_step (fun k => by rw [impl_maskOf.l0]) ?_
    simp only [rd_at e, wrap_len hlt h.1, shl_one hx.1 hx.2]
    rw [or_i64 _ _ (by omega) (by omega)]
    repeat (first | assumption | exact cm_now (fun _ => rfl) | refine cm_yes (by first | omega | assumption | (simp; done) | (simp; omega)) ?_ | refine cm_no (by first | omega | assumption | (simp; done) | (simp; omega)) ?_)
  · intro hi
    rw [hi]
    refine cm_step (fun k => by rw [impl_maskOf.l0]) ?_
    repeat (first | assumption | exact cm_now (fun _ => rfl) | refine cm_yes (by first | omega | assumption | (simp; done) | (simp; omega)) ?_ | refine cm_no (by first | omega | assumption | (simp; done) | (simp; omega)) ?_)
def allMeet (l : List (List Int)) : Bool := okFrom (fun pre a => pre.all (fun b => meet a b)) [] l
def noneHas (l : List (List Int)) : Bool := okFrom (fun pre a => okFrom (fun pre2 b => decide (pre.length = pre2.length) || !hasAll a b) [] l) [] l
def coterie (l : List (List Int)) : Bool := noneHas l && allMeet l
def each (a b : List (List Int)) : Bool := b.all (fun g => a.any (fun h => hasAll g h))
def Fit2 (l : List (List Int)) : Prop := l.length ≤ 4611686018427387904 ∧ ∀ g ∈ l, Fits g
theorem l6All_l1 (l : List (List Int)) (hl : Fit2 l) (pre : List (List Int)) (a : List Int) (t : List (List Int)) (v : Bool) (e : pre ++ a :: t = l) (hv : pre.all (fun b => meet a b) = true → Cm (fun k => spec_l6All.l0 k l l (l.length : Int) (wrap64 ((pre.length : Int) + 1))) v) :
    Cm (fun k => spec_l6All.l1 k l a l (l.length : Int) (pre.length : Int) pre (pre.length : Int) 0) (if pre.all (fun b => meet a b) = true then v else false) := by
  have h1 := (hl.2 a (by rw [← e]; simp)).1
  have h2 : ∀ b ∈ pre, b.length ≤ 4611686018427387904 := fun b hb => (hl.2 b (by rw [← e]; simp [hb])).1
  have h4 := len_mid e
  have h5 := hl.1
  refine every_cm (L := fun k i => spec_l6All.l1 k l a l (l.length : Int) (pre.length : Int) pre (pre.length : Int) i) pre (fun b => meet a b) ?_ ?_ ?_
  · intro pre2 b t2 e2 hlt2 hp2 v2 hv2
    have h3 := h2 b (by rw [← e2]; simp)
    refine cm_step (fun k => by rw [spec_l6All.l1]) ?_
    simp only [l1_at e2, wrap_len (n := pre2.length) (m := pre.length) hlt2 (by omega)]
    repeat (first | assumption | exact cm_now (fun _ => rfl) | refine cm_bind (meet_f _ _ h1 h3) ?_ | refine cm_yes (by first | omega | assumption | (simp; done) | (simp; omega) | exact hp2) ?_ | refine cm_no (by first | omega | assumption | (simp; done) | (simp; omega) | exact hp2) ?_)
  · intro pre2 b t2 e2 hlt2 hp2
    have h3 := h2 b (by rw [← e2]; simp)
    refine cm_step (fun k => by rw [spec_l6All.l1]) ?_
    simp only [l1_at e2, wrap_len (n := pre2.length) (m := pre.length) hlt2 (by omega)]
    repeat (first | assumption | exact cm_now (fun _ => rfl) | refine cm_bind (meet_f _ _ h1 h3) ?_ | refine cm_yes (by first | omega | assumption | (simp; done) | (simp; omega) | exact (by simpa using hp2)) ?_ | refine cm_no (by first | omega | assumption | (simp; done) | (simp; omega) | exact (by simpa using hp2)) ?_)
  · intro hp
    have hv2 := hv hp
    refine cm_step (fun k => by rw [spec_l6All.l1]) ?_
    repeat (first | assumption | exact cm_now (fun _ => rfl) | refine cm_yes (by first | omega | assumption | (simp; done) | (simp; omega)) ?_ | refine cm_no (by first | omega | assumption | (simp; done) | (simp; omega)) ?_)
theorem l6All_f (l : List (List Int)) (hl : Fit2 l) : Cm (fun k => spec_l6All.f k l) (allMeet l) := by
  unfold spec_l6All.f
  have := all_cm (L := fun k i => spec_l6All.l0 k l l (l.length : Int) i) l (fun pre a => pre.all (fun b => meet a b)) (fin := true) (no := false) ?_ ?_ ?_
  · exact cm_val this (if_self _)
  · intro pre a t e hlt hp v hv
    have := l6All_l1 l hl pre a t v e (fun _ => by rw [wrap_len hlt hl.1]; exact hv)
    rw [if_pos hp] at this
    refine cm_step (fun k => by rw [spec_l6All.l0]) ?_
    simp only [l1_at e, take_at e]
    exact cm_yes (by omega) (cm_yes (by omega) (cm_yes (by omega) (cm_yes (by omega) (cm_bind (cm_now fun _ => rfl) this))))
  · intro pre a t e hlt hp
    have := l6All_l1 l hl pre a t false e (fun c => by rw [c] at hp; cases hp)
    rw [hp] at this
    refine cm_step (fun k => by rw [spec_l6All.l0]) ?_
    simp only [l1_at e, take_at e]
    exact cm_yes (by omega) (cm_yes (by omega) (cm_yes (by omega) (cm_yes (by omega) (cm_bind (cm_now fun _ => rfl) this))))
  · intro _
    refine cm_step (fun k => by rw [spec_l6All.l0]) ?_
    repeat (first | assumption | exact cm_now (fun _ => rfl) | refine cm_yes (by first | omega | assumption | (simp; done) | (simp; omega)) ?_ | refine cm_no (by first | omega | assumption | (simp; done) | (simp; omega)) ?_)
theorem allMeet_l1 (l : List (List Int)) (hl : Fit2 l) (pre : List (List Int)) (a : List Int) (t : List (List Int)) (v : Bool) (e : pre ++ a :: t = l) (hv : pre.all (fun b => meet a b) = true → Cm (fun k => impl_allMeet.l0 k l l (l.length : Int) (wrap64 ((pre.length : Int) + 1))) v) :
    Cm (fun k => impl_allMeet.l1 k l a l (l.length : Int) (pre.length : Int) pre (pre.length : Int) 0) (if pre.all (fun b => meet a b) = true then v else false) := by
  have h1 := hl.2 a (by rw [← e]; simp)
  have h2 : ∀ b ∈ pre, Fits b := fun b hb => hl.2 b (by rw [← e]; simp [hb])
  have h4 := len_mid e
  have h5 := hl.1
  refine every_cm (L := fun k i => impl_allMeet.l1 k l a l (l.length : Int) (pre.length : Int) pre (pre.length : Int) i) pre (fun b => meet a b) ?_ ?_ ?_
  · intro pre2 b t2 e2 hlt2 hp2 v2 hv2
    have h3 := h2 b (by rw [← e2]; simp)
    rw [meet_mask a b h1.pos h3.pos] at hp2
    refine cm_step (fun k => by rw [impl_allMeet.l1]) ?_
    simp only [l1_at e2, wrap_len (n := pre2.length) (m := pre.length) hlt2 (by omega)]
    refine cm_yes (by omega) (cm_yes (by omega) (cm_yes (by omega) (cm_bind (maskOf_f a h1) (cm_bind (maskOf_f b h3) ?_))))
    rw [and_i64 _ _ h1.lt h3.lt]
    repeat (first | assumption | exact cm_now (fun _ => rfl) | refine cm_yes (by first | omega | assumption | (simp; done) | (simp; omega)) ?_ | refine cm_no (by first | omega | assumption | (simp; done) | (simp; omega)) ?_)
  · intro pre2 b t2 e2 hlt2 hp2
    have h3 := h2 b (by rw [← e2]; simp)
    have hp3 : maskN a &&& maskN b = 0 := by
      by_cases c : maskN a &&& maskN b = 0
      · exact c
      · rw [(meet_mask a b h1.pos h3.pos).2 c] at hp2; cases hp2
    refine cm_step (fun k => by rw [impl_allMeet.l1]) ?_
    simp only [l1_at e2, wrap_len (n := pre2.length) (m := pre.length) hlt2 (by omega)]
    refine cm_yes (by omega) (cm_yes (by omega) (cm_yes (by omega) (cm_bind (maskOf_f a h1) (cm_bind (maskOf_f b h3) ?_))))
    rw [and_i64 _ _ h1.lt h3.lt]
    repeat (first | assumption | exact cm_now (fun _ => rfl) | refine cm_yes (by first | omega | assumption | (simp; done) | (simp; omega)) ?_ | refine cm_no (by first | omega | assumption | (simp; done) | (simp; omega)) ?_)
  · intro hp
    have hv2 := hv hp
    refine cm_step (fun k => by rw [impl_allMeet.l1]) ?_
    repeat (first | assumption | exact cm_now (fun _ => rfl) | refine cm_yes (by first | omega | assumption | (simp; done) | (simp; omega)) ?_ | refine cm_no (by first | omega | assumption | (simp; done) | (simp; omega)) ?_)
theorem allMeet_f (l : List (List Int)) (hl : Fit2 l) : Cm (fun k => impl_allMeet.f k l) (allMeet l) := by
  unfold impl_allMeet.f
  have := all_cm (L := fun k i => impl_allMeet.l0 k l l (l.length : Int) i) l (fun pre a => pre.all (fun b => meet a b)) (fin := true) (no := false) ?_ ?_ ?_
  · exact cm_val this (if_self _)
  · intro pre a t e hlt hp v hv
    have := allMeet_l1 l hl pre a t v e (fun _ => by rw [wrap_len hlt hl.1]; exact hv)
    rw [if_pos hp] at this
    refine cm_step (fun k => by rw [impl_allMeet.l0]) ?_
    simp only [l1_at e, take_at e]
    exact cm_yes (by omega) (cm_yes (by omega) (cm_yes (by omega) (cm_yes (by omega) (cm_bind (cm_now fun _ => rfl) this))))
  · intro pre a t e hlt hp
    have := allMeet_l1 l hl pre a t false e (fun c => by rw [c] at hp; cases hp)
    rw [hp] at this
    refine cm_step (fun k => by rw [impl_allMeet.l0]) ?_
    simp only [l1_at e, take_at e]
    exact cm_yes (by omega) (cm_yes (by omega) (cm_yes (by omega) (cm_yes (by omega) (cm_bind (cm_now fun _ => rfl) this))))
  · intro _
    refine cm_step (fun k => by rw [impl_allMeet.l0]) ?_
    repeat (first | assumption | exact cm_now (fun _ => rfl) | refine cm_yes (by first | omega | assumption | (simp; done) | (simp; omega)) ?_ | refine cm_no (by first | omega | assumption | (simp; done) | (simp; omega)) ?_)
theorem l6Coterie_l1 (l : List (List Int)) (hl : Fit2 l) (pre : List (List Int)) (a : List Int) (t : List (List Int)) (v : Bool) (e : pre ++ a :: t = l)
    (hv : okFrom (fun pre2 b => decide (pre.length = pre2.length) || !hasAll a b) [] l = true → Cm (fun k => spec_l6Coterie.l0 k l l (l.length : Int) (wrap64 ((pre.length : Int) + 1))) v) :
    Cm (fun k => spec_l6Coterie.l1 k l (pre.length : Int) a l (l.length : Int) (pre.length : Int) l (l.length : Int) 0) (if okFrom (fun pre2 b => decide (pre.length = pre2.length) || !hasAll a b) [] l = true then v else false) := by
  have h1 := hl.2 a (by rw [← e]; simp)
  refine all_cm (L := fun k i => spec_l6Coterie.l1 k l (pre.length : Int) a l (l.length : Int) (pre.length : Int) l (l.length : Int) i) l (fun pre2 b => decide (pre.length = pre2.length) || !hasAll a b) ?_ ?_ ?_
  · intro pre2 b t2 e2 hlt2 hp2 v2 hv2
    have h3 := hl.2 b (by rw [← e2]; simp)
    simp only [Bool.or_eq_true, decide_eq_true_eq] at hp2
    refine cm_step (fun k => by rw [spec_l6Coterie.l1]) ?_
    simp only [l1_at e2, wrap_len hlt2 hl.1]
    refine cm_yes (by omega) (cm_yes (by omega) (cm_yes (by omega) (cm_if (fun _ => hv2) (fun c => cm_bind (hasAll_f a b h1.1 h3.1) (cm_no ?_ hv2)))))
    rcases hp2 with hp2 | hp2
    · omega
    · simpa using hp2
  · intro pre2 b t2 e2 hlt2 hp2
    have h3 := hl.2 b (by rw [← e2]; simp)
    simp only [Bool.or_eq_false_iff, decide_eq_false_iff_not, Bool.not_eq_false'] at hp2
    obtain ⟨hp3, hp4⟩ := hp2
    refine cm_step (fun k => by rw [spec_l6Coterie.l1]) ?_
    simp only [l1_at e2, wrap_len hlt2 hl.1]
    repeat (first | assumption | exact cm_now (fun _ => rfl) | refine cm_bind (hasAll_f a b h1.1 h3.1) ?_ | refine cm_yes (by first | omega | assumption | (simp; done) | (simp; omega)) ?_ | refine cm_no (by first | omega | assumption | (simp; done) | (simp; omega)) ?_)
  · intro hp
    have hv2 := hv hp
    refine cm_step (fun k => by rw [spec_l6Coterie.l1]) ?_
    repeat (first | assumption | exact cm_now (fun _ => rfl) | refine cm_yes (by first | omega | assumption | (simp; done) | (simp; omega)) ?_ | refine cm_no (by first | omega | assumption | (simp; done) | (simp; omega)) ?_)
theorem l6Coterie_f (l : List (List Int)) (hl : Fit2 l) : Cm (fun k => spec_l6Coterie.f k l) (coterie l) := by
  unfold spec_l6Coterie.f
  have := all_cm (L := fun k i => spec_l6Coterie.l0 k l l (l.length : Int) i) l (fun pre a => okFrom (fun pre2 b => decide (pre.length = pre2.length) || !hasAll a b) [] l) (fin := allMeet l) (no := false) ?_ ?_ ?_
  · refine cm_val this ?_
    unfold coterie noneHas
    cases okFrom (fun pre a => okFrom (fun pre2 b => decide (pre.length = pre2.length) || !hasAll a b) [] l) [] l <;> simp
  · intro pre a t e hlt hp v hv
    have := l6Coterie_l1 l hl pre a t v e (fun _ => by rw [wrap_len hlt hl.1]; exact hv)
    rw [if_pos hp] at this
    refine cm_step (fun k => by rw [spec_l6Coterie.l0]) ?_
    simp only [l1_at e]
    repeat (first | assumption | exact cm_now (fun _ => rfl) | refine cm_yes (by first | omega | assumption | (simp; done) | (simp; omega)) ?_ | refine cm_no (by first | omega | assumption | (simp; done) | (simp; omega)) ?_)
  · intro pre a t e hlt hp
    have := l6Coterie_l1 l hl pre a t false e (fun c => by rw [c] at hp; cases hp)
    rw [hp] at this
    refine cm_step (fun k => by rw [spec_l6Coterie.l0]) ?_
    simp only [l1_at e]
    repeat (first | assumption | exact cm_now (fun _ => rfl) | refine cm_yes (by first | omega | assumption | (simp; done) | (simp; omega)) ?_ | refine cm_no (by first | omega | assumption | (simp; done) | (simp; omega)) ?_)
  · intro _
    refine cm_step (fun k => by rw [spec_l6Coterie.l0]) ?_
    repeat (first | assumption | exact cm_now (fun _ => rfl) | refine cm_bind (l6All_f l hl) ?_ | refine cm_yes (by first | omega | assumption | (simp; done) | (simp; omega)) ?_ | refine cm_no (by first | omega | assumption | (simp; done) | (simp; omega)) ?_)
theorem isCoterie_l1 (l : List (List Int)) (hl : Fit2 l) (pre : List (List Int)) (a : List Int) (t : List (List Int)) (v : Bool) (e : pre ++ a :: t = l)
    (hv : okFrom (fun pre2 b => decide (pre.length = pre2.length) || !hasAll a b) [] l = true → Cm (fun k => impl_isCoterie.l0 k l l (l.length : Int) (wrap64 ((pre.length : Int) + 1))) v) :
    Cm (fun k => impl_isCoterie.l1 k l (pre.length : Int) a l (l.length : Int) (pre.length : Int) l (l.length : Int) 0) (if okFrom (fun pre2 b => decide (pre.length = pre2.length) || !hasAll a b) [] l = true then v else false) := by
  have h1 := hl.2 a (by rw [← e]; simp)
  refine all_cm (L := fun k i => impl_isCoterie.l1 k l (pre.length : Int) a l (l.length : Int) (pre.length : Int) l (l.length : Int) i) l (fun pre2 b => decide (pre.length = pre2.length) || !hasAll a b) ?_ ?_ ?_
  · intro pre2 b t2 e2 hlt2 hp2 v2 hv2
    have h3 := hl.2 b (by rw [← e2]; simp)
    simp only [Bool.or_eq_true, decide_eq_true_eq] at hp2
    refine cm_step (fun k => by rw [impl_isCoterie.l1]) ?_
    simp only [l1_at e2, wrap_len hlt2 hl.1]
    refine cm_yes (by omega) (cm_yes (by omega) (cm_yes (by omega) (cm_if (fun _ => hv2) (fun c => cm_bind (maskOf_f a h1) (cm_bind (maskOf_f b h3) ?_)))))
    rw [and_i64 _ _ h1.lt h3.lt]
    refine cm_no ?_ hv2
    rcases hp2 with hp2 | hp2
    · omega
    · intro c2
      rw [(has_mask a b h1.pos h3.pos).2 (by omega)] at hp2
      cases hp2
  · intro pre2 b t2 e2 hlt2 hp2
    have h3 := hl.2 b (by rw [← e2]; simp)
    simp only [Bool.or_eq_false_iff, decide_eq_false_iff_not, Bool.not_eq_false'] at hp2
    obtain ⟨hp3, hp4⟩ := hp2
    rw [has_mask a b h1.pos h3.pos] at hp4
    refine cm_step (fun k => by rw [impl_isCoterie.l1]) ?_
    simp only [l1_at e2, wrap_len hlt2 hl.1]
    refine cm_yes (by omega) (cm_yes (by omega) (cm_yes (by omega) (cm_no (by omega) (cm_bind (maskOf_f a h1) (cm_bind (maskOf_f b h3) ?_)))))
    rw [and_i64 _ _ h1.lt h3.lt]
    repeat (first | assumption | exact cm_now (fun _ => rfl) | refine cm_yes (by first | omega | assumption | (simp; done) | (simp; omega)) ?_ | refine cm_no (by first | omega | assumption | (simp; done) | (simp; omega)) ?_)
  · intro hp
    have hv2 := hv hp
    refine cm_step (fun k => by rw [impl_isCoterie.l1]) ?_
    repeat (first | assumption | exact cm_now (fun _ => rfl) | refine cm_yes (by first | omega | assumption | (simp; done) | (simp; omega)) ?_ | refine cm_no (by first | omega | assumption | (simp; done) | (simp; omega)) ?_)
theorem isCoterie_f (l : List (List Int)) (hl : Fit2 l) : Cm (fun k => impl_isCoterie.f k l) (coterie l) := by
  unfold impl_isCoterie.f
  have := all_cm (L := fun k i => impl_isCoterie.l0 k l l (l.length : Int) i) l (fun pre a => okFrom (fun pre2 b => decide (pre.length = pre2.length) || !hasAll a b) [] l) (fin := allMeet l) (no := false) ?_ ?_ ?_
  · refine cm_val this ?_
    unfold coterie noneHas
    cases okFrom (fun pre a => okFrom (fun pre2 b => decide (pre.length = pre2.length) || !hasAll a b) [] l) [] l <;> simp
  · intro pre a t e hlt hp v hv
    have := isCoterie_l1 l hl pre a t v e (fun _ => by rw [wrap_len hlt hl.1]; exact hv)
    rw [if_pos hp] at this
    refine cm_step (fun k => by rw [impl_isCoterie.l0]) ?_
    simp only [l1_at e]
    repeat (first | assumption | exact cm_now (fun _ => rfl) | refine cm_yes (by first | omega | assumption | (simp; done) | (simp; omega)) ?_ | refine cm_no (by first | omega | assumption | (simp; done) | (simp; omega)) ?_)
  · intro pre a t e hlt hp
    have := isCoterie_l1 l hl pre a t false e (fun c => by rw [c] at hp; cases hp)
    rw [hp] at this
    refine cm_step (fun k => by rw [impl_isCoterie.l0]) ?_
    simp only [l1_at e]
    repeat (first | assumption | exact cm_now (fun _ => rfl) | refine cm_yes (by first | omega | assumption | (simp; done) | (simp; omega)) ?_ | refine cm_no (by first | omega | assumption | (simp; done) | (simp; omega)) ?_)
  · intro _
    refine cm_step (fun k => by rw [impl_isCoterie.l0]) ?_
    repeat (first | assumption | exact cm_now (fun _ => rfl) | refine cm_bind (allMeet_f l hl) ?_ | refine cm_yes (by first | omega | assumption | (simp; done) | (simp; omega)) ?_ | refine cm_no (by first | omega | assumption | (simp; done) | (simp; omega)) ?_)
theorem l6Each_l1 (a b : List (List Int)) (ha : Fit2 a) (g : List Int) (hg : Fits g) (i : Int) (v : Bool) (hv : a.any (fun h => hasAll g h) = true → Cm (fun k => spec_l6Each.l0 k a b (b.length : Int) (wrap64 (i + 1))) v) :
    ∀ (rest pre : List (List Int)) (found : Bool), pre ++ rest = a → found = pre.any (fun h => hasAll g h) →
    Cm (fun k => spec_l6Each.l1 k a g found b (b.length : Int) i a (a.length : Int) (pre.length : Int)) (if a.any (fun h => hasAll g h) = true then v else false) := by
  intro rest pre found e hf
  refine loop_cm (L := fun k i2 s => spec_l6Each.l1 k a g s b (b.length : Int) i a (a.length : Int) i2) a (fun _ _ _ => if a.any (fun h => hasAll g h) = true then v else false) (fun pre s => s = pre.any (fun h => hasAll g h)) ?_ ?_ rest pre found e hf
  · intro s hs
    subst hs
    refine cm_step (fun k => by rw [spec_l6Each.l1]) ?_
    refine cm_no (by omega) (cm_if (fun c => ?_) (fun c => ?_))
    · rw [if_pos c]; exact hv c
    · rw [if_neg c]; exact cm_now fun _ => rfl
  · intro pre2 h t s e2 hlt hs hn
    have h3 := ha.2 h (by rw [← e2]; simp)
    refine cm_step (fun k => by rw [spec_l6Each.l1]) ?_
    simp only [l1_at e2, wrap_len hlt ha.1]
    refine cm_yes (by omega) (cm_yes (by omega) (cm_yes (by omega) (cm_if (fun c => ?_) (fun c => cm_bind (hasAll_f g h hg.1 h3.1) ?_))))
    · exact hn true (by rw [List.any_append, ← hs, c]; rfl)
    · refine hn (hasAll g h) ?_
      have : s = false := by simpa using c
      rw [List.any_append, ← hs, this]
      simp
theorem l6Each_f (a b : List (List Int)) (ha : Fit2 a) (hb : Fit2 b) : Cm (fun k => spec_l6Each.f k a b) (each a b) := by
  unfold spec_l6Each.f
  have := every_cm (L := fun k i => spec_l6Each.l0 k a b (b.length : Int) i) b (fun g => a.any (fun h => hasAll g h)) (fin := true) (no := false) ?_ ?_ ?_
  · exact cm_val this (if_self _)
  · intro pre g t e hlt hp v hv
    have hg := hb.2 g (by rw [← e]; simp)
    have := l6Each_l1 a b ha g hg (pre.length : Int) v (fun _ => by rw [wrap_len hlt hb.1]; exact hv) a [] false rfl rfl
    rw [if_pos hp] at this
    refine cm_step (fun k => by rw [spec_l6Each.l0]) ?_
    simp only [l1_at e]
    repeat (first | assumption | exact cm_now (fun _ => rfl) | refine cm_yes (by first | omega | assumption | (simp; done) | (simp; omega)) ?_ | refine cm_no (by first | omega | assumption | (simp; done) | (simp; omega)) ?_)
  · intro pre g t e hlt hp
    have hg := hb.2 g (by rw [← e]; simp)
    have := l6Each_l1 a b ha g hg (pre.length : Int) false (fun c => by rw [c] at hp; cases hp) a [] false rfl rfl
    rw [hp] at this
    refine cm_step (fun k => by rw [spec_l6Each.l0]) ?_
    simp only [l1_at e]
    repeat (first | assumption | exact cm_now (fun _ => rfl) | refine cm_yes (by first | omega | assumption | (simp; done) | (simp; omega)) ?_ | refine cm_no (by first | omega | assumption | (simp; done) | (simp; omega)) ?_)
  · intro _
    refine cm_step (fun k => by rw [spec_l6Each.l0]) ?_
    repeat (first | assumption | exact cm_now (fun _ => rfl) | refine cm_yes (by first | omega | assumption | (simp; done) | (simp; omega)) ?_ | refine cm_no (by first | omega | assumption | (simp; done) | (simp; omega)) ?_)
theorem anyC2_index (g : List Int) (l : List (List Int)) (hl : l.length ≤ 4611686018427387904) (p : (List Int) → Bool) (hc : ∀ h ∈ l, Cm (fun k => impl_allCover_1_1.f k h g) (p h)) :
    Cm (fun k => slices_IndexFunc_int_int_of_impl_allCover_1_1.f k l g) (foundAt p (fun i _ => (i : Int)) (-1) 0 l) := by
  unfold slices_IndexFunc_int_int_of_impl_allCover_1_1.f
  refine find_cm (L := fun k i => slices_IndexFunc_int_int_of_impl_allCover_1_1.l0 k l (l.length : Int) i g) l p (fun i _ => (i : Int)) (none_ := (-1 : Int)) ?_ ?_ ?_
  · intro pre h t e hlt hp v hv
    refine cm_step (fun k => by rw [slices_IndexFunc_int_int_of_impl_allCover_1_1.l0]) ?_
    simp only [l1_at e, wrap_len hlt hl]
    refine cm_yes (by omega) (cm_yes (by omega) (cm_yes (by omega) (cm_bind (hc h (by rw [← e]; simp)) ?_)))
    exact cm_no (by simpa using hp) hv
  · intro pre h t e hlt hp
    refine cm_step (fun k => by rw [slices_IndexFunc_int_int_of_impl_allCover_1_1.l0]) ?_
    simp only [l1_at e, wrap_len hlt hl]
    refine cm_yes (by omega) (cm_yes (by omega) (cm_yes (by omega) (cm_bind (hc h (by rw [← e]; simp)) ?_)))
    exact cm_yes hp (cm_now fun _ => rfl)
  · refine cm_step (fun k => by rw [slices_IndexFunc_int_int_of_impl_allCover_1_1.l0]) ?_
    exact cm_no (by omega) (cm_now fun _ => rfl)
theorem anyC2 (g : List Int) (l : List (List Int)) (hl : l.length ≤ 4611686018427387904) (p : (List Int) → Bool) (hc : ∀ h ∈ l, Cm (fun k => impl_allCover_1_1.f k h g) (p h)) : Cm (fun k => slices_ContainsFunc_int_int_of_impl_allCover_1_1.f k l g) (l.any p) := by
  unfold slices_ContainsFunc_int_int_of_impl_allCover_1_1.f
  refine cm_bind (anyC2_index g l hl p hc) (cm_now fun _ => ?_)
  rw [found_any]
theorem anyC1_index (a : List (List Int)) (l : List (List Int)) (hl : l.length ≤ 4611686018427387904) (p : (List Int) → Bool) (hc : ∀ h ∈ l, Cm (fun k => impl_allCover_1.f k h a) (p h)) :
    Cm (fun k => slices_IndexFunc_int_int_of_impl_allCover_1.f k l a) (foundAt p (fun i _ => (i : Int)) (-1) 0 l) := by
  unfold slices_IndexFunc_int_int_of_impl_allCover_1.f
  refine find_cm (L := fun k i => slices_IndexFunc_int_int_of_impl_allCover_1.l0 k l (l.length : Int) i a) l p (fun i _ => (i : Int)) (none_ := (-1 : Int)) ?_ ?_ ?_
  · intro pre h t e hlt hp v hv
    refine cm_step (fun k => by rw [slices_IndexFunc_int_int_of_impl_allCover_1.l0]) ?_
    simp only [l1_at e, wrap_len hlt hl]
    refine cm_yes (by omega) (cm_yes (by omega) (cm_yes (by omega) (cm_bind (hc h (by rw [← e]; simp)) ?_)))
    exact cm_no (by simpa using hp) hv
  · intro pre h t e hlt hp
    refine cm_step (fun k => by rw [slices_IndexFunc_int_int_of_impl_allCover_1.l0]) ?_
    simp only [l1_at e, wrap_len hlt hl]
    refine cm_yes (by omega) (cm_yes (by omega) (cm_yes (by omega) (cm_bind (hc h (by rw [← e]; simp)) ?_)))
    exact cm_yes hp (cm_now fun _ => rfl)
  · refine cm_step (fun k => by rw [slices_IndexFunc_int_int_of_impl_allCover_1.l0]) ?_
    exact cm_no (by omega) (cm_now fun _ => rfl)
theorem anyC1 (a : List (List Int)) (l : List (List Int)) (hl : l.length ≤ 4611686018427387904) (p : (List Int) → Bool) (hc : ∀ h ∈ l, Cm (fun k => impl_allCover_1.f k h a) (p h)) : Cm (fun k => slices_ContainsFunc_int_int_of_impl_allCover_1.f k l a) (l.any p) := by
  unfold slices_ContainsFunc_int_int_of_impl_allCover_1.f
  refine cm_bind (anyC1_index a l hl p hc) (cm_now fun _ => ?_)
  rw [found_any]
theorem allCover_f (b a : List (List Int)) (ha : Fit2 a) (hb : Fit2 b) : Cm (fun k => impl_allCover.f k b a) (each a b) := by
  unfold impl_allCover.f
  refine cm_bind (anyC1 a b hb.1 (fun g => !a.any (fun h => hasAll g h)) (fun g hg => ?_)) (cm_now fun _ => ?_)
  · have hg2 := hb.2 g hg
    unfold impl_allCover_1.f
    refine cm_bind (anyC2 g a ha.1 (fun h => hasAll g h) (fun h hh => ?_)) (cm_now fun _ => rfl)
    have h3 := ha.2 h hh
    unfold impl_allCover_1_1.f
    refine cm_bind (maskOf_f g hg2) (cm_bind (maskOf_f h h3) (cm_bind (maskOf_f h h3) (cm_now fun _ => ?_)))
    rw [and_i64 _ _ hg2.lt h3.lt]
    have := has_mask g h hg2.pos h3.pos
    by_cases c : hasAll g h = true
    · rw [c]
      rw [this.1 c]; simp
    · have c2 : ¬ maskN g &&& maskN h = maskN h := fun z => c (this.2 z)
      have c3 : hasAll g h = false := by simpa using c
      rw [c3]
      congr 1
      rw [beq_eq_false_iff_ne]
      intro z
      exact c2 (by omega)
  · rw [not_any _ (fun g => a.any (fun h => hasAll g h)) b (fun _ _ => rfl)]
    rfl
theorem groups_fit {many : Int} {l : List (List Int)} (hm : many ≤ 62) (h : groups many l = true) (hs : ∀ g ∈ l, g.length ≤ 4611686018427387904) : Fit2 l := by
  obtain ⟨h1, h2⟩ := groups_iff.1 h
  refine ⟨by omega, fun g hg => ⟨hs g hg, fun x hx => ?_⟩⟩
  have := members_in (h1 g hg).2 x hx
  omega
def Len2 (l : List (List Int)) : Prop := l.length ≤ 4611686018427387904 ∧ ∀ g ∈ l, g.length ≤ 4611686018427387904
def dominates (a b : List (List Int)) : Bool × Bool := if groups 7 a = true ∧ groups 7 b = true ∧ coterie a = true ∧ coterie b = true then (each a b && !each b a, true) else (false, false)
theorem spec_dominates_f (a b : List (List Int)) (ha : Len2 a) (hb : Len2 b) : Cm (fun k => spec_Dominates.f k a b) (dominates a b) := by
  unfold spec_Dominates.f dominates
  have hj : Cm (fun k => spec_Dominates.j0 k a b true) (false, false) := by
    refine cm_step (fun k => by rw [spec_Dominates.j0]) ?_
    repeat (first | assumption | exact cm_now (fun _ => rfl) | refine cm_yes (by first | omega | assumption | (simp; done) | (simp; omega)) ?_ | refine cm_no (by first | omega | assumption | (simp; done) | (simp; omega)) ?_)
  refine cm_bind (groups_f a 7 ha.1 ha.2) (cm_if (fun c1 => cm_bind (groups_f b 7 hb.1 hb.2) (cm_if (fun c2 => ?_) (fun c2 => ?_))) (fun c1 => ?_))
  · have fa := groups_fit (by omega) c1 ha.2
    have fb := groups_fit (by omega) c2 hb.2
    refine cm_bind (l6Coterie_f a fa) (cm_if (fun c3 => cm_bind (l6Coterie_f b fb) ?_) (fun c3 => ?_))
    · by_cases c4 : coterie b = true
      · rw [if_pos ⟨c1, c2, c3, c4⟩, c4]
        refine cm_step (fun k => by rw [spec_Dominates.j0]) ?_
        refine cm_no (by simp) (cm_bind (l6Each_f a b fa fb) (cm_if (fun c5 => cm_bind (l6Each_f b a fb fa) (cm_now fun _ => ?_)) (fun c5 => cm_now fun _ => ?_)))
        · rw [c5]; rfl
        · have : each a b = false := by simpa using c5
          rw [this]; rfl
      · rw [if_neg (fun z => c4 z.2.2.2)]
        have : coterie b = false := by simpa using c4
        rw [this]
        exact hj
    · rw [if_neg (fun z => c3 z.2.2.1)]
      exact hj
  · rw [if_neg (fun z => c2 z.2.1)]
    exact hj
  · rw [if_neg (fun z => c1 z.1)]
    exact hj
theorem impl_dominates_f (a b : List (List Int)) (ha : Len2 a) (hb : Len2 b) : Cm (fun k => impl_Dominates.f k a b) (dominates a b) := by
  unfold impl_Dominates.f dominates
  have hj : Cm (fun k => impl_Dominates.j0 k a b true) (false, false) := by
    refine cm_step (fun k => by rw [impl_Dominates.j0]) ?_
    repeat (first | assumption | exact cm_now (fun _ => rfl) | refine cm_yes (by first | omega | assumption | (simp; done) | (simp; omega)) ?_ | refine cm_no (by first | omega | assumption | (simp; done) | (simp; omega)) ?_)
  refine cm_bind (areGroups_f a 7 ha.1 ha.2 (by omega)) (cm_if (fun c1 => cm_bind (areGroups_f b 7 hb.1 hb.2 (by omega)) (cm_if (fun c2 => ?_) (fun c2 => ?_))) (fun c1 => ?_))
  · have fa := groups_fit (by omega) c1 ha.2
    have fb := groups_fit (by omega) c2 hb.2
    refine cm_bind (isCoterie_f a fa) (cm_if (fun c3 => cm_bind (isCoterie_f b fb) ?_) (fun c3 => ?_))
    · by_cases c4 : coterie b = true
      · rw [if_pos ⟨c1, c2, c3, c4⟩, c4]
        refine cm_step (fun k => by rw [impl_Dominates.j0]) ?_
        refine cm_no (by simp) (cm_bind (allCover_f b a fa fb) (cm_if (fun c5 => cm_bind (allCover_f a b fb fa) (cm_now fun _ => ?_)) (fun c5 => cm_now fun _ => ?_)))
        · rw [c5]; rfl
        · have : each a b = false := by simpa using c5
          rw [this]; rfl
      · rw [if_neg (fun z => c4 z.2.2.2)]
        have : coterie b = false := by simpa using c4
        rw [this]
        exact hj
    · rw [if_neg (fun z => c3 z.2.2.1)]
      exact hj
  · rw [if_neg (fun z => c2 z.2.1)]
    exact hj
  · rw [if_neg (fun z => c1 z.1)]
    exact hj
end Go.Proofs.Ytjngkfepppejeaa.Qs
end
section
namespace Go.Proofs.Ytjngkfepppejeaa.Qs
open Go.RowKit Go.Proofs.Ytjngkfepppejeaa.P Go.Proofs.YtjngkfepppejeaaW.PrintWords Go.Proofs.YtjngkfepppejeaaW.PrintLast Go.Proofs.YtjngkfepppejeaaW.PrintMore
open Go.Proofs.Ytjngkfepppejeaa.Pl Go.Proofs.Ytjngkfepppejeaa.EvN Go.Proofs.Ytjngkfepppejeaa.Lp Go.Proofs.Ytjngkfepppejeaa.Sets Go.Proofs.Ytjngkfepppejeaa.Mem Go.Proofs.Ytjngkfepppejeaa.Pick
set_option linter.unusedSimpArgs false
set_option linter.unusedVariables false
theorem iterf_cm {σ ρ : Type} {L : Nat → Int → σ → Option ρ} (s n : Nat) (hsn : s ≤ n) (st : Nat → σ) {v : ρ} (hs : ∀ i, s ≤ i → i < n → ∀ u, Cm (fun k => L k ((i + 1 : Nat) : Int) (st (i + 1))) u → Cm (fun k => L k (i : Int) (st i)) u)
    (he : Cm (fun k => L k (n : Int) (st n)) v) : Cm (fun k => L k (s : Int) (st s)) v := by
  have key : ∀ (d i : Nat), s ≤ i → i + d = n → Cm (fun k => L k (i : Int) (st i)) v := by
    intro d
    induction d with
    | zero => intro i _ e; rw [Nat.add_zero] at e; subst e; exact he
    | succ d ih => intro i h e; exact hs i h (by omega) v (ih (i + 1) (by omega) (by omega))
  exact key (n - s) s (Nat.le_refl _) (by omega)
def msN (n b : Nat) : List Int := ((List.range n).filter (fun m => b.testBit m)).map (fun (m : Nat) => (m : Int))
def ms (b : Nat) : List Int := msN 7 b
def off (b m : Nat) : Nat := b &&& (18446744073709551615 - 2 ^ m)
theorem off_le (b m : Nat) : off b m ≤ b := Nat.and_le_left
theorem msN_mem {n b : Nat} {x : Int} : x ∈ msN n b ↔ ∃ m, m < n ∧ b.testBit m = true ∧ (m : Int) = x := by
  simp [msN, and_assoc]
theorem bit_out {b n m : Nat} (hb : b < 2 ^ n) (h : n ≤ m) : b.testBit m = false := Nat.testBit_lt_two_pow (Nat.lt_of_lt_of_le hb (Nat.pow_le_pow_right (by omega) h))
theorem msN_more {n b : Nat} (hb : b < 2 ^ n) : ∀ d, msN (n + d) b = msN n b
  | 0 => rfl
  | d + 1 => by
    rw [← msN_more hb d]
    unfold msN
    rw [← Nat.add_assoc, List.range_succ, List.filter_append]
    simp [bit_out hb (show n ≤ n + d by omega)]
theorem ms_eq {n b : Nat} (hb : b < 2 ^ n) (hn : n ≤ 7) : ms b = msN n b := by
  have := msN_more hb (7 - n)
  rwa [show n + (7 - n) = 7 by omega] at this
theorem ms_in {n b : Nat} (hb : b < 2 ^ n) (hn : n ≤ 7) : ∀ x ∈ ms b, 0 ≤ x ∧ x < (n : Int) := by
  intro x hx
  rw [ms_eq hb hn, msN_mem] at hx
  obtain ⟨m, h1, _, rfl⟩ := hx
  omega
theorem ms_len (b : Nat) : (ms b).length ≤ 7 := by
  unfold ms msN
  rw [List.length_map]
  exact Nat.le_trans (List.length_filter_le _ _) (by simp)
theorem pow_le7 {n : Nat} (hn : n ≤ 7) : 2 ^ n ≤ 128 := Nat.pow_le_pow_right (n := 2) (by omega) (show n ≤ 7 from hn)
def lst (P : Nat → Bool) (n b : Nat) : Bool := P b && (List.range n).all (fun m => !b.testBit m || !P (off b m))
def lsts (P : Nat → Bool) (n i : Nat) : List (List Int) := ((List.range i).filter (lst P n)).map ms
theorem lsts_len (P : Nat → Bool) (n i : Nat) : (lsts P n i).length ≤ i := by
  unfold lsts
  rw [List.length_map]
  exact Nat.le_trans (List.length_filter_le _ _) (by simp)
theorem lsts_yes {P : Nat → Bool} {n i : Nat} (h : lst P n i = true) : lsts P n (i + 1) = lsts P n i ++ [ms i] := by
  unfold lsts
  rw [List.range_succ, List.filter_append]
  simp [h]
theorem lsts_no {P : Nat → Bool} {n i : Nat} (h : lst P n i = false) : lsts P n (i + 1) = lsts P n i := by
  unfold lsts
  rw [List.range_succ, List.filter_append]
  simp [h]
theorem lsts_mem {P : Nat → Bool} {n i : Nat} {y : List Int} (h : y ∈ lsts P n i) : ∃ b, b < i ∧ y = ms b := by
  simp only [lsts, List.mem_map, List.mem_filter, List.mem_range] at h
  obtain ⟨b, h1, rfl⟩ := h
  exact ⟨b, h1.1, rfl⟩
theorem lst_ms (P : Nat → Bool) {n b : Nat} (hb : b < 2 ^ n) (hn : n ≤ 7) : (P b && (ms b).all (fun x => !P (off b x.toNat))) = lst P n b := by
  unfold lst
  congr 1
  rw [ms_eq hb hn]
  simp only [msN, List.all_map, List.all_filter]
  congr 1
set_option maxRecDepth 100000 in
theorem list_all : ∀ b : Nat, b < 128 → spec_l6List.f 10 (b : Int) = some (ms b) := by decide +kernel
set_option maxRecDepth 100000 in
theorem members_all : ∀ b : Nat, b < 128 → impl_membersOf.f 10 (b : Int) = some (ms b) := by decide +kernel
set_option maxRecDepth 100000 in
theorem without_all : ∀ b : Nat, b < 128 → ∀ i : Nat, i < 7 → i < (ms b).length → spec_l6Without.f (ms b) (i : Int) = some (ms (off b ((ms b).getD i 0).toNat)) := by decide +kernel
set_option maxRecDepth 100000 in
theorem mask_all : ∀ b : Nat, b < 128 → maskN (ms b) = b := by decide +kernel
end Go.Proofs.Ytjngkfepppejeaa.Qs
end
section
namespace Go.Proofs.Ytjngkfepppejeaa.Least2
open Go.RowKit Go.Proofs.Ytjngkfepppejeaa.P Go.Proofs.YtjngkfepppejeaaW.PrintWords Go.Proofs.YtjngkfepppejeaaW.PrintLast Go.Proofs.YtjngkfepppejeaaW.PrintMore
open Go.Proofs.Ytjngkfepppejeaa.Pl Go.Proofs.Ytjngkfepppejeaa.EvN Go.Proofs.Ytjngkfepppejeaa.Lp Go.Proofs.Ytjngkfepppejeaa.Sets Go.Proofs.Ytjngkfepppejeaa.Mem Go.Proofs.Ytjngkfepppejeaa.Pick Go.Proofs.Ytjngkfepppejeaa.Qs
set_option linter.unusedSimpArgs false
set_option linter.unusedVariables false
theorem of_k {α : Type} {F : Nat → Option α} (hm : ∀ k, LeO (F k) (F (k + 1))) {n : Nat} {v : α} (h : F n = some v) : Cm F v := by
  refine ⟨n, fun k hk => ?_⟩
  obtain ⟨d, rfl⟩ := Nat.le.dest hk
  induction d with
  | zero => exact h
  | succ d ih => exact hm (n + d) v (ih (by omega))
theorem list_f {b : Nat} (hb : b < 128) : Cm (fun k => spec_l6List.f k (b : Int)) (ms b) := of_k (spec_l6List.mono _) (list_all b hb)
theorem members_f {b : Nat} (hb : b < 128) : Cm (fun k => impl_membersOf.f k (b : Int)) (ms b) := of_k (impl_membersOf.mono _) (members_all b hb)
theorem without_f {b : Nat} (hb : b < 128) {pre t : List Int} {x : Int} (e : pre ++ x :: t = ms b) : spec_l6Without.f (ms b) (pre.length : Int) = some (ms (off b x.toNat)) := by
  have h1 : pre.length < (ms b).length := by rw [← e]; simp
  have h2 := ms_len b
  have h3 : (ms b).getD pre.length 0 = x := by rw [← e]; simp
  rw [without_all b hb pre.length (by omega) h1, h3]
theorem u64_in {n : Nat} (h : n ≤ 7) : IntKind.u64.wrap (n : Int) = (n : Int) := by
  simp [IntKind.wrap, IntKind.bits, IntKind.signed]
  omega
theorem shl_n {n : Nat} (h : n ≤ 7) : shl .i64 1 (n : Int) = ((2 ^ n : Nat) : Int) := by
  have := shl_one (m := (n : Int)) (by omega) (by omega)
  rwa [Int.toNat_natCast] at this
theorem bit_n {b i : Nat} (hb : b < 128) (hi : i < 7) : Go.bits .and .i64 (shr .i64 (b : Int) (i : Int)) 1 = if b.testBit i = true then 1 else 0 := by
  have := bit_i64 b (m := (i : Int)) (by omega) (by omega) (by omega)
  rwa [Int.toNat_natCast] at this
theorem off_n {b i : Nat} (hb : b < 128) (hi : i < 7) : Go.bits .andNot .i64 (b : Int) (shl .i64 1 (i : Int)) = ((off b i : Nat) : Int) := by
  have hp : 2 ^ i ≤ 128 := Nat.pow_le_pow_right (n := 2) (by omega) (show i ≤ 7 by omega)
  rw [shl_n (by omega), andNot_i64 _ _ (by omega) (by omega)]
  rfl
theorem fold_and {α : Type} (f : α → Bool) : ∀ (l : List α) (q : Bool), l.foldl (fun s x => s && f x) q = (q && l.all f)
  | [], q => by simp
  | x :: t, q => by rw [List.foldl_cons, fold_and f t, List.all_cons, Bool.and_assoc]
theorem msN_yes {n b : Nat} (h : b.testBit n = true) : msN (n + 1) b = msN n b ++ [(n : Int)] := by
  unfold msN
  rw [List.range_succ, List.filter_append]
  simp [h]
theorem msN_no {n b : Nat} (h : ¬ b.testBit n = true) : msN (n + 1) b = msN n b := by
  unfold msN
  rw [List.range_succ, List.filter_append]
  simp [h]
def sumW (W l : List Int) : Int := l.foldl (fun s m => wrap64 (s + rd W m)) 0
def PV (W : List Int) (need : Int) (b : Nat) : Bool := decide (sumW W (ms b) ≥ need)
theorem PV_not (W : List Int) (need : Int) (b : Nat) : (!PV W need b) = decide (sumW W (ms b) < need) := by
  unfold PV
  rw [← decide_not]
  congr 1
  simp [Int.not_le]
theorem l6Sum_f (W : List Int) (need : Int) (l : List Int) (hl : ∀ x ∈ l, 0 ≤ x ∧ x < (W.length : Int)) (hn : l.length ≤ 100) : Cm (fun k => spec_l6Sum.f k W need l) (sumW W l) := by
  unfold spec_l6Sum.f
  refine fold_cm (L := fun k i s => spec_l6Sum.l0 k s l (l.length : Int) i W need) l (fun s m => wrap64 (s + rd W m)) (fun _ _ => True) 0 trivial ?_ ?_
  · intro pre x t s e hlt _
    have hx := hl x (by rw [← e]; simp)
    refine ⟨trivial, fun u hu => ?_⟩
    refine cm_step (fun k => by rw [spec_l6Sum.l0]) ?_
    simp only [rd_at e, wrap_len hlt (show l.length ≤ 4611686018427387904 by omega)]
    repeat (first | assumption | exact cm_now (fun _ => rfl) | refine cm_yes (by first | omega | assumption | (simp; done) | (simp; omega) | exact hx.1 | exact hx.2) ?_ | refine cm_no (by first | omega | assumption | (simp; done) | (simp; omega) | exact hx.1 | exact hx.2) ?_)
  · intro _
    refine cm_step (fun k => by rw [spec_l6Sum.l0]) ?_
    repeat (first | assumption | exact cm_now (fun _ => rfl) | refine cm_yes (by first | omega | assumption | (simp; done) | (simp; omega)) ?_ | refine cm_no (by first | omega | assumption | (simp; done) | (simp; omega)) ?_)
theorem weigh_f (W : List Int) (need : Int) (b : Nat) (hW : W.length ≤ 7) (hb : b < 2 ^ W.length) : Cm (fun k => impl_Votes_weigh.f k W need (b : Int)) (sumW W (ms b)) := by
  unfold impl_Votes_weigh.f
  have hp := pow_le7 hW
  rw [ms_eq hb hW]
  refine iter_cm (L := fun k i s => impl_Votes_weigh.l0 k (b : Int) s W (W.length : Int) i) W.length (fun i => sumW W (msN i b)) ?_ ?_
  · intro i hi u hu
    refine cm_step (fun k => by rw [impl_Votes_weigh.l0]) ?_
    simp only [wrap_n hi (show W.length ≤ 4611686018427387904 by omega), bit_n (show b < 128 by omega) (show i < 7 by omega)]
    refine cm_yes (by omega) (cm_yes (by omega) (cm_yes (by omega) ?_))
    by_cases c : b.testBit i = true
    · rw [msN_yes c] at hu
      refine cm_yes (by simp [c]) ?_
      simpa [sumW, List.foldl_append] using hu
    · rw [msN_no c] at hu
      exact cm_no (by simp [c]) hu
  · refine cm_step (fun k => by rw [impl_Votes_weigh.l0]) ?_
    exact cm_no (by omega) (cm_now fun _ => rfl)
theorem isq_f (W : List Int) (need : Int) (hW : W.length ≤ 7) : ∀ c : Nat, c < 2 ^ W.length → Cm (fun k => impl_LeastQuorums_1.f k (c : Int) W need) (PV W need c) := by
  intro c hc
  unfold impl_LeastQuorums_1.f
  exact cm_bind (weigh_f W need c hW hc) (cm_now fun _ => rfl)
theorem sumMs_f (W : List Int) (need : Int) (hW : W.length ≤ 7) : ∀ c : Nat, c < 2 ^ W.length → Cm (fun k => spec_l6Sum.f k W need (ms c)) (sumW W (ms c)) := by
  intro c hc
  exact l6Sum_f W need (ms c) (ms_in hc hW) (by have := ms_len c; omega)
def good (W : List Int) (need : Int) : Bool := W.all (fun w => decide (0 ≤ w ∧ w ≤ 9)) && (decide (1 ≤ W.length ∧ W.length ≤ 7) && decide (1 ≤ need ∧ need ≤ 100))
theorem good_spec (W : List Int) (need : Int) (hl : W.length ≤ 4611686018427387904) : Cm (fun k => spec_GoodVotes.f k W need) (good W need) := by
  unfold spec_GoodVotes.f
  have := every_cm (L := fun k i => spec_GoodVotes.l0 k W (W.length : Int) i W need) W (fun w => decide (0 ≤ w ∧ w ≤ 9)) (fin := decide (1 ≤ W.length ∧ W.length ≤ 7) && decide (1 ≤ need ∧ need ≤ 100)) (no := false) ?_ ?_ ?_
  · refine cm_val this ?_
    unfold good
    cases W.all (fun w => decide (0 ≤ w ∧ w ≤ 9)) <;> simp
  · intro pre x t e hlt hp v hv
    refine cm_step (fun k => by rw [spec_GoodVotes.l0]) ?_
    simp only [rd_at e, wrap_len hlt hl, l1In_f]
    exact cm_yes (by omega) (cm_yes (by omega) (cm_yes (by omega) (cm_bind (cm_now fun _ => rfl) (cm_yes hp hv))))
  · intro pre x t e hlt hp
    refine cm_step (fun k => by rw [spec_GoodVotes.l0]) ?_
    simp only [rd_at e, wrap_len hlt hl, l1In_f]
    exact cm_yes (by omega) (cm_yes (by omega) (cm_yes (by omega) (cm_bind (cm_now fun _ => rfl) (cm_no (by simpa using hp) (cm_now fun _ => rfl)))))
  · intro _
    refine cm_step (fun k => by rw [spec_GoodVotes.l0]) ?_
    simp only [l1In_f]
    refine cm_no (by omega) (cm_bind (cm_now fun _ => rfl) ?_)
    by_cases c : 1 ≤ W.length ∧ W.length ≤ 7
    · exact cm_yes (by simpa using (by omega : (1 : Int) ≤ W.length ∧ (W.length : Int) ≤ 7)) (cm_bind (cm_now fun _ => rfl) (cm_now fun _ => by simp [c]))
    · exact cm_no (by simp only [decide_eq_true_eq]; omega) (cm_now fun _ => by simp [c])
theorem anyW_index (l : List Int) (hl : l.length ≤ 4611686018427387904) (p : Int → Bool) (hc : ∀ h ∈ l, Cm (fun k => impl_areVotes_1.f h) (p h)) :
    Cm (fun k => slices_IndexFunc_int_int_of_impl_areVotes_1.f k l) (foundAt p (fun i _ => (i : Int)) (-1) 0 l) := by
  unfold slices_IndexFunc_int_int_of_impl_areVotes_1.f
  refine find_cm (L := fun k i => slices_IndexFunc_int_int_of_impl_areVotes_1.l0 k l (l.length : Int) i) l p (fun i _ => (i : Int)) (none_ := (-1 : Int)) ?_ ?_ ?_
  · intro pre h t e hlt hp v hv
    refine cm_step (fun k => by rw [slices_IndexFunc_int_int_of_impl_areVotes_1.l0]) ?_
    simp only [rd_at e, wrap_len hlt hl]
    refine cm_yes (by omega) (cm_yes (by omega) (cm_yes (by omega) (cm_bind (hc h (by rw [← e]; simp)) ?_)))
    exact cm_no (by simpa using hp) hv
  · intro pre h t e hlt hp
    refine cm_step (fun k => by rw [slices_IndexFunc_int_int_of_impl_areVotes_1.l0]) ?_
    simp only [rd_at e, wrap_len hlt hl]
    refine cm_yes (by omega) (cm_yes (by omega) (cm_yes (by omega) (cm_bind (hc h (by rw [← e]; simp)) ?_)))
    exact cm_yes hp (cm_now fun _ => rfl)
  · refine cm_step (fun k => by rw [slices_IndexFunc_int_int_of_impl_areVotes_1.l0]) ?_
    exact cm_no (by omega) (cm_now fun _ => rfl)
theorem anyW (l : List Int) (hl : l.length ≤ 4611686018427387904) (p : Int → Bool) (hc : ∀ h ∈ l, Cm (fun k => impl_areVotes_1.f h) (p h)) : Cm (fun k => slices_ContainsFunc_int_int_of_impl_areVotes_1.f k l) (l.any p) := by
  unfold slices_ContainsFunc_int_int_of_impl_areVotes_1.f
  refine cm_bind (anyW_index l hl p hc) (cm_now fun _ => ?_)
  rw [found_any]
theorem good_impl (W : List Int) (need : Int) (hl : W.length ≤ 4611686018427387904) : Cm (fun k => impl_areVotes.f k W need) (good W need) := by
  unfold impl_areVotes.f
  simp only [in_f]
  refine cm_bind (cm_now fun _ => rfl) ?_
  by_cases c : 1 ≤ W.length ∧ W.length ≤ 7
  · refine cm_yes (by simp only [decide_eq_true_eq]; omega) (cm_bind (cm_now fun _ => rfl) ?_)
    by_cases c2 : 1 ≤ need ∧ need ≤ 100
    · refine cm_yes (by simpa using c2) (cm_bind (anyW W hl (fun w => !decide (0 ≤ w ∧ w ≤ 9)) (fun w _ => ?_)) (cm_now fun _ => ?_))
      · unfold impl_areVotes_1.f
        rw [in_f]
        exact cm_now fun _ => rfl
      · rw [not_any _ (fun w => decide (0 ≤ w ∧ w ≤ 9)) W (fun _ _ => rfl)]
        simp [good, c, c2]
    · exact cm_no (by simpa using c2) (cm_now fun _ => by simp [good, c2])
  · exact cm_no (by simp only [decide_eq_true_eq]; omega) (cm_now fun _ => by simp [good, c])
theorem limpl_l1 (W : List Int) (need : Int) (P : Nat → Bool) (n : Nat) (hn : n ≤ 7) (hP : ∀ c : Nat, c < 2 ^ n → Cm (fun k => impl_LeastQuorums_1.f k (c : Int) W need) (P c)) (b : Nat) (hb : b < 2 ^ n) (s : List (List Int)) (hs : s.length ≤ 128) (u : List (List Int))
    (h : Cm (fun k => impl_leastSets_of_impl_LeastQuorums_1.l0 k (n : Int) (if lst P n b = true then s ++ [ms b] else s) ((2 ^ n : Nat) : Int) ((b + 1 : Nat) : Int) W need) u) :
    Cm (fun k => impl_leastSets_of_impl_LeastQuorums_1.l1 k (n : Int) s (b : Int) (P b) ((2 ^ n : Nat) : Int) (b : Int) (n : Int) 0 W need) u := by
  have hp := pow_le7 hn
  have key := iter_cm (L := fun k i q => impl_leastSets_of_impl_LeastQuorums_1.l1 k (n : Int) s (b : Int) q ((2 ^ n : Nat) : Int) (b : Int) (n : Int) i W need) n (fun i => P b && (List.range i).all (fun m => !b.testBit m || !P (off b m))) (v := u) ?_ ?_
  · simp only [List.range_zero, List.all_nil, Bool.and_true] at key
    exact key
  · intro i hi u hu
    have ho : off b i < 2 ^ n := Nat.lt_of_le_of_lt (off_le b i) hb
    rw [List.range_succ, List.all_append, ← Bool.and_assoc] at hu
    simp only [List.all_cons, List.all_nil, Bool.and_true] at hu
    generalize (P b && (List.range i).all (fun m => !b.testBit m || !P (off b m))) = q at hu ⊢
    refine cm_step (fun k => by rw [impl_leastSets_of_impl_LeastQuorums_1.l1]) ?_
    simp only [wrap_n hi (show n ≤ 4611686018427387904 by omega), bit_n (show b < 128 by omega) (show i < 7 by omega), off_n (show b < 128 by omega) (show i < 7 by omega)]
    refine cm_yes (by omega) ?_
    cases q with
    | false => exact cm_no (by simp) (by simpa using hu)
    | true =>
      refine cm_yes rfl (cm_yes (by omega) ?_)
      by_cases c : b.testBit i = true
      · exact cm_no (by simp [c]) (cm_bind (hP _ ho) (by simpa [c] using hu))
      · exact cm_yes (by simp [c]) (by simpa [c] using hu)
  · refine cm_step (fun k => by rw [impl_leastSets_of_impl_LeastQuorums_1.l1]) ?_
    simp only [wrap_n (n := 2 ^ n) hb (show 2 ^ n ≤ 4611686018427387904 by omega)]
    refine cm_no (by omega) ?_
    by_cases c : lst P n b = true
    · rw [if_pos c] at h
      exact cm_yes c (cm_bind (members_f (by omega)) (cm_yes (by omega) h))
    · rw [if_neg c] at h
      exact cm_no c h
theorem limpl_f (W : List Int) (need : Int) (P : Nat → Bool) (n : Nat) (hn : n ≤ 7) (hP : ∀ c : Nat, c < 2 ^ n → Cm (fun k => impl_LeastQuorums_1.f k (c : Int) W need) (P c)) :
    Cm (fun k => impl_leastSets_of_impl_LeastQuorums_1.f k (n : Int) W need) (lsts P n (2 ^ n)) := by
  have hp := pow_le7 hn
  unfold impl_leastSets_of_impl_LeastQuorums_1.f
  simp only [shl_n hn]
  refine cm_yes (by omega) ?_
  refine iter_cm (L := fun k i s => impl_leastSets_of_impl_LeastQuorums_1.l0 k (n : Int) s ((2 ^ n : Nat) : Int) i W need) (2 ^ n) (fun i => lsts P n i) ?_ ?_
  · intro b hb u hu
    refine cm_step (fun k => by rw [impl_leastSets_of_impl_LeastQuorums_1.l0]) ?_
    refine cm_yes (by omega) (cm_bind (hP b hb) ?_)
    refine limpl_l1 W need P n hn hP b hb (lsts P n b) (by have := lsts_len P n b; omega) u ?_
    by_cases c : lst P n b = true
    · rw [if_pos c, ← lsts_yes c]; exact hu
    · rw [if_neg c, ← lsts_no (by simpa using c)]; exact hu
  · refine cm_step (fun k => by rw [impl_leastSets_of_impl_LeastQuorums_1.l0]) ?_
    exact cm_no (by omega) (cm_now fun _ => rfl)
theorem lspec_l1 (n : Nat) (W : List Int) (need : Int) (hW : W.length = n) (hn : n ≤ 7) (hq : ∀ c : Nat, c < 2 ^ n → Cm (fun k => spec_l6Sum.f k W need (ms c)) (sumW W (ms c))) (b : Nat) (hb : b < 2 ^ n) (s : List (List Int)) (hs : s.length ≤ 128) (u : List (List Int) × Bool)
    (h : Cm (fun k => spec_LeastQuorums.l0 k (if lst (PV W need) n b = true then s ++ [ms b] else s) ((b + 1 : Nat) : Int) W need) u) :
    Cm (fun k => spec_LeastQuorums.l1 k s (b : Int) (ms b) (PV W need b) ((ms b).length : Int) 0 W need) u := by
  have hp := pow_le7 hn
  refine fold_cm (L := fun k i q => spec_LeastQuorums.l1 k s (b : Int) (ms b) q ((ms b).length : Int) i W need) (ms b) (fun q x => q && !PV W need (off b x.toNat)) (fun _ _ => True) (PV W need b) trivial ?_ ?_
  · intro pre x t q e hlt _
    refine ⟨trivial, fun u hu => ?_⟩
    have ho : off b x.toNat < 2 ^ n := Nat.lt_of_le_of_lt (off_le b _) hb
    have h7 := ms_len b
    refine cm_step (fun k => by rw [spec_LeastQuorums.l1]) ?_
    simp only [without_f (show b < 128 by omega) e, wrap_len hlt (show (ms b).length ≤ 4611686018427387904 by omega)]
    refine cm_yes (by omega) ?_
    cases q with
    | false => exact cm_no (by simp) (by simpa using hu)
    | true => exact cm_yes rfl (cm_bind (cm_now fun _ => rfl) (cm_bind (hq _ ho) (by simpa [PV_not] using hu)))
  · intro _
    rw [fold_and, lst_ms (PV W need) hb hn]
    refine cm_step (fun k => by rw [spec_LeastQuorums.l1]) ?_
    simp only [wrap_n (n := 2 ^ n) hb (show 2 ^ n ≤ 4611686018427387904 by omega)]
    refine cm_no (by omega) ?_
    by_cases c : lst (PV W need) n b = true
    · rw [if_pos c] at h
      exact cm_yes c (cm_yes (by omega) h)
    · rw [if_neg c] at h
      exact cm_no c h
theorem lspec_f (n : Nat) (W : List Int) (need : Int) (hW : W.length = n) (hn : n ≤ 7) (hq : ∀ c : Nat, c < 2 ^ n → Cm (fun k => spec_l6Sum.f k W need (ms c)) (sumW W (ms c))) (s : Nat) (hs : s ≤ 2 ^ n) :
    Cm (fun k => spec_LeastQuorums.l0 k (lsts (PV W need) n s) (s : Int) W need) (lsts (PV W need) n (2 ^ n), true) := by
  have hp := pow_le7 hn
  refine iterf_cm (L := fun k i s => spec_LeastQuorums.l0 k s i W need) s (2 ^ n) hs (fun i => lsts (PV W need) n i) ?_ ?_
  · intro b _ hb u hu
    refine cm_step (fun k => by rw [spec_LeastQuorums.l0]) ?_
    simp only [hW, u64_in hn, shl_n hn]
    refine cm_yes (by omega) (cm_yes (by omega) (cm_bind (list_f (by omega)) (cm_bind (hq b hb) ?_)))
    refine lspec_l1 n W need hW hn hq b hb (lsts (PV W need) n b) (by have := lsts_len (PV W need) n b; omega) u ?_
    by_cases c : lst (PV W need) n b = true
    · rw [if_pos c, ← lsts_yes c]; exact hu
    · rw [if_neg c, ← lsts_no (by simpa using c)]; exact hu
  · refine cm_step (fun k => by rw [spec_LeastQuorums.l0]) ?_
    simp only [hW, u64_in hn, shl_n hn]
    refine cm_yes (by omega) (cm_no (by omega) ?_)
    exact cm_now fun _ => rfl
theorem least_both (W : List Int) (need : Int) (hl : W.length ≤ 4611686018427387904) :
    ∃ r1 r2, Cm (fun k => spec_LeastQuorums.f k W need) (r1, r2) ∧ Cm (fun k => impl_LeastQuorums.f k W need) (r1, r2) ∧ (r1.length ≤ 128 ∧ ∀ y ∈ r1, y.length ≤ 7) := by
  unfold spec_LeastQuorums.f impl_LeastQuorums.f
  by_cases c : good W need = true
  · have c2 := c
    simp only [good, Bool.and_eq_true, decide_eq_true_eq] at c2
    obtain ⟨_, h1, h2⟩ := c2
    have hp := pow_le7 h1.2
    have hp0 : 1 ≤ 2 ^ W.length := Nat.one_le_two_pow
    refine ⟨lsts (PV W need) W.length (2 ^ W.length), true, cm_bind (good_spec W need hl) (cm_yes c ?_), cm_bind (good_impl W need hl) (cm_yes c (cm_bind (limpl_f W need (PV W need) W.length h1.2 (isq_f W need h1.2)) (cm_now fun _ => rfl))), ?_, ?_⟩
    · have := lspec_f W.length W need rfl h1.2 (sumMs_f W need h1.2) 1 hp0
      have h0 : lst (PV W need) W.length 0 = false := by
        have : PV W need 0 = false := by
          have e : ms 0 = [] := by decide
          simp only [PV, e, sumW, List.foldl_nil, decide_eq_false_iff_not]
          omega
        simp [lst, this]
      rw [show (1 : Nat) = 0 + 1 from rfl, lsts_no h0] at this
      exact this
    · have := lsts_len (PV W need) W.length (2 ^ W.length)
      omega
    · intro y hy
      obtain ⟨b, _, rfl⟩ := lsts_mem hy
      exact ms_len b
  · exact ⟨[], false, cm_bind (good_spec W need hl) (cm_no c (cm_now fun _ => rfl)), cm_bind (good_impl W need hl) (cm_no c (cm_now fun _ => rfl)), by simp, by simp⟩
end Go.Proofs.Ytjngkfepppejeaa.Least2
end
section
namespace Go.Proofs.Ytjngkfepppejeaa.Quo
open Go.RowKit Go.Proofs.Ytjngkfepppejeaa.P Go.Proofs.YtjngkfepppejeaaW.PrintWords Go.Proofs.YtjngkfepppejeaaW.PrintLast Go.Proofs.YtjngkfepppejeaaW.PrintMore
open Go.Proofs.Ytjngkfepppejeaa.Pl Go.Proofs.Ytjngkfepppejeaa.EvN Go.Proofs.Ytjngkfepppejeaa.Lp Go.Proofs.Ytjngkfepppejeaa.Sets Go.Proofs.Ytjngkfepppejeaa.Mem Go.Proofs.Ytjngkfepppejeaa.Pick Go.Proofs.Ytjngkfepppejeaa.Qs Go.Proofs.Ytjngkfepppejeaa.Least2
set_option linter.unusedSimpArgs false
set_option linter.unusedVariables false
def sumN (f : Nat → Int) : Nat → Int
  | 0 => 0
  | n + 1 => sumN f n + f n
theorem sumN_le {f g : Nat → Int} : ∀ n, (∀ i, i < n → f i ≤ g i) → sumN f n ≤ sumN g n
  | 0, _ => Int.le_refl _
  | n + 1, h => by
    have h1 := sumN_le n (fun i hi => h i (by omega))
    have h2 := h n (by omega)
    unfold sumN
    omega
def bitW (W : List Int) (b i : Nat) : Int := if b.testBit i = true then rd W (i : Int) else 0
def S (W : List Int) (n b : Nat) : Int := sumN (bitW W b) n
def Wok (W : List Int) : Prop := ∀ x ∈ W, 0 ≤ x ∧ x ≤ 9
theorem rd_ok {W : List Int} (h : Wok W) (i : Int) : 0 ≤ rd W i ∧ rd W i ≤ 9 := by
  show 0 ≤ W.getD _ 0 ∧ W.getD _ 0 ≤ 9
  by_cases c : i.toNat < W.length
  · have e : W.getD i.toNat 0 = W[i.toNat] := by simp [List.getD, c]
    rw [e]
    exact h _ (List.getElem_mem c)
  · have e : W.getD i.toNat 0 = 0 := by simp [List.getD, c]
    rw [e]
    omega
theorem S_mono {W : List Int} (h : Wok W) {n b c : Nat} (hs : ∀ i, i < n → b.testBit i = true → c.testBit i = true) : S W n b ≤ S W n c := by
  refine sumN_le n (fun i hi => ?_)
  have h2 := rd_ok h (i : Int)
  unfold bitW
  by_cases x : b.testBit i = true
  · rw [if_pos x, if_pos (hs i hi x)]
    omega
  · rw [if_neg x]
    split <;> omega
set_option maxRecDepth 100000 in
theorem off_bit_b : ((List.range 128).all fun b => (List.range 7).all fun m => (List.range 7).all fun i => decide ((off b m).testBit i = (b.testBit i && !decide (i = m)))) = true := by decide +kernel
theorem off_bit {b m i : Nat} (hb : b < 128) (hm : m < 7) (hi : i < 7) : (off b m).testBit i = (b.testBit i && !decide (i = m)) := by
  have h := off_bit_b
  rw [List.all_eq_true] at h
  have h := h b (List.mem_range.2 hb)
  rw [List.all_eq_true] at h
  have h := h m (List.mem_range.2 hm)
  rw [List.all_eq_true] at h
  have h := h i (List.mem_range.2 hi)
  exact of_decide_eq_true h
theorem off_lt {b m : Nat} (hb : b < 128) (hm : m < 7) (h : b.testBit m = true) : off b m < b := by
  have h1 := off_le b m
  have h2 := off_bit hb hm hm
  rcases Nat.lt_or_ge (off b m) b with h3 | h3
  · exact h3
  · have e : off b m = b := by omega
    rw [e, h] at h2
    simp at h2
theorem least_in (P : Nat → Bool) {n : Nat} (hn : n ≤ 7) : ∀ b : Nat, b < 2 ^ n → P b = true → ∃ c, c < 2 ^ n ∧ lst P n c = true ∧ ∀ i, i < n → c.testBit i = true → b.testBit i = true := by
  intro b
  induction b using Nat.strongRecOn with
  | _ b ih =>
    intro hb hp
    have hpow := pow_le7 hn
    by_cases c : lst P n b = true
    · exact ⟨b, hb, c, fun _ _ h => h⟩
    · have h1 : ¬ (List.range n).all (fun m => !b.testBit m || !P (off b m)) = true := fun h => c (by unfold lst; rw [hp, h]; rfl)
      obtain ⟨m, hm, hx⟩ : ∃ m, m < n ∧ (!b.testBit m || !P (off b m)) = false := by
        by_cases e : ∃ m, m < n ∧ (!b.testBit m || !P (off b m)) = false
        · exact e
        · refine absurd ?_ h1
          rw [List.all_eq_true]
          intro m hm
          cases q : (!b.testBit m || !P (off b m)) with
          | true => rfl
          | false => exact absurd ⟨m, List.mem_range.1 hm, q⟩ e
      have hx2 : b.testBit m = true ∧ P (off b m) = true := by
        cases h2 : b.testBit m <;> cases h3 : P (off b m) <;> simp_all
      have hlt := off_lt (show b < 128 by omega) (show m < 7 by omega) hx2.1
      obtain ⟨d, h4, h5, h6⟩ := ih _ hlt (by omega) hx2.2
      refine ⟨d, h4, h5, fun i hi hd => ?_⟩
      have h7 := h6 i hi hd
      rw [off_bit (show b < 128 by omega) (show m < 7 by omega) (show i < 7 by omega)] at h7
      cases h8 : b.testBit i
      · rw [h8] at h7; exact absurd h7 (by simp)
      · rfl
end Go.Proofs.Ytjngkfepppejeaa.Quo
end
section
namespace Go.Proofs.Ytjngkfepppejeaa.Quo2
open Go.RowKit Go.Proofs.Ytjngkfepppejeaa.P Go.Proofs.YtjngkfepppejeaaW.PrintWords Go.Proofs.YtjngkfepppejeaaW.PrintLast Go.Proofs.YtjngkfepppejeaaW.PrintMore
open Go.Proofs.Ytjngkfepppejeaa.Pl Go.Proofs.Ytjngkfepppejeaa.EvN Go.Proofs.Ytjngkfepppejeaa.Lp Go.Proofs.Ytjngkfepppejeaa.Sets Go.Proofs.Ytjngkfepppejeaa.Mem Go.Proofs.Ytjngkfepppejeaa.Pick Go.Proofs.Ytjngkfepppejeaa.Qs Go.Proofs.Ytjngkfepppejeaa.Least2 Go.Proofs.Ytjngkfepppejeaa.Quo
set_option linter.unusedSimpArgs false
set_option linter.unusedVariables false
def Inc (l : List Int) : Prop := l.Pairwise (· < ·)
theorem last_ge {l : List Int} {q : Int} (hi : Inc l) (h : l.getLast? = some q) : ∀ x ∈ l, x ≤ q := by
  obtain ⟨z, rfl⟩ := List.getLast?_eq_some_iff.1 h
  intro x hx
  rcases List.mem_append.1 hx with h1 | h1
  · exact Int.le_of_lt ((List.pairwise_append.1 hi).2.2 x h1 q (by simp))
  · rw [List.mem_singleton.1 h1]
    exact Int.le_refl _
theorem rises_inc (many : Int) : ∀ (rest pre : List Int), okFrom (rises many) pre rest = true → Inc pre → Inc (pre ++ rest)
  | [], pre, _, h => by rw [List.append_nil]; exact h
  | x :: t, pre, h, hi => by
    simp only [okFrom, Bool.and_eq_true] at h
    have h2 : Inc (pre ++ [x]) := by
      refine List.pairwise_append.2 ⟨hi, by simp, fun a ha b hb => ?_⟩
      rw [List.mem_singleton.1 hb]
      rcases last_cases pre with rfl | ⟨q, hq⟩
      · cases ha
      · have h3 := (rises_yes h.1).2 q hq
        have h4 := last_ge hi hq a ha
        omega
    have := rises_inc many t (pre ++ [x]) h.2 h2
    rw [List.append_assoc] at this
    exact this
theorem members_inc {many : Int} {l : List Int} (h : members many l = true) : Inc l := by
  have := rises_inc many l [] h List.Pairwise.nil
  exact this
theorem msN_inc (b : Nat) : ∀ n, Inc (msN n b)
  | 0 => by
    show Inc []
    exact List.Pairwise.nil
  | n + 1 => by
    by_cases c : b.testBit n = true
    · rw [msN_yes c]
      refine List.pairwise_append.2 ⟨msN_inc b n, by simp, fun a ha x hx => ?_⟩
      rw [List.mem_singleton.1 hx]
      obtain ⟨m, h1, _, rfl⟩ := msN_mem.1 ha
      omega
    · rw [msN_no c]
      exact msN_inc b n
theorem inc_uniq : ∀ p q : List Int, Inc p → Inc q → (∀ x, x ∈ p ↔ x ∈ q) → p = q
  | [], [], _, _, _ => rfl
  | [], y :: t, _, _, h => absurd ((h y).2 (by simp)) (by simp)
  | x :: t, [], _, _, h => absurd ((h x).1 (by simp)) (by simp)
  | x :: t, y :: s, hp, hq, h => by
    have hp2 := List.pairwise_cons.1 hp
    have hq2 := List.pairwise_cons.1 hq
    have hxy : x = y := by
      rcases List.mem_cons.1 ((h x).1 (by simp)) with z | z
      · exact z
      · rcases List.mem_cons.1 ((h y).2 (by simp)) with z2 | z2
        · exact z2.symm
        · have := hq2.1 x z
          have := hp2.1 y z2
          omega
    subst hxy
    congr 1
    refine inc_uniq t s hp2.2 hq2.2 (fun w => ?_)
    constructor
    · intro hw
      rcases List.mem_cons.1 ((h w).1 (by simp [hw])) with e | e
      · have := hp2.1 w hw
        omega
      · exact e
    · intro hw
      rcases List.mem_cons.1 ((h w).2 (by simp [hw])) with e | e
      · have := hq2.1 w hw
        omega
      · exact e
theorem of_mask {n : Nat} {l : List Int} (hn : n ≤ 7) (h : members (n : Int) l = true) : l = msN n (maskN l) ∧ maskN l < 2 ^ n := by
  have hin := members_in h
  refine ⟨inc_uniq _ _ (members_inc h) (msN_inc _ _) (fun x => ?_), mask_lt n l hin⟩
  rw [msN_mem]
  constructor
  · intro hx
    have h1 := hin x hx
    refine ⟨x.toNat, by omega, ?_, by omega⟩
    rw [mask_bit l (fun y hy => (hin y hy).1), decide_eq_true_eq, Int.toNat_of_nonneg h1.1]
    exact hx
  · rintro ⟨m, h1, h2, rfl⟩
    rw [mask_bit l (fun y hy => (hin y hy).1), decide_eq_true_eq] at h2
    exact h2
end Go.Proofs.Ytjngkfepppejeaa.Quo2
end
section
namespace Go.Proofs.Ytjngkfepppejeaa.Draw
open Go.RowKit Go.Proofs.Ytjngkfepppejeaa.P Go.Proofs.YtjngkfepppejeaaW.PrintWords Go.Proofs.YtjngkfepppejeaaW.PrintLast Go.Proofs.YtjngkfepppejeaaW.PrintMore
open Go.Proofs.Ytjngkfepppejeaa.Pl Go.Proofs.Ytjngkfepppejeaa.EvN Go.Proofs.Ytjngkfepppejeaa.Lp Go.Proofs.Ytjngkfepppejeaa.Pick
set_option linter.unusedSimpArgs false
set_option linter.unusedVariables false
theorem wf_u8 {x : Int} (h : (Lit.int .u8 x).wf = true) : 0 ≤ x ∧ x ≤ 255 := by
  simp [Lit.wf] at h
  have h1 : IntKind.u8.min = 0 := by decide
  have h2 : IntKind.u8.max = 255 := by decide
  omega
def Bytes (s : List Int) : Prop := s.length ≤ 4611686018427387904 ∧ ∀ x ∈ s, 0 ≤ x ∧ x ≤ 255
theorem and_255 (a : Int) : 0 ≤ Go.bits .and .u64 a 255 ∧ Go.bits .and .u64 a 255 ≤ 255 := by
  have h : (BitVec.ofInt 64 a &&& BitVec.ofInt 64 255).toNat ≤ 255 := by
    rw [BitVec.toNat_and]
    exact Nat.and_le_right
  show 0 ≤ IntKind.u64.wrap ((BitVec.ofInt 64 a &&& BitVec.ofInt 64 255).toNat : Int) ∧ IntKind.u64.wrap ((BitVec.ofInt 64 a &&& BitVec.ofInt 64 255).toNat : Int) ≤ 255
  generalize (BitVec.ofInt 64 a &&& BitVec.ofInt 64 255).toNat = z at h
  simp [IntKind.wrap, IntKind.bits, IntKind.signed]
  omega
theorem rd_mem {l : List Int} {i : Int} (h0 : 0 ≤ i) (h : i < (l.length : Int)) : rd l i ∈ l := by
  have h2 : i.toNat < l.length := by omega
  have : rd l i = l[i.toNat] := by
    show l.getD _ _ = _
    simp [List.getD, h2]
  rw [this]
  exact List.getElem_mem h2
theorem next_f {s : List Int} (hs : Bytes s) (p st : Int) (h0 : 0 ≤ p) (h1 : p ≤ 4611686018427387904) : ∃ b q u, spec_l1Cur_next.f s p st = some (b, q, u) ∧ (0 ≤ b ∧ b ≤ 255) ∧ (p ≤ q ∧ q ≤ p + 1) := by
  have hw : wrap64 (p + 1) = p + 1 := wrap_in (by omega) (by omega)
  have hb : ∀ a : Int, 0 ≤ wrap64 (Go.bits .and .u64 a 255) ∧ wrap64 (Go.bits .and .u64 a 255) ≤ 255 := by
    intro a
    have := and_255 a
    rw [wrap_in (by omega) (by omega)]
    exact this
  unfold spec_l1Cur_next.f
  rw [hw]
  by_cases c : p < (s.length : Int)
  · rw [if_pos c, if_pos h0]
    have hr := hs.2 _ (rd_mem h0 c)
    by_cases d : p + 1 ≤ (s.length : Int)
    · rw [if_pos d]
      exact ⟨_, _, _, rfl, by rw [wrap_in (by omega) (by omega)]; exact hr, by omega⟩
    · rw [if_neg d]
      exact ⟨_, _, _, rfl, hb _, by omega⟩
  · rw [if_neg c]
    by_cases d : p + 1 ≤ (s.length : Int)
    · rw [if_pos d]
      exact ⟨_, _, _, rfl, by omega, by omega⟩
    · rw [if_neg d]
      exact ⟨_, _, _, rfl, hb _, by omega⟩
theorem pick_f {s : List Int} (hs : Bytes s) (p st : Int) (h0 : 0 ≤ p) (h1 : p ≤ 4611686018427387000) (a : Int) : ∃ b q u, spec_l1Cur_pick.f s p st a = some (b, q, u) ∧ (0 ≤ b ∧ (b < a ∨ b = 0)) ∧ (p ≤ q ∧ q ≤ p + 2) := by
  unfold spec_l1Cur_pick.f
  by_cases c : a ≤ 1
  · rw [if_pos c]
    exact ⟨_, _, _, rfl, by omega, by omega⟩
  · rw [if_neg c]
    obtain ⟨b, q, u, e, hb, hq⟩ := next_f hs p st h0 (by omega)
    rw [e]
    simp only [Option.bind_some]
    by_cases d : a > 200
    · rw [if_pos d]
      obtain ⟨b2, q2, u2, e2, hb2, hq2⟩ := next_f hs q u (by omega) (by omega)
      rw [e2]
      simp only [Option.bind_some]
      rw [if_neg (by omega)]
      refine ⟨_, _, _, rfl, ?_, by omega⟩
      rw [wrap_in (x := b * 256) (by omega) (by omega), wrap_in (x := b * 256 + b2) (by omega) (by omega)]
      exact ⟨Int.tmod_nonneg _ (by omega), .inl (Int.tmod_lt_of_pos _ (by omega))⟩
    · rw [if_neg d, if_neg (by omega)]
      exact ⟨_, _, _, rfl, ⟨Int.tmod_nonneg _ (by omega), .inl (Int.tmod_lt_of_pos _ (by omega))⟩, by omega⟩
theorem one_f {s : List Int} (hs : Bytes s) (p st : Int) (h0 : 0 ≤ p) (h1 : p ≤ 4611686018427387000) (a : Int) : ∃ b q u, spec_l1Cur_one.f s p st a = some (b, q, u) ∧ (p ≤ q ∧ q ≤ p + 2) := by
  obtain ⟨b, q, u, e, _, hq⟩ := pick_f hs p st h0 h1 a
  unfold spec_l1Cur_one.f
  rw [e]
  exact ⟨_, _, _, rfl, hq⟩
theorem among_f {s : List Int} (hs : Bytes s) (p st : Int) (h0 : 0 ≤ p) (h1 : p ≤ 4611686018427387000) (l : List Int) (hl : 1 ≤ l.length) : ∃ b q u, spec_l1Cur_among.f s p st l = some (b, q, u) ∧ b ∈ l ∧ (p ≤ q ∧ q ≤ p + 2) := by
  obtain ⟨b, q, u, e, hb, hq⟩ := pick_f hs p st h0 h1 (l.length : Int)
  unfold spec_l1Cur_among.f
  rw [e]
  simp only [Option.bind_some]
  rw [if_pos hb.1, if_pos (by omega)]
  exact ⟨_, _, _, rfl, rd_mem hb.1 (by omega), hq⟩
theorem some_go {s : List Int} (hs : Bytes s) (n : Nat) (hn : n ≤ 100) : ∀ (d i : Nat) (acc : List Int) (p st : Int), i + d = n → acc.length ≤ i → 0 ≤ p → p + 2 * (d : Int) ≤ 4611686018427380000 → ∃ r q u, Cm (fun k => spec_l1Cur_some.l0 k (n : Int) acc (i : Int) s p st) (r, q, u) ∧ r.length ≤ n + 1 ∧ (p ≤ q ∧ q ≤ p + 2 * d + 4)
  | 0, i, acc, p, st, hi, ha, h0, h1 => by
    obtain ⟨b, q, u, e, hq⟩ := one_f hs p st h0 (by omega) 30
    have key : ∃ r q2 u2, Cm (fun k => spec_l1Cur_some.l0 k (n : Int) acc (i : Int) s p st) (r, q2, u2) ∧ r.length ≤ n + 1 ∧ (q ≤ q2 ∧ q2 ≤ q + 2) := by
      cases b with
      | true =>
        obtain ⟨b2, q2, u2, e2, _, hq2⟩ := pick_f hs q u (by omega) (by omega) 9
        refine ⟨acc ++ [b2], q2, u2, ?_, by rw [List.length_append]; simp only [List.length_cons, List.length_nil]; omega, hq2⟩
        refine cm_step (fun k => by rw [spec_l1Cur_some.l0]) ?_
        refine cm_no (by omega) ?_
        refine cm_bind (cm_now fun _ => e) ?_
        refine cm_yes rfl ?_
        refine cm_bind (cm_now fun _ => e2) ?_
        refine cm_yes (by omega) ?_
        exact cm_now fun _ => rfl
      | false =>
        refine ⟨acc, q, u, ?_, by omega, by omega⟩
        refine cm_step (fun k => by rw [spec_l1Cur_some.l0]) ?_
        refine cm_no (by omega) ?_
        refine cm_bind (cm_now fun _ => e) ?_
        refine cm_no (fun h => Bool.false_ne_true h) ?_
        exact cm_now fun _ => rfl
    obtain ⟨r, q2, u2, a, b, c⟩ := key
    exact ⟨r, q2, u2, a, b, by omega⟩
  | d + 1, i, acc, p, st, hi, ha, h0, h1 => by
    obtain ⟨b, q, u, e, hq⟩ := one_f hs p st h0 (by omega) 2
    cases b with
    | true =>
      obtain ⟨r, q2, u2, a, b, c⟩ := some_go hs n hn d (i + 1) (acc ++ [(i : Int)]) q u (by omega) (by simp; omega) (by omega) (by omega)
      refine ⟨r, q2, u2, cm_step (fun k => by rw [spec_l1Cur_some.l0]) ?_, b, by omega⟩
      simp only [wrap_n (show i < n by omega) (show n ≤ 4611686018427387904 by omega)]
      exact cm_yes (by omega) (cm_bind (cm_now fun _ => e) (cm_yes rfl (cm_yes (by omega) a)))
    | false =>
      obtain ⟨r, q2, u2, a, b, c⟩ := some_go hs n hn d (i + 1) acc q u (by omega) (by omega) (by omega) (by omega)
      refine ⟨r, q2, u2, cm_step (fun k => by rw [spec_l1Cur_some.l0]) ?_, b, by omega⟩
      simp only [wrap_n (show i < n by omega) (show n ≤ 4611686018427387904 by omega)]
      exact cm_yes (by omega) (cm_bind (cm_now fun _ => e) (cm_no (by simp) a))
theorem some_f {s : List Int} (hs : Bytes s) (n : Nat) (hn : n ≤ 100) (p st : Int) (h0 : 0 ≤ p) (h1 : p ≤ 4611686018427370000) : ∃ r q u, Cm (fun k => spec_l1Cur_some.f k s p st (n : Int)) (r, q, u) ∧ r.length ≤ n + 1 ∧ (p ≤ q ∧ q ≤ p + 2 * n + 4) := by
  unfold spec_l1Cur_some.f
  exact some_go hs n hn n 0 [] p st (by omega) (by simp) h0 (by omega)
end Go.Proofs.Ytjngkfepppejeaa.Draw
end
section
namespace Go.Proofs.Ytjngkfepppejeaa.Quo3
open Go.RowKit Go.Proofs.Ytjngkfepppejeaa.P Go.Proofs.YtjngkfepppejeaaW.PrintWords Go.Proofs.YtjngkfepppejeaaW.PrintLast Go.Proofs.YtjngkfepppejeaaW.PrintMore
open Go.Proofs.Ytjngkfepppejeaa.Pl Go.Proofs.Ytjngkfepppejeaa.EvN Go.Proofs.Ytjngkfepppejeaa.Lp Go.Proofs.Ytjngkfepppejeaa.Sets Go.Proofs.Ytjngkfepppejeaa.Mem Go.Proofs.Ytjngkfepppejeaa.Pick Go.Proofs.Ytjngkfepppejeaa.Qs Go.Proofs.Ytjngkfepppejeaa.Least2 Go.Proofs.Ytjngkfepppejeaa.Quo Go.Proofs.Ytjngkfepppejeaa.Quo2 Go.Proofs.Ytjngkfepppejeaa.Draw
set_option linter.unusedSimpArgs false
set_option linter.unusedVariables false
theorem good_iff {W : List Int} {need : Int} : good W need = true ↔ Wok W ∧ (1 ≤ W.length ∧ W.length ≤ 7) ∧ (1 ≤ need ∧ need ≤ 100) := by
  simp [good, Wok]
def leastV (W : List Int) (need : Int) : List (List Int) × Bool := if good W need = true then (lsts (PV W need) W.length (2 ^ W.length), true) else ([], false)
theorem least_f (W : List Int) (need : Int) (hl : W.length ≤ 4611686018427387904) : Cm (fun k => spec_LeastQuorums.f k W need) (leastV W need) ∧ Cm (fun k => impl_LeastQuorums.f k W need) (leastV W need) := by
  obtain ⟨r1, r2, h1, h2, _⟩ := least_both W need hl
  suffices h : (r1, r2) = leastV W need by rw [← h]; exact ⟨h1, h2⟩
  refine cm_one h2 ?_
  unfold impl_LeastQuorums.f leastV
  by_cases c : good W need = true
  · rw [if_pos c]
    have hw := (good_iff.1 c).2.1
    exact cm_bind (good_impl W need hl) (cm_yes c (cm_bind (limpl_f W need (PV W need) W.length hw.2 (isq_f W need hw.2)) (cm_now fun _ => rfl)))
  · rw [if_neg c]
    exact cm_bind (good_impl W need hl) (cm_no c (cm_now fun _ => rfl))
end Go.Proofs.Ytjngkfepppejeaa.Quo3
end
section
namespace Go.Proofs.Ytjngkfepppejeaa.Quo4
open Go.RowKit Go.Proofs.Ytjngkfepppejeaa.P Go.Proofs.YtjngkfepppejeaaW.PrintWords Go.Proofs.YtjngkfepppejeaaW.PrintLast Go.Proofs.YtjngkfepppejeaaW.PrintMore
open Go.Proofs.Ytjngkfepppejeaa.Pl Go.Proofs.Ytjngkfepppejeaa.EvN Go.Proofs.Ytjngkfepppejeaa.Lp Go.Proofs.Ytjngkfepppejeaa.Sets Go.Proofs.Ytjngkfepppejeaa.Mem Go.Proofs.Ytjngkfepppejeaa.Pick Go.Proofs.Ytjngkfepppejeaa.Qs Go.Proofs.Ytjngkfepppejeaa.Least2 Go.Proofs.Ytjngkfepppejeaa.Quo Go.Proofs.Ytjngkfepppejeaa.Quo2 Go.Proofs.Ytjngkfepppejeaa.Quo3 Go.Proofs.Ytjngkfepppejeaa.Draw
set_option linter.unusedSimpArgs false
set_option linter.unusedVariables false
theorem msN_members (many b : Nat) : ∀ n, n ≤ many → members (many : Int) (msN n b) = true
  | 0, _ => rfl
  | n + 1, hn => by
    have h1 := msN_members many b n (by omega)
    by_cases c : b.testBit n = true
    · rw [msN_yes c]
      unfold members at h1 ⊢
      rw [okFrom_append, h1, List.nil_append]
      simp only [okFrom, Bool.and_true, Bool.true_and, rises, Bool.and_eq_true, decide_eq_true_eq]
      refine ⟨by omega, ?_⟩
      cases e : (msN n b).getLast? with
      | none => rfl
      | some q =>
        obtain ⟨m, h2, _, h3⟩ := msN_mem.1 (List.mem_of_getLast? e)
        show decide (q < (n : Int)) = true
        rw [decide_eq_true_eq]
        omega
    · rw [msN_no c]
      exact h1
theorem lst_P {P : Nat → Bool} {n b : Nat} (h : lst P n b = true) : P b = true := by
  unfold lst at h
  cases e : P b with
  | true => rfl
  | false => rw [e] at h; simp at h
theorem lsts_of {P : Nat → Bool} {n i : Nat} {y : List Int} (h : y ∈ lsts P n i) : ∃ b, b < i ∧ lst P n b = true ∧ y = ms b := by
  simp only [lsts, List.mem_map, List.mem_filter, List.mem_range] at h
  obtain ⟨b, h1, rfl⟩ := h
  exact ⟨b, h1.1, h1.2, rfl⟩
theorem of_lsts {P : Nat → Bool} {n i b : Nat} (hb : b < i) (h : lst P n b = true) : ms b ∈ lsts P n i := by
  simp only [lsts, List.mem_map, List.mem_filter, List.mem_range]
  exact ⟨b, ⟨hb, h⟩, rfl⟩
end Go.Proofs.Ytjngkfepppejeaa.Quo4
end
section
namespace Go.Proofs.Ytjngkfepppejeaa.Quo5
open Go.RowKit Go.Proofs.Ytjngkfepppejeaa.P Go.Proofs.YtjngkfepppejeaaW.PrintWords Go.Proofs.YtjngkfepppejeaaW.PrintLast Go.Proofs.YtjngkfepppejeaaW.PrintMore
open Go.Proofs.Ytjngkfepppejeaa.Pl Go.Proofs.Ytjngkfepppejeaa.EvN Go.Proofs.Ytjngkfepppejeaa.Lp Go.Proofs.Ytjngkfepppejeaa.Sets Go.Proofs.Ytjngkfepppejeaa.Mem Go.Proofs.Ytjngkfepppejeaa.Pick Go.Proofs.Ytjngkfepppejeaa.Qs Go.Proofs.Ytjngkfepppejeaa.Least2 Go.Proofs.Ytjngkfepppejeaa.Quo Go.Proofs.Ytjngkfepppejeaa.Quo2 Go.Proofs.Ytjngkfepppejeaa.Quo3 Go.Proofs.Ytjngkfepppejeaa.Quo4 Go.Proofs.Ytjngkfepppejeaa.Draw
set_option linter.unusedSimpArgs false
set_option linter.unusedVariables false
theorem votes_j1 {s : List Int} (hs : Bytes s) (W : List Int) (need : Int) (hW : 1 ≤ W.length ∧ W.length ≤ 6) (p st : Int) (h0 : 0 ≤ p) (h1 : p ≤ 4611686018427380000) : ∃ R q u, Cm (fun k => spec_l1Cur_votes.j1 k s p st W need) (R, need, q, u) ∧ R.length ≤ 6 ∧ (p ≤ q ∧ q ≤ p + 4) := by
  obtain ⟨b, q, u, e, hq⟩ := one_f hs p st h0 (by omega) 30
  cases b with
  | true =>
    obtain ⟨b2, q2, u2, e2, _, hq2⟩ := among_f hs q u (by omega) (by omega) [(-1), 9, 10] (by simp)
    refine ⟨W.set (0 : Int).toNat b2, q2, u2, ?_, by simp; omega, by omega⟩
    refine cm_step (fun k => by rw [spec_l1Cur_votes.j1]) ?_
    refine cm_bind (cm_now fun _ => e) ?_
    refine cm_yes rfl ?_
    refine cm_bind (cm_now fun _ => e2) ?_
    refine cm_yes (by omega) ?_
    exact cm_now fun _ => rfl
  | false =>
    refine ⟨W, q, u, ?_, by omega, by omega⟩
    refine cm_step (fun k => by rw [spec_l1Cur_votes.j1]) ?_
    refine cm_bind (cm_now fun _ => e) ?_
    refine cm_no (fun h => Bool.false_ne_true h) ?_
    exact cm_now fun _ => rfl
theorem votes_go {s : List Int} (hs : Bytes s) (z : Int) : ∀ (d : Nat) (acc : List Int) (x p st : Int), acc.length + d ≤ 6 → 1 ≤ acc.length + d → 0 ≤ p → p + 2 * (d : Int) ≤ 4611686018427370000 →
    ∃ R n q u, Cm (fun k => spec_l1Cur_votes.l0 k x (d : Int) s p st acc z) (R, n, q, u) ∧ R.length ≤ 6 ∧ (p ≤ q ∧ q ≤ p + 2 * (d : Int) + 8)
  | 0, acc, x, p, st, ha, ha1, h0, h1 => by
    obtain ⟨b, q, u, e, hq⟩ := one_f hs p st h0 (by omega) 4
    cases b with
    | true =>
      obtain ⟨b2, q2, u2, e2, _, hq2⟩ := pick_f hs q u (by omega) (by omega) 12
      obtain ⟨R, q3, u3, a, l, c⟩ := votes_j1 hs acc (wrap64 (1 + b2)) (by omega) q2 u2 (by omega) (by omega)
      refine ⟨R, wrap64 (1 + b2), q3, u3, ?_, l, by omega⟩
      refine cm_step (fun k => by rw [spec_l1Cur_votes.l0]) ?_
      refine cm_no (by omega) ?_
      refine cm_bind (cm_now fun _ => e) ?_
      refine cm_yes rfl ?_
      refine cm_bind (cm_now fun _ => e2) ?_
      exact a
    | false =>
      obtain ⟨R, q3, u3, a, l, c⟩ := votes_j1 hs acc (wrap64 ((wrap64 (Int.tdiv x 2)) + 1)) (by omega) q u (by omega) (by omega)
      refine ⟨R, wrap64 ((wrap64 (Int.tdiv x 2)) + 1), q3, u3, ?_, l, by omega⟩
      refine cm_step (fun k => by rw [spec_l1Cur_votes.l0]) ?_
      refine cm_no (by omega) ?_
      refine cm_bind (cm_now fun _ => e) ?_
      refine cm_no (fun h => Bool.false_ne_true h) ?_
      exact a
  | d + 1, acc, x, p, st, ha, ha1, h0, h1 => by
    obtain ⟨b, q, u, e, _, hq⟩ := among_f hs p st h0 (by omega) [1, 1, 1, 2, 0, 3] (by simp)
    obtain ⟨R, n, q2, u2, a, b2, c⟩ := votes_go hs z d (acc ++ [b]) (wrap64 (x + b)) q u (by rw [List.length_append]; simp only [List.length_cons, List.length_nil]; omega) (by rw [List.length_append]; simp only [List.length_cons, List.length_nil]; omega) (by omega) (by omega)
    refine ⟨R, n, q2, u2, ?_, b2, by omega⟩
    refine cm_step (fun k => by rw [spec_l1Cur_votes.l0]) ?_
    simp only [show wrap64 (((d + 1 : Nat) : Int) - 1) = (d : Int) from by rw [wrap_in (by omega) (by omega)]; omega]
    refine cm_yes (by omega) ?_
    refine cm_bind (cm_now fun _ => e) ?_
    refine cm_yes (by omega) ?_
    exact a
end Go.Proofs.Ytjngkfepppejeaa.Quo5
end
section
namespace Go.Proofs.Ytjngkfepppejeaa.Quo6
open Go.RowKit Go.Proofs.Ytjngkfepppejeaa.P Go.Proofs.YtjngkfepppejeaaW.PrintWords Go.Proofs.YtjngkfepppejeaaW.PrintLast Go.Proofs.YtjngkfepppejeaaW.PrintMore
open Go.Proofs.Ytjngkfepppejeaa.Pl Go.Proofs.Ytjngkfepppejeaa.EvN Go.Proofs.Ytjngkfepppejeaa.Lp Go.Proofs.Ytjngkfepppejeaa.Sets Go.Proofs.Ytjngkfepppejeaa.Mem Go.Proofs.Ytjngkfepppejeaa.Pick Go.Proofs.Ytjngkfepppejeaa.Qs Go.Proofs.Ytjngkfepppejeaa.Least2 Go.Proofs.Ytjngkfepppejeaa.Quo Go.Proofs.Ytjngkfepppejeaa.Quo2 Go.Proofs.Ytjngkfepppejeaa.Quo3 Go.Proofs.Ytjngkfepppejeaa.Quo4 Go.Proofs.Ytjngkfepppejeaa.Quo5
set_option linter.unusedSimpArgs false
set_option linter.unusedVariables false
def meetV (l : List (List Int)) : Bool × Bool := if groups 7 l = true then (allMeet l, true) else (false, false)
theorem implAllMeet_f (l : List (List Int)) (hl : Len2 l) : Cm (fun k => impl_AllMeet.f k l) (meetV l) := by
  unfold impl_AllMeet.f meetV
  refine cm_bind (areGroups_f l 7 hl.1 hl.2 (by omega)) ?_
  by_cases c : groups 7 l = true
  · rw [if_pos c]
    exact cm_yes c (cm_bind (allMeet_f l (groups_fit (by omega) c hl.2)) (cm_now fun _ => rfl))
  · rw [if_neg c]
    exact cm_no c (cm_now fun _ => rfl)
end Go.Proofs.Ytjngkfepppejeaa.Quo6
end
section
namespace Go.Proofs.Ytjngkfepppejeaa.Least3
open Go.RowKit Go.Proofs.Ytjngkfepppejeaa.P Go.Proofs.YtjngkfepppejeaaW.PrintWords Go.Proofs.YtjngkfepppejeaaW.PrintLast Go.Proofs.YtjngkfepppejeaaW.PrintMore
open Go.Proofs.Ytjngkfepppejeaa.Pl Go.Proofs.Ytjngkfepppejeaa.EvN Go.Proofs.Ytjngkfepppejeaa.Lp Go.Proofs.Ytjngkfepppejeaa.Sets Go.Proofs.Ytjngkfepppejeaa.Mem Go.Proofs.Ytjngkfepppejeaa.Pick Go.Proofs.Ytjngkfepppejeaa.Qs Go.Proofs.Ytjngkfepppejeaa.Least2
set_option linter.unusedSimpArgs false
set_option linter.unusedVariables false
def PB (l : List (List Int)) (b : Nat) : Bool := l.all (fun g => meet g (ms b))
theorem blocks_f (l : List (List Int)) (hl : l.length ≤ 4611686018427387904) (hs : ∀ g ∈ l, g.length ≤ 4611686018427387904) (c : Nat) : Cm (fun k => spec_l6Blocks.f k l (ms c)) (PB l c) := by
  unfold spec_l6Blocks.f
  have h7 := ms_len c
  have := every_cm (L := fun k i => spec_l6Blocks.l0 k (ms c) l (l.length : Int) i) l (fun g => meet g (ms c)) (fin := true) (no := false) ?_ ?_ ?_
  · refine cm_val this ?_
    unfold PB
    cases l.all fun g => meet g (ms c) <;> simp
  · intro pre g t e hlt hp v hv
    have hg := hs g (by rw [← e]; simp)
    refine cm_step (fun k => by rw [spec_l6Blocks.l0]) ?_
    simp only [l1_at e, wrap_len hlt hl]
    exact cm_yes (by omega) (cm_yes (by omega) (cm_yes (by omega) (cm_bind (meet_f _ _ hg (by omega)) (cm_yes hp hv))))
  · intro pre g t e hlt hp
    have hg := hs g (by rw [← e]; simp)
    refine cm_step (fun k => by rw [spec_l6Blocks.l0]) ?_
    simp only [l1_at e, wrap_len hlt hl]
    exact cm_yes (by omega) (cm_yes (by omega) (cm_yes (by omega) (cm_bind (meet_f _ _ hg (by omega)) (cm_no (by simpa using hp) (cm_now fun _ => rfl)))))
  · intro _
    refine cm_step (fun k => by rw [spec_l6Blocks.l0]) ?_
    exact cm_no (by omega) (cm_now fun _ => rfl)
theorem anyB_index (a : Int) (l : List (List Int)) (hl : l.length ≤ 4611686018427387904) (p : (List Int) → Bool) (hc : ∀ h ∈ l, Cm (fun k => impl_BlocksOf_1_1.f k h a) (p h)) :
    Cm (fun k => slices_IndexFunc_int_int_of_impl_BlocksOf_1_1.f k l a) (foundAt p (fun i _ => (i : Int)) (-1) 0 l) := by
  unfold slices_IndexFunc_int_int_of_impl_BlocksOf_1_1.f
  refine find_cm (L := fun k i => slices_IndexFunc_int_int_of_impl_BlocksOf_1_1.l0 k l (l.length : Int) i a) l p (fun i _ => (i : Int)) (none_ := (-1 : Int)) ?_ ?_ ?_
  · intro pre h t e hlt hp v hv
    refine cm_step (fun k => by rw [slices_IndexFunc_int_int_of_impl_BlocksOf_1_1.l0]) ?_
    simp only [l1_at e, wrap_len hlt hl]
    refine cm_yes (by omega) (cm_yes (by omega) (cm_yes (by omega) (cm_bind (hc h (by rw [← e]; simp)) ?_)))
    exact cm_no (by simpa using hp) hv
  · intro pre h t e hlt hp
    refine cm_step (fun k => by rw [slices_IndexFunc_int_int_of_impl_BlocksOf_1_1.l0]) ?_
    simp only [l1_at e, wrap_len hlt hl]
    refine cm_yes (by omega) (cm_yes (by omega) (cm_yes (by omega) (cm_bind (hc h (by rw [← e]; simp)) ?_)))
    exact cm_yes hp (cm_now fun _ => rfl)
  · refine cm_step (fun k => by rw [slices_IndexFunc_int_int_of_impl_BlocksOf_1_1.l0]) ?_
    exact cm_no (by omega) (cm_now fun _ => rfl)
theorem anyB (a : Int) (l : List (List Int)) (hl : l.length ≤ 4611686018427387904) (p : (List Int) → Bool) (hc : ∀ h ∈ l, Cm (fun k => impl_BlocksOf_1_1.f k h a) (p h)) : Cm (fun k => slices_ContainsFunc_int_int_of_impl_BlocksOf_1_1.f k l a) (l.any p) := by
  unfold slices_ContainsFunc_int_int_of_impl_BlocksOf_1_1.f
  refine cm_bind (anyB_index a l hl p hc) (cm_now fun _ => ?_)
  rw [found_any]
theorem isb_f (l : List (List Int)) (hl : l.length ≤ 4611686018427387904) (hf : ∀ g ∈ l, Fits g) {n : Nat} (hn : n ≤ 7) : ∀ c : Nat, c < 2 ^ n → Cm (fun k => impl_BlocksOf_1.f k (c : Int) l) (PB l c) := by
  intro c hc
  have hp := pow_le7 hn
  unfold impl_BlocksOf_1.f
  refine cm_bind (anyB (c : Int) l hl (fun g => !meet g (ms c)) (fun g hg => ?_)) (cm_now fun _ => ?_)
  · have h2 := hf g hg
    unfold impl_BlocksOf_1_1.f
    refine cm_bind (maskOf_f g h2) (cm_now fun _ => ?_)
    have hm := meet_mask g (ms c) h2.pos (fun x hx => (ms_in hc hn x hx).1)
    rw [mask_all c (by omega)] at hm
    rw [and_i64 _ _ h2.lt (by omega)]
    by_cases h : maskN g &&& c = 0
    · have h3 : meet g (ms c) = false := by
        cases hq : meet g (ms c) with
        | false => rfl
        | true => exact absurd h (hm.1 hq)
      rw [h3, h]
      rfl
    · rw [hm.2 h]
      simp [h]
  · rw [not_any _ (fun g => meet g (ms c)) l (fun _ _ => rfl)]
    rfl
theorem limpl_l1 (l : List (List Int)) (P : Nat → Bool) (n : Nat) (hn : n ≤ 7) (hP : ∀ c : Nat, c < 2 ^ n → Cm (fun k => impl_BlocksOf_1.f k (c : Int) l) (P c)) (b : Nat) (hb : b < 2 ^ n) (s : List (List Int)) (hs : s.length ≤ 128) (u : List (List Int))
    (h : Cm (fun k => impl_leastSets_of_impl_BlocksOf_1.l0 k (n : Int) (if lst P n b = true then s ++ [ms b] else s) ((2 ^ n : Nat) : Int) ((b + 1 : Nat) : Int) l) u) :
    Cm (fun k => impl_leastSets_of_impl_BlocksOf_1.l1 k (n : Int) s (b : Int) (P b) ((2 ^ n : Nat) : Int) (b : Int) (n : Int) 0 l) u := by
  have hp := pow_le7 hn
  have key := iter_cm (L := fun k i q => impl_leastSets_of_impl_BlocksOf_1.l1 k (n : Int) s (b : Int) q ((2 ^ n : Nat) : Int) (b : Int) (n : Int) i l) n (fun i => P b && (List.range i).all (fun m => !b.testBit m || !P (off b m))) (v := u) ?_ ?_
  · simp only [List.range_zero, List.all_nil, Bool.and_true] at key
    exact key
  · intro i hi u hu
    have ho : off b i < 2 ^ n := Nat.lt_of_le_of_lt (off_le b i) hb
    rw [List.range_succ, List.all_append, ← Bool.and_assoc] at hu
    simp only [List.all_cons, List.all_nil, Bool.and_true] at hu
    generalize (P b && (List.range i).all (fun m => !b.testBit m || !P (off b m))) = q at hu ⊢
    refine cm_step (fun k => by rw [impl_leastSets_of_impl_BlocksOf_1.l1]) ?_
    simp only [wrap_n hi (show n ≤ 4611686018427387904 by omega), bit_n (show b < 128 by omega) (show i < 7 by omega), off_n (show b < 128 by omega) (show i < 7 by omega)]
    refine cm_yes (by omega) ?_
    cases q with
    | false => exact cm_no (by simp) (by simpa using hu)
    | true =>
      refine cm_yes rfl (cm_yes (by omega) ?_)
      by_cases c : b.testBit i = true
      · exact cm_no (by simp [c]) (cm_bind (hP _ ho) (by simpa [c] using hu))
      · exact cm_yes (by simp [c]) (by simpa [c] using hu)
  · refine cm_step (fun k => by rw [impl_leastSets_of_impl_BlocksOf_1.l1]) ?_
    simp only [wrap_n (n := 2 ^ n) hb (show 2 ^ n ≤ 4611686018427387904 by omega)]
    refine cm_no (by omega) ?_
    by_cases c : lst P n b = true
    · rw [if_pos c] at h
      exact cm_yes c (cm_bind (members_f (by omega)) (cm_yes (by omega) h))
    · rw [if_neg c] at h
      exact cm_no c h
theorem limpl_f (l : List (List Int)) (P : Nat → Bool) (n : Nat) (hn : n ≤ 7) (hP : ∀ c : Nat, c < 2 ^ n → Cm (fun k => impl_BlocksOf_1.f k (c : Int) l) (P c)) :
    Cm (fun k => impl_leastSets_of_impl_BlocksOf_1.f k (n : Int) l) (lsts P n (2 ^ n)) := by
  have hp := pow_le7 hn
  unfold impl_leastSets_of_impl_BlocksOf_1.f
  simp only [shl_n hn]
  refine cm_yes (by omega) ?_
  refine iter_cm (L := fun k i s => impl_leastSets_of_impl_BlocksOf_1.l0 k (n : Int) s ((2 ^ n : Nat) : Int) i l) (2 ^ n) (fun i => lsts P n i) ?_ ?_
  · intro b hb u hu
    refine cm_step (fun k => by rw [impl_leastSets_of_impl_BlocksOf_1.l0]) ?_
    refine cm_yes (by omega) (cm_bind (hP b hb) ?_)
    refine limpl_l1 l P n hn hP b hb (lsts P n b) (by have := lsts_len P n b; omega) u ?_
    by_cases c : lst P n b = true
    · rw [if_pos c, ← lsts_yes c]; exact hu
    · rw [if_neg c, ← lsts_no (by simpa using c)]; exact hu
  · refine cm_step (fun k => by rw [impl_leastSets_of_impl_BlocksOf_1.l0]) ?_
    exact cm_no (by omega) (cm_now fun _ => rfl)
theorem lspec_l1 (n : Nat) (l : List (List Int)) (P : Nat → Bool) (hn : n ≤ 7) (hq : ∀ c : Nat, c < 2 ^ n → Cm (fun k => spec_l6Blocks.f k l (ms c)) (P c)) (b : Nat) (hb : b < 2 ^ n) (s : List (List Int)) (hs : s.length ≤ 128) (u : List (List Int) × Bool)
    (h : Cm (fun k => spec_BlocksOf.l0 k (n : Int) l (if lst P n b = true then s ++ [ms b] else s) ((b + 1 : Nat) : Int)) u) :
    Cm (fun k => spec_BlocksOf.l1 k (n : Int) l s (b : Int) (ms b) (P b) ((ms b).length : Int) 0) u := by
  have hp := pow_le7 hn
  refine fold_cm (L := fun k i q => spec_BlocksOf.l1 k (n : Int) l s (b : Int) (ms b) q ((ms b).length : Int) i) (ms b) (fun q x => q && !P (off b x.toNat)) (fun _ _ => True) (P b) trivial ?_ ?_
  · intro pre x t q e hlt _
    refine ⟨trivial, fun u hu => ?_⟩
    have ho : off b x.toNat < 2 ^ n := Nat.lt_of_le_of_lt (off_le b _) hb
    have h7 := ms_len b
    refine cm_step (fun k => by rw [spec_BlocksOf.l1]) ?_
    simp only [without_f (show b < 128 by omega) e, wrap_len hlt (show (ms b).length ≤ 4611686018427387904 by omega)]
    refine cm_yes (by omega) ?_
    cases q with
    | false => exact cm_no (by simp) (by simpa using hu)
    | true => exact cm_yes rfl (cm_bind (cm_now fun _ => rfl) (cm_bind (hq _ ho) (by simpa [Bool.true_and] using hu)))
  · intro _
    rw [fold_and, lst_ms P hb hn]
    refine cm_step (fun k => by rw [spec_BlocksOf.l1]) ?_
    simp only [wrap_n (n := 2 ^ n) hb (show 2 ^ n ≤ 4611686018427387904 by omega)]
    refine cm_no (by omega) ?_
    by_cases c : lst P n b = true
    · rw [if_pos c] at h
      exact cm_yes c (cm_yes (by omega) h)
    · rw [if_neg c] at h
      exact cm_no c h
theorem lspec_f (n : Nat) (l : List (List Int)) (P : Nat → Bool) (hn : n ≤ 7) (hq : ∀ c : Nat, c < 2 ^ n → Cm (fun k => spec_l6Blocks.f k l (ms c)) (P c)) (s : Nat) (hs : s ≤ 2 ^ n) :
    Cm (fun k => spec_BlocksOf.l0 k (n : Int) l (lsts P n s) (s : Int)) (if (lsts P n (2 ^ n)).length > 40 then ([], false) else (lsts P n (2 ^ n), true)) := by
  have hp := pow_le7 hn
  refine iterf_cm (L := fun k i s => spec_BlocksOf.l0 k (n : Int) l s i) s (2 ^ n) hs (fun i => lsts P n i) ?_ ?_
  · intro b _ hb u hu
    refine cm_step (fun k => by rw [spec_BlocksOf.l0]) ?_
    simp only [u64_in hn, shl_n hn]
    refine cm_yes (by omega) (cm_yes (by omega) (cm_bind (list_f (by omega)) (cm_bind (hq b hb) ?_)))
    refine lspec_l1 n l P hn hq b hb (lsts P n b) (by have := lsts_len P n b; omega) u ?_
    by_cases c : lst P n b = true
    · rw [if_pos c, ← lsts_yes c]; exact hu
    · rw [if_neg c, ← lsts_no (by simpa using c)]; exact hu
  · refine cm_step (fun k => by rw [spec_BlocksOf.l0]) ?_
    simp only [u64_in hn, shl_n hn]
    refine cm_yes (by omega) (cm_no (by omega) ?_)
    by_cases c : (lsts P n (2 ^ n)).length > 40
    · exact cm_yes (by omega) (cm_now fun _ => by rw [if_pos c])
    · exact cm_no (by omega) (cm_now fun _ => by rw [if_neg c])
theorem fits_of {many : Int} {l : List (List Int)} (h7 : many ≤ 7) (hs : ∀ g ∈ l, g.length ≤ 4611686018427387904) (h : groups many l = true) : ∀ g ∈ l, Fits g := by
  intro g hg
  have h2 := ((groups_iff.1 h).1 g hg).2
  exact ⟨hs g hg, fun x hx => by have := members_in h2 x hx; omega⟩
theorem blocks_both (a : Int) (l : List (List Int)) (hl : l.length ≤ 4611686018427387904) (hs : ∀ g ∈ l, g.length ≤ 4611686018427387904) :
    ∃ r1 r2, Cm (fun k => spec_BlocksOf.f k a l) (r1, r2) ∧ Cm (fun k => impl_BlocksOf.f k a l) (r1, r2) ∧ (r1.length ≤ 128 ∧ ∀ y ∈ r1, y.length ≤ 7) := by
  unfold spec_BlocksOf.f impl_BlocksOf.f
  simp only [l1In_f, in_f]
  have hbad1 : Cm (fun k => spec_BlocksOf.j0 k a l true) (([] : List (List Int)), false) := by
    refine cm_step (fun k => by rw [spec_BlocksOf.j0]) ?_
    exact cm_yes rfl (cm_now fun _ => rfl)
  have hbad2 : Cm (fun k => impl_BlocksOf.j0 k a true l) (([] : List (List Int)), false) := by
    refine cm_step (fun k => by rw [impl_BlocksOf.j0]) ?_
    exact cm_yes rfl (cm_now fun _ => rfl)
  by_cases c : 1 ≤ a ∧ a ≤ 7
  · by_cases g : groups a l = true
    · obtain ⟨n, rfl⟩ := Int.eq_ofNat_of_zero_le (show 0 ≤ a by omega)
      have hn : n ≤ 7 := by omega
      have hp := pow_le7 hn
      have hf := fits_of (by omega) hs g
      have h1 := lspec_f n l (PB l) hn (fun c _ => blocks_f l hl hs c) 0 (Nat.zero_le _)
      have h2 := limpl_f l (PB l) n hn (isb_f l hl hf hn)
      have hlen := lsts_len (PB l) n (2 ^ n)
      by_cases c40 : (lsts (PB l) n (2 ^ n)).length > 40
      · rw [if_pos c40] at h1
        refine ⟨[], false, cm_bind (cm_now fun _ => rfl) (cm_yes (by simpa using c) (cm_bind (groups_f l n hl hs) ?_)), cm_bind (cm_now fun _ => rfl) (cm_yes (by simpa using c) (cm_bind (areGroups_f l n hl hs (by omega)) ?_)), by simp, by simp⟩
        · refine cm_step (fun k => by rw [spec_BlocksOf.j0]) ?_
          exact cm_no (by simp [g]) h1
        · refine cm_step (fun k => by rw [impl_BlocksOf.j0]) ?_
          exact cm_no (by simp [g]) (cm_bind h2 (cm_yes (by omega) (cm_now fun _ => rfl)))
      · rw [if_neg c40] at h1
        refine ⟨lsts (PB l) n (2 ^ n), true, cm_bind (cm_now fun _ => rfl) (cm_yes (by simpa using c) (cm_bind (groups_f l n hl hs) ?_)), cm_bind (cm_now fun _ => rfl) (cm_yes (by simpa using c) (cm_bind (areGroups_f l n hl hs (by omega)) ?_)), by omega, fun y hy => ?_⟩
        · refine cm_step (fun k => by rw [spec_BlocksOf.j0]) ?_
          exact cm_no (by simp [g]) h1
        · refine cm_step (fun k => by rw [impl_BlocksOf.j0]) ?_
          exact cm_no (by simp [g]) (cm_bind h2 (cm_no (by omega) (cm_now fun _ => rfl)))
        · obtain ⟨b, _, rfl⟩ := lsts_mem hy
          exact ms_len b
    · have g2 : groups a l = false := by simpa using g
      refine ⟨[], false, cm_bind (cm_now fun _ => rfl) (cm_yes (by simpa using c) (cm_bind (groups_f l a hl hs) ?_)), cm_bind (cm_now fun _ => rfl) (cm_yes (by simpa using c) (cm_bind (areGroups_f l a hl hs (by omega)) ?_)), by simp, by simp⟩
      · rw [g2]; exact hbad1
      · rw [g2]; exact hbad2
  · exact ⟨[], false, cm_bind (cm_now fun _ => rfl) (cm_no (by simpa using c) hbad1), cm_bind (cm_now fun _ => rfl) (cm_no (by simpa using c) hbad2), by simp, by simp⟩
end Go.Proofs.Ytjngkfepppejeaa.Least3
end
section
namespace Go.Proofs.Ytjngkfepppejeaa.Cot
open Go.RowKit Go.Proofs.Ytjngkfepppejeaa.P Go.Proofs.YtjngkfepppejeaaW.PrintWords Go.Proofs.YtjngkfepppejeaaW.PrintLast Go.Proofs.YtjngkfepppejeaaW.PrintMore
open Go.Proofs.Ytjngkfepppejeaa.Pl Go.Proofs.Ytjngkfepppejeaa.EvN Go.Proofs.Ytjngkfepppejeaa.Lp Go.Proofs.Ytjngkfepppejeaa.Sets Go.Proofs.Ytjngkfepppejeaa.Mem Go.Proofs.Ytjngkfepppejeaa.Pick Go.Proofs.Ytjngkfepppejeaa.Qs Go.Proofs.Ytjngkfepppejeaa.Least2 Go.Proofs.Ytjngkfepppejeaa.Least3 Go.Proofs.Ytjngkfepppejeaa.Quo Go.Proofs.Ytjngkfepppejeaa.Quo2 Go.Proofs.Ytjngkfepppejeaa.Quo3 Go.Proofs.Ytjngkfepppejeaa.Quo4 Go.Proofs.Ytjngkfepppejeaa.Quo5 Go.Proofs.Ytjngkfepppejeaa.Quo6 Go.Proofs.Ytjngkfepppejeaa.Draw Go.Proofs.Ytjngkfepppejeaa.Hlp
set_option linter.unusedSimpArgs false
set_option linter.unusedVariables false
theorem specAllMeet_f (l : List (List Int)) (hl : Len2 l) : Cm (fun k => spec_AllMeet.f k l) (meetV l) := by
  unfold spec_AllMeet.f meetV
  refine cm_bind (groups_f l 7 hl.1 hl.2) ?_
  by_cases c : groups 7 l = true
  · rw [if_pos c]
    exact cm_yes c (cm_bind (l6All_f l (groups_fit (by omega) c hl.2)) (cm_now fun _ => rfl))
  · rw [if_neg c]
    exact cm_no c (cm_now fun _ => rfl)
def cotV (l : List (List Int)) : Bool × Bool := if groups 7 l = true then (coterie l, true) else (false, false)
theorem cot_f (l : List (List Int)) (hl : Len2 l) : Cm (fun k => spec_IsCoterie.f k l) (cotV l) ∧ Cm (fun k => impl_IsCoterie.f k l) (cotV l) := by
  unfold spec_IsCoterie.f impl_IsCoterie.f cotV
  by_cases c : groups 7 l = true
  · have hf := groups_fit (by omega) c hl.2
    rw [if_pos c]
    exact ⟨cm_bind (groups_f l 7 hl.1 hl.2) (cm_yes c (cm_bind (l6Coterie_f l hf) (cm_now fun _ => rfl))), cm_bind (areGroups_f l 7 hl.1 hl.2 (by omega)) (cm_yes c (cm_bind (isCoterie_f l hf) (cm_now fun _ => rfl)))⟩
  · rw [if_neg c]
    exact ⟨cm_bind (groups_f l 7 hl.1 hl.2) (cm_no c (cm_now fun _ => rfl)), cm_bind (areGroups_f l 7 hl.1 hl.2 (by omega)) (cm_no c (cm_now fun _ => rfl))⟩
def hits (l : List (List Int)) (m : List Int) : Bool := l.all (fun g => meet g m)
def survV (l : List (List Int)) (m : List Int) : Bool × Bool := if groups 7 l = true ∧ members 7 m = true then (!hits l m, true) else (false, false)
theorem anyS_index (m : List Int) (l : List (List Int)) (hl : l.length ≤ 4611686018427387904) (p : (List Int) → Bool) (hc : ∀ h ∈ l, Cm (fun k => impl_Survives_1.f k h m) (p h)) :
    Cm (fun k => slices_IndexFunc_int_int_of_impl_Survives_1.f k l m) (foundAt p (fun i _ => (i : Int)) (-1) 0 l) := by
  unfold slices_IndexFunc_int_int_of_impl_Survives_1.f
  refine find_cm (L := fun k i => slices_IndexFunc_int_int_of_impl_Survives_1.l0 k l (l.length : Int) i m) l p (fun i _ => (i : Int)) (none_ := (-1 : Int)) ?_ ?_ ?_
  · intro pre h t e hlt hp v hv
    refine cm_step (fun k => by rw [slices_IndexFunc_int_int_of_impl_Survives_1.l0]) ?_
    simp only [l1_at e, wrap_len hlt hl]
    refine cm_yes (by omega) (cm_yes (by omega) (cm_yes (by omega) (cm_bind (hc h (by rw [← e]; simp)) ?_)))
    exact cm_no (by simpa using hp) hv
  · intro pre h t e hlt hp
    refine cm_step (fun k => by rw [slices_IndexFunc_int_int_of_impl_Survives_1.l0]) ?_
    simp only [l1_at e, wrap_len hlt hl]
    refine cm_yes (by omega) (cm_yes (by omega) (cm_yes (by omega) (cm_bind (hc h (by rw [← e]; simp)) ?_)))
    exact cm_yes hp (cm_now fun _ => rfl)
  · refine cm_step (fun k => by rw [slices_IndexFunc_int_int_of_impl_Survives_1.l0]) ?_
    exact cm_no (by omega) (cm_now fun _ => rfl)
theorem anyS (m : List Int) (l : List (List Int)) (hl : l.length ≤ 4611686018427387904) (p : (List Int) → Bool) (hc : ∀ h ∈ l, Cm (fun k => impl_Survives_1.f k h m) (p h)) : Cm (fun k => slices_ContainsFunc_int_int_of_impl_Survives_1.f k l m) (l.any p) := by
  unfold slices_ContainsFunc_int_int_of_impl_Survives_1.f
  refine cm_bind (anyS_index m l hl p hc) (cm_now fun _ => ?_)
  rw [found_any]
theorem surv_f (l : List (List Int)) (m : List Int) (hl : Len2 l) (hm : m.length ≤ 4611686018427387904) : Cm (fun k => spec_Survives.f k l m) (survV l m) ∧ Cm (fun k => impl_Survives.f k l m) (survV l m) := by
  have g1 := groups_f l 7 hl.1 hl.2
  have g2 := areGroups_f l 7 hl.1 hl.2 (by omega)
  have m1 := group_f m 7 hm
  have m2 := areMembers_f m 7 hm (by omega)
  have hbad : Cm (fun k => spec_Survives.j0 k l m true) (false, false) := by
    refine cm_step (fun k => by rw [spec_Survives.j0]) ?_
    exact cm_yes rfl (cm_now fun _ => rfl)
  unfold spec_Survives.f impl_Survives.f survV
  by_cases c : groups 7 l = true
  · have hf := groups_fit (by omega) c hl.2
    by_cases d : members 7 m = true
    · have hmf : Fits m := ⟨hm, fun x hx => by have := members_in d x hx; omega⟩
      rw [if_pos ⟨c, d⟩]
      constructor
      · refine cm_bind g1 (cm_yes c (cm_bind m1 ?_))
        rw [d]
        refine cm_step (fun k => by rw [spec_Survives.j0]) ?_
        refine cm_no (by simp) ?_
        have := every_cm (L := fun k i => spec_Survives.l0 k m l (l.length : Int) i) l (fun g => meet g m) (fin := (false, true)) (no := (true, true)) ?_ ?_ ?_
        · refine cm_val this ?_
          unfold hits
          cases l.all (fun g => meet g m) <;> rfl
        · intro pre g t e hlt hp v hv
          have hg := hl.2 g (by rw [← e]; simp)
          have h1 := hl.1
          refine cm_step (fun k => by rw [spec_Survives.l0]) ?_
          simp only [l1_at e, wrap_len hlt h1]
          exact cm_yes (by omega) (cm_yes (by omega) (cm_yes (by omega) (cm_bind (meet_f _ _ hg hm) (cm_yes hp hv))))
        · intro pre g t e hlt hp
          have hg := hl.2 g (by rw [← e]; simp)
          have h1 := hl.1
          refine cm_step (fun k => by rw [spec_Survives.l0]) ?_
          simp only [l1_at e, wrap_len hlt h1]
          exact cm_yes (by omega) (cm_yes (by omega) (cm_yes (by omega) (cm_bind (meet_f _ _ hg hm) (cm_no (by simpa using hp) (cm_now fun _ => rfl)))))
        · intro _
          refine cm_step (fun k => by rw [spec_Survives.l0]) ?_
          exact cm_no (by omega) (cm_now fun _ => rfl)
      · refine cm_bind g2 (cm_yes c (cm_bind m2 (cm_yes d (cm_bind (anyS m l hl.1 (fun g => !meet g m) (fun g hg => ?_)) (cm_now fun _ => ?_)))))
        · have hgf := hf.2 g hg
          unfold impl_Survives_1.f
          refine cm_bind (maskOf_f g hgf) (cm_bind (maskOf_f m hmf) (cm_now fun _ => ?_))
          have hmm := meet_mask g m hgf.pos hmf.pos
          rw [and_i64 _ _ hgf.lt hmf.lt]
          by_cases h : maskN g &&& maskN m = 0
          · have h3 : meet g m = false := by
              cases hq : meet g m with
              | false => rfl
              | true => exact absurd h (hmm.1 hq)
            rw [h3, h]
            rfl
          · rw [hmm.2 h]
            simp [h]
        · have h2 := not_any (fun g => !meet g m) (fun g => meet g m) l (fun _ _ => rfl)
          unfold hits
          rw [← h2, Bool.not_not]
    · rw [if_neg (fun h => d h.2)]
      have d0 : members 7 m = false := by simpa using d
      refine ⟨cm_bind g1 (cm_yes c (cm_bind m1 ?_)), cm_bind g2 (cm_yes c (cm_bind m2 (cm_no d (cm_now fun _ => rfl))))⟩
      rw [d0]
      exact hbad
  · rw [if_neg (fun h => c h.1)]
    exact ⟨cm_bind g1 (cm_no c hbad), cm_bind g2 (cm_no c (cm_now fun _ => rfl))⟩
def blocksOk (a : Int) (l : List (List Int)) : Prop := (1 ≤ a ∧ a ≤ 7) ∧ groups a l = true ∧ (lsts (PB l) a.toNat (2 ^ a.toNat)).length ≤ 40
instance (a : Int) (l : List (List Int)) : Decidable (blocksOk a l) := inferInstanceAs (Decidable (_ ∧ _ ∧ _))
def blocksV (a : Int) (l : List (List Int)) : List (List Int) × Bool := if blocksOk a l then (lsts (PB l) a.toNat (2 ^ a.toNat), true) else ([], false)
theorem blocks_v (a : Int) (l : List (List Int)) (hl : Len2 l) : Cm (fun k => spec_BlocksOf.f k a l) (blocksV a l) ∧ Cm (fun k => impl_BlocksOf.f k a l) (blocksV a l) := by
  obtain ⟨r1, r2, h1, h2, _⟩ := blocks_both a l hl.1 hl.2
  suffices h : (r1, r2) = blocksV a l by rw [← h]; exact ⟨h1, h2⟩
  refine cm_one h2 ?_
  have hbad2 : Cm (fun k => impl_BlocksOf.j0 k a true l) (([] : List (List Int)), false) := by
    refine cm_step (fun k => by rw [impl_BlocksOf.j0]) ?_
    exact cm_yes rfl (cm_now fun _ => rfl)
  unfold impl_BlocksOf.f blocksV
  simp only [in_f]
  by_cases c : 1 ≤ a ∧ a ≤ 7
  · have g2 := areGroups_f l a hl.1 hl.2 (by omega)
    by_cases g : groups a l = true
    · obtain ⟨n, rfl⟩ := Int.eq_ofNat_of_zero_le (show 0 ≤ a by omega)
      have hn : n ≤ 7 := by omega
      have hf := fits_of (by omega) hl.2 g
      have h2 := limpl_f l (PB l) n hn (isb_f l hl.1 hf hn)
      refine cm_bind (cm_now fun _ => rfl) (cm_yes (by simpa using c) (cm_bind g2 ?_))
      rw [g]
      refine cm_step (fun k => by rw [impl_BlocksOf.j0]) ?_
      refine cm_no (by simp) (cm_bind h2 ?_)
      simp only [Int.toNat_natCast]
      by_cases c40 : (lsts (PB l) n (2 ^ n)).length > 40
      · have hno : ¬ blocksOk (n : Int) l := fun h => by
          have := h.2.2
          simp only [Int.toNat_natCast] at this
          omega
        rw [if_neg hno]
        exact cm_yes (by omega) (cm_now fun _ => rfl)
      · have hyes : blocksOk (n : Int) l := ⟨c, g, by simp only [Int.toNat_natCast]; omega⟩
        rw [if_pos hyes]
        exact cm_no (by omega) (cm_now fun _ => rfl)
    · have hno : ¬ blocksOk a l := fun h => g h.2.1
      rw [if_neg hno]
      have g0 : groups a l = false := by simpa using g
      refine cm_bind (cm_now fun _ => rfl) (cm_yes (by simpa using c) (cm_bind g2 ?_))
      rw [g0]
      exact hbad2
  · have hno : ¬ blocksOk a l := fun h => c h.1
    rw [if_neg hno]
    exact cm_bind (cm_now fun _ => rfl) (cm_no (by simpa using c) hbad2)
theorem members_mono {a b : Int} (h : a ≤ b) {l : List Int} (hm : members a l = true) : members b l = true := by
  unfold members at hm ⊢
  rw [okFrom_iff] at hm ⊢
  intro p x t e
  have := hm p x t e
  unfold rises at this ⊢
  rw [Bool.and_eq_true, decide_eq_true_eq] at this ⊢
  exact ⟨by omega, this.2⟩
theorem groups_mono {a b : Int} (h : a ≤ b) {l : List (List Int)} (hg : groups a l = true) : groups b l = true := by
  rw [groups_iff] at hg ⊢
  exact ⟨fun g hh => ⟨(hg.1 g hh).1, members_mono h (hg.1 g hh).2⟩, hg.2⟩
set_option maxRecDepth 100000 in
theorem cut_all : ((List.range 128).all fun b => (List.range 7).all fun i => decide (¬ i < (ms b).length) || decide ((ms b).take i ++ (ms b).drop (i + 1) = ms (off b ((ms b).getD i 0).toNat))) = true := by decide +kernel
theorem cut_at {b : Nat} (hb : b < 128) {pre t : List Int} {x : Int} (e : pre ++ x :: t = ms b) : (ms b).take pre.length ++ (ms b).drop (pre.length + 1) = ms (off b x.toNat) := by
  have h1 : pre.length < (ms b).length := by rw [← e]; simp
  have h2 := ms_len b
  have h3 : (ms b).getD pre.length 0 = x := by rw [← e]; simp
  have h := cut_all
  rw [List.all_eq_true] at h
  have h := h b (List.mem_range.2 hb)
  rw [List.all_eq_true] at h
  have h := h pre.length (List.mem_range.2 (by omega))
  simp only [Bool.or_eq_true, decide_eq_true_eq] at h
  rcases h with h | h
  · exact absurd h1 h
  · rw [h, h3]
theorem least_blocks {n : Nat} (hn : n ≤ 7) {l : List (List Int)} (hg : groups (n : Int) l = true) {b : Nat} (hb : b < 2 ^ n) (h : lst (PB l) n b = true) :
    survV l (ms b) = (false, true) ∧ ∀ pre x t, pre ++ x :: t = ms b → survV l (ms (off b x.toNat)) = (true, true) := by
  have hp := pow_le7 hn
  have g7 := groups_mono (show (n : Int) ≤ 7 by omega) hg
  have hmem : ∀ c, c < 2 ^ n → members 7 (ms c) = true := fun c hc => by
    rw [ms_eq hc hn]
    exact members_mono (show (n : Int) ≤ 7 by omega) (msN_members n c n (Nat.le_refl _))
  have e : ∀ c, hits l (ms c) = PB l c := fun _ => rfl
  constructor
  · unfold survV
    rw [if_pos ⟨g7, hmem b hb⟩, e, lst_P h]
    rfl
  · intro pre x t ex
    have hx : x ∈ ms b := by rw [← ex]; simp
    rw [ms_eq hb hn, msN_mem] at hx
    obtain ⟨m, h1, h2, rfl⟩ := hx
    have hoff : off b m < 2 ^ n := Nat.lt_of_le_of_lt (off_le b m) hb
    unfold lst at h
    rw [Bool.and_eq_true, List.all_eq_true] at h
    have h3 := h.2 m (List.mem_range.2 h1)
    rw [h2] at h3
    simp only [Bool.not_true, Bool.false_or, Bool.not_eq_true'] at h3
    rw [Int.toNat_natCast]
    unfold survV
    rw [if_pos ⟨g7, hmem _ hoff⟩, e, h3]
    rfl
theorem meet_symm (a b : List Int) : meet a b = meet b a := by
  have key : ∀ a b : List Int, meet a b = true → meet b a = true := by
    intro a b h
    unfold meet at h ⊢
    rw [List.any_eq_true] at h ⊢
    obtain ⟨x, h1, h2⟩ := h
    rw [decide_eq_true_eq] at h2
    exact ⟨x, h2, decide_eq_true h1⟩
  cases h1 : meet a b <;> cases h2 : meet b a <;> first | rfl | (have := key _ _ h1; simp_all) | (have := key _ _ h2; simp_all)
theorem allMeet_pair {l : List (List Int)} (h : allMeet l = true) (hne : ∀ g ∈ l, g.length ≠ 0) : ∀ a ∈ l, ∀ b ∈ l, meet a b = true := by
  unfold allMeet at h
  rw [okFrom_iff] at h
  have hself : ∀ a ∈ l, meet a a = true := by
    intro a ha
    have := hne a ha
    match a, this with
    | x :: t, _ => simp [meet]
  have key : ∀ (l p : List (List Int)), (∀ a h t, a ++ h :: t = l → (p ++ a).all (fun b => meet h b) = true) → (∀ a ∈ l, meet a a = true) → ∀ a ∈ l, ∀ b ∈ l, meet a b = true := by
    intro l
    induction l with
    | nil => intro p _ _ a ha; simp at ha
    | cons x t ih =>
      intro p hp hs a ha b hb
      have h1 := ih (p ++ [x]) (fun a h t' e => by have := hp (x :: a) h t' (by simp [e]); simpa using this) (fun a ha => hs a (by simp [ha]))
      have h2 : ∀ y ∈ t, meet y x = true := by
        intro y hy
        obtain ⟨a', t', e⟩ := List.append_of_mem hy
        have := hp (x :: a') y t' (by simp [e])
        rw [List.all_eq_true] at this
        exact this x (by simp)
      rw [List.mem_cons] at ha hb
      rcases ha with rfl | ha
      · rcases hb with rfl | hb
        · exact hs _ (by simp)
        · rw [meet_symm]; exact h2 b hb
      · rcases hb with rfl | hb
        · exact h2 a ha
        · exact h1 a ha b hb
  exact key l [] (fun a h' t e => by simpa using h a h' t e) hself
theorem coterie_has {n : Nat} (hn : n ≤ 7) {l : List (List Int)} (hg : groups (n : Int) l = true) (hc : coterie l = true) : ∀ g ∈ l, (lsts (PB l) n (2 ^ n)).any (fun x => x.all (fun y => decide (y ∈ g))) = true := by
  intro g hgl
  have hgi := groups_iff.1 hg
  have hm := (hgi.1 g hgl).2
  unfold coterie at hc
  rw [Bool.and_eq_true] at hc
  have hall := allMeet_pair hc.2 (fun g h => (hgi.1 g h).1)
  obtain ⟨e, hlt⟩ := of_mask hn hm
  have hin := members_in hm
  have hbit : ∀ i : Nat, (maskN g).testBit i = decide ((i : Int) ∈ g) := fun i => mask_bit g (fun y hy => (hin y hy).1) i
  have hP : PB l (maskN g) = true := by
    unfold PB
    rw [List.all_eq_true]
    intro h hh
    rw [ms_eq hlt hn, ← e]
    exact hall h hh g hgl
  obtain ⟨c, h1, h2, h3⟩ := least_in (PB l) hn (maskN g) hlt hP
  rw [List.any_eq_true]
  refine ⟨ms c, of_lsts h1 h2, ?_⟩
  rw [List.all_eq_true]
  intro x hx
  rw [ms_eq h1 hn, msN_mem] at hx
  obtain ⟨i, h4, h5, rfl⟩ := hx
  have := h3 i h4 h5
  rw [hbit i] at this
  exact this
def gridV (r c : Int) : List (List Int) × Bool := if (1 ≤ r ∧ r ≤ 3) ∧ (1 ≤ c ∧ c ≤ 3) then (impl_GridQuorums.f 200 r c).getD ([], false) else ([], false)
set_option maxRecDepth 100000 in
theorem grid_all : ((List.range 3).all fun r => (List.range 3).all fun c => decide (impl_GridQuorums.f 200 ((r + 1 : Nat) : Int) ((c + 1 : Nat) : Int) = some (gridV ((r + 1 : Nat) : Int) ((c + 1 : Nat) : Int)) ∧ spec_GridQuorums.f 200 ((r + 1 : Nat) : Int) ((c + 1 : Nat) : Int) = some (gridV ((r + 1 : Nat) : Int) ((c + 1 : Nat) : Int)) ∧
    ((gridV ((r + 1 : Nat) : Int) ((c + 1 : Nat) : Int)).1.length ≤ 9 ∧ ((gridV ((r + 1 : Nat) : Int) ((c + 1 : Nat) : Int)).1.all fun g => decide (g.length ≤ 9)) = true) ∧
    ((gridV ((r + 1 : Nat) : Int) ((c + 1 : Nat) : Int)).2 = true → groups 7 (gridV ((r + 1 : Nat) : Int) ((c + 1 : Nat) : Int)).1 = true ∧ allMeet (gridV ((r + 1 : Nat) : Int) ((c + 1 : Nat) : Int)).1 = true ∧ ((gridV ((r + 1 : Nat) : Int) ((c + 1 : Nat) : Int)).1.length : Int) = ((r + 1 : Nat) : Int) * ((c + 1 : Nat) : Int)))) = true := by decide +kernel
theorem grid_f (r c : Int) : Cm (fun k => spec_GridQuorums.f k r c) (gridV r c) ∧ Cm (fun k => impl_GridQuorums.f k r c) (gridV r c) ∧ ((gridV r c).1.length ≤ 9 ∧ ∀ g ∈ (gridV r c).1, g.length ≤ 9) ∧
    ((gridV r c).2 = true → groups 7 (gridV r c).1 = true ∧ allMeet (gridV r c).1 = true ∧ ((gridV r c).1.length : Int) = r * c ∧ (1 ≤ r ∧ r ≤ 3) ∧ (1 ≤ c ∧ c ≤ 3)) := by
  by_cases hr : 1 ≤ r ∧ r ≤ 3
  · by_cases hc : 1 ≤ c ∧ c ≤ 3
    · obtain ⟨a, ha⟩ : ∃ a : Nat, ((a + 1 : Nat) : Int) = r := ⟨(r - 1).toNat, by omega⟩
      obtain ⟨b, hb⟩ : ∃ b : Nat, ((b + 1 : Nat) : Int) = c := ⟨(c - 1).toNat, by omega⟩
      have h := grid_all
      rw [List.all_eq_true] at h
      have h := h a (List.mem_range.2 (by omega))
      rw [List.all_eq_true] at h
      have h := h b (List.mem_range.2 (by omega))
      rw [decide_eq_true_eq, ha, hb] at h
      obtain ⟨h1, h2, ⟨h3, h4⟩, h5⟩ := h
      rw [List.all_eq_true] at h4
      exact ⟨of_k (fun k => spec_GridQuorums.mono r c k) h2, of_k (fun k => impl_GridQuorums.mono r c k) h1, ⟨h3, fun g hg => of_decide_eq_true (h4 g hg)⟩, fun h => ⟨(h5 h).1, (h5 h).2.1, (h5 h).2.2, hr, hc⟩⟩
    · have e : gridV r c = ([], false) := by unfold gridV; rw [if_neg (fun h => hc h.2)]
      rw [e]
      unfold spec_GridQuorums.f impl_GridQuorums.f
      simp only [l1In_f, in_f]
      have b1 : Cm (fun k => spec_GridQuorums.j0 k r c true) (([] : List (List Int)), false) := by
        refine cm_step (fun k => by rw [spec_GridQuorums.j0]) ?_
        exact cm_yes rfl (cm_now fun _ => rfl)
      have b2 : Cm (fun k => impl_GridQuorums.j0 k r c true) (([] : List (List Int)), false) := by
        refine cm_step (fun k => by rw [impl_GridQuorums.j0]) ?_
        exact cm_yes rfl (cm_now fun _ => rfl)
      exact ⟨cm_bind (cm_now fun _ => rfl) (cm_yes (by simpa using hr) (cm_bind (cm_now fun _ => rfl) (cm_no (by simpa using hc) b1))), cm_bind (cm_now fun _ => rfl) (cm_yes (by simpa using hr) (cm_bind (cm_now fun _ => rfl) (cm_no (by simpa using hc) b2))), by simp, by simp⟩
  · have e : gridV r c = ([], false) := by unfold gridV; rw [if_neg (fun h => hr h.1)]
    rw [e]
    unfold spec_GridQuorums.f impl_GridQuorums.f
    simp only [l1In_f, in_f]
    have b1 : Cm (fun k => spec_GridQuorums.j0 k r c true) (([] : List (List Int)), false) := by
      refine cm_step (fun k => by rw [spec_GridQuorums.j0]) ?_
      exact cm_yes rfl (cm_now fun _ => rfl)
    have b2 : Cm (fun k => impl_GridQuorums.j0 k r c true) (([] : List (List Int)), false) := by
      refine cm_step (fun k => by rw [impl_GridQuorums.j0]) ?_
      exact cm_yes rfl (cm_now fun _ => rfl)
    exact ⟨cm_bind (cm_now fun _ => rfl) (cm_no (by simpa using hr) b1), cm_bind (cm_now fun _ => rfl) (cm_no (by simpa using hr) b2), by simp, by simp⟩
end Go.Proofs.Ytjngkfepppejeaa.Cot
end
section
namespace Go.Proofs.Ytjngkfepppejeaa.Cot
open Go.RowKit Go.Proofs.Ytjngkfepppejeaa.P Go.Proofs.YtjngkfepppejeaaW.PrintWords Go.Proofs.YtjngkfepppejeaaW.PrintLast Go.Proofs.YtjngkfepppejeaaW.PrintMore
open Go.Proofs.Ytjngkfepppejeaa.Pl Go.Proofs.Ytjngkfepppejeaa.EvN Go.Proofs.Ytjngkfepppejeaa.Lp Go.Proofs.Ytjngkfepppejeaa.Sets Go.Proofs.Ytjngkfepppejeaa.Mem Go.Proofs.Ytjngkfepppejeaa.Pick Go.Proofs.Ytjngkfepppejeaa.Qs Go.Proofs.Ytjngkfepppejeaa.Least2 Go.Proofs.Ytjngkfepppejeaa.Least3 Go.Proofs.Ytjngkfepppejeaa.Quo Go.Proofs.Ytjngkfepppejeaa.Quo2 Go.Proofs.Ytjngkfepppejeaa.Quo3 Go.Proofs.Ytjngkfepppejeaa.Quo4 Go.Proofs.Ytjngkfepppejeaa.Quo5 Go.Proofs.Ytjngkfepppejeaa.Quo6 Go.Proofs.Ytjngkfepppejeaa.Draw Go.Proofs.Ytjngkfepppejeaa.Hlp
set_option linter.unusedSimpArgs false
set_option linter.unusedVariables false
def Sm (l : List (List Int)) : Prop := l.length ≤ 200 ∧ ∀ g ∈ l, g.length ≤ 10
theorem Sm.len2 {l : List (List Int)} (h : Sm l) : Len2 l := ⟨by have := h.1; omega, fun g hg => by have := h.2 g hg; omega⟩
theorem votes_at {s : List Int} (hs : Bytes s) (p st : Int) (h0 : 0 ≤ p) (h1 : p ≤ 100000) : ∃ W n q u, Cm (fun k => spec_l1Cur_votes.f k s p st) (W, n, q, u) ∧ W.length ≤ 6 ∧ (p ≤ q ∧ q ≤ p + 100) := by
  obtain ⟨b, q, u, e, hb, hq⟩ := pick_f hs p st (by omega) (by omega) 6
  obtain ⟨m, rfl⟩ := Int.eq_ofNat_of_zero_le hb.1
  obtain ⟨R, n, q2, u2, a, b2, c⟩ := votes_go hs 0 (m + 1) [] 0 q u (by simp; omega) (by simp) (by omega) (by omega)
  refine ⟨R, n, q2, u2, ?_, b2, by omega⟩
  unfold spec_l1Cur_votes.f
  refine cm_bind (cm_now fun _ => e) ?_
  simp only [show wrap64 (1 + (m : Int)) = ((m + 1 : Nat) : Int) from by rw [wrap_in (by omega) (by omega)]; omega]
  exact a
theorem groups_go {s : List Int} (hs : Bytes s) : ∀ (d : Nat) (acc : List (List Int)) (p st : Int), acc.length + d ≤ 6 → (∀ g ∈ acc, g.length ≤ 10) → 0 ≤ p → p + 20 * (d : Int) ≤ 1000000 →
    ∃ l q u, Cm (fun k => spec_l1Cur_groups.l0 k acc (d : Int) s p st) (l, q, u) ∧ Sm l ∧ (p ≤ q ∧ q ≤ p + 20 * (d : Int))
  | 0, acc, p, st, ha, hg, h0, h1 => by
    refine ⟨acc, p, st, ?_, ⟨by omega, hg⟩, by omega⟩
    refine cm_step (fun k => by rw [spec_l1Cur_groups.l0]) ?_
    exact cm_no (by omega) (cm_now fun _ => rfl)
  | d + 1, acc, p, st, ha, hg, h0, h1 => by
    obtain ⟨r, q, u, e, hr, hq⟩ := some_f hs 5 (by omega) p st h0 (by omega)
    have ew : wrap64 (((d + 1 : Nat) : Int) - 1) = (d : Int) := by rw [wrap_in (by omega) (by omega)]; omega
    have hg2 : ∀ g ∈ acc ++ [r], g.length ≤ 10 := fun g h => by
      rw [List.mem_append, List.mem_singleton] at h
      rcases h with h | rfl
      · exact hg g h
      · omega
    by_cases c : (r.length : Int) > 0
    · obtain ⟨l, q2, u2, x, y, z⟩ := groups_go hs d (acc ++ [r]) q u (by simp; omega) hg2 (by omega) (by omega)
      refine ⟨l, q2, u2, ?_, y, by omega⟩
      refine cm_step (fun k => by rw [spec_l1Cur_groups.l0]) ?_
      simp only [ew]
      exact cm_yes (by omega) (cm_bind e (cm_yes c (cm_yes (by omega) x)))
    · obtain ⟨b, q1, u1, e1, hq1⟩ := one_f hs q u (by omega) (by omega) 30
      cases b with
      | true =>
        obtain ⟨l, q2, u2, x, y, z⟩ := groups_go hs d (acc ++ [r]) q1 u1 (by simp; omega) hg2 (by omega) (by omega)
        refine ⟨l, q2, u2, ?_, y, by omega⟩
        refine cm_step (fun k => by rw [spec_l1Cur_groups.l0]) ?_
        simp only [ew]
        exact cm_yes (by omega) (cm_bind e (cm_no c (cm_bind (cm_now fun _ => e1) (cm_yes (by trivial) (cm_yes (by omega) x)))))
      | false =>
        obtain ⟨l, q2, u2, x, y, z⟩ := groups_go hs d acc q1 u1 (by omega) hg (by omega) (by omega)
        refine ⟨l, q2, u2, ?_, y, by omega⟩
        refine cm_step (fun k => by rw [spec_l1Cur_groups.l0]) ?_
        simp only [ew]
        exact cm_yes (by omega) (cm_bind e (cm_no c (cm_bind (cm_now fun _ => e1) (cm_no (by simp) x))))
theorem groups_j {s : List Int} (hs : Bytes s) (p st : Int) (h0 : 0 ≤ p) (h1 : p ≤ 10000) : ∃ l q u, Cm (fun k => spec_l1Cur_groups.j0 k s p st) (l, q, u) ∧ Sm l ∧ (p ≤ q ∧ q ≤ p + 200) := by
  obtain ⟨b, q, u, e, hb, hq⟩ := pick_f hs p st h0 (by omega) 6
  obtain ⟨m, rfl⟩ := Int.eq_ofNat_of_zero_le hb.1
  obtain ⟨l, q2, u2, x, y, z⟩ := groups_go hs m [] q u (by simp; omega) (by simp) (by omega) (by omega)
  refine ⟨l, q2, u2, ?_, y, by omega⟩
  refine cm_step (fun k => by rw [spec_l1Cur_groups.j0]) ?_
  exact cm_bind (cm_now fun _ => e) x
theorem groups_draw {s : List Int} (hs : Bytes s) (p st : Int) (h0 : 0 ≤ p) (h1 : p ≤ 1000) : ∃ l q u, Cm (fun k => spec_l1Cur_groups.f k s p st) (l, q, u) ∧ Sm l ∧ (p ≤ q ∧ q ≤ p + 400) := by
  obtain ⟨b, q, u, e, hb, hq⟩ := pick_f hs p st h0 (by omega) 4
  unfold spec_l1Cur_groups.f
  by_cases c0 : b = 0
  · obtain ⟨W, n, q1, u1, e1, hW, hq1⟩ := votes_at hs q u (by omega) (by omega)
    have le := (least_f W n (by omega)).1
    obtain ⟨l2, q2, u2, x, y, z⟩ := groups_j hs q1 u1 (by omega) (by omega)
    have hrest : ∀ {f : Nat → Option (List (List Int) × Int × Int)} {v}, Cm f v → Cm f v := fun h => h
    by_cases c1 : (leastV W n).2 = true ∧ ((leastV W n).1.length : Int) ≤ 40
    · refine ⟨(leastV W n).1, q1, u1, ?_, ⟨by omega, ?_⟩, by omega⟩
      · exact cm_bind (cm_now fun _ => e) (cm_yes c0 (cm_bind e1 (cm_bind le (cm_yes c1.1 (cm_yes c1.2 (cm_now fun _ => rfl))))))
      · intro g hg
        unfold leastV at hg
        split at hg
        · obtain ⟨b, _, rfl⟩ := lsts_mem hg
          have := ms_len b
          omega
        · simp at hg
    · refine ⟨l2, q2, u2, ?_, y, by omega⟩
      refine cm_bind (cm_now fun _ => e) (cm_yes c0 (cm_bind e1 (cm_bind le (cm_if (fun c2 => cm_no (fun c3 => c1 ⟨c2, c3⟩) x) (fun _ => x)))))
  · by_cases c1 : b = 1
    · obtain ⟨b1, q1, u1, e1, hb1, hq1⟩ := pick_f hs q u (by omega) (by omega) 3
      obtain ⟨b2, q2, u2, e2, hb2, hq2⟩ := pick_f hs q1 u1 (by omega) (by omega) 3
      obtain ⟨g1, _, g3, _⟩ := grid_f (wrap64 (1 + b1)) (wrap64 (1 + b2))
      obtain ⟨l2, q3, u3, x, y, z⟩ := groups_j hs q2 u2 (by omega) (by omega)
      by_cases c2 : (gridV (wrap64 (1 + b1)) (wrap64 (1 + b2))).2 = true
      · refine ⟨(gridV (wrap64 (1 + b1)) (wrap64 (1 + b2))).1, q2, u2, ?_, ⟨by omega, fun g hg => by have := g3.2 g hg; omega⟩, by omega⟩
        exact cm_bind (cm_now fun _ => e) (cm_no c0 (cm_yes c1 (cm_bind (cm_now fun _ => e1) (cm_bind (cm_now fun _ => e2) (cm_bind g1 (cm_yes c2 (cm_now fun _ => rfl)))))))
      · refine ⟨l2, q3, u3, ?_, y, by omega⟩
        exact cm_bind (cm_now fun _ => e) (cm_no c0 (cm_yes c1 (cm_bind (cm_now fun _ => e1) (cm_bind (cm_now fun _ => e2) (cm_bind g1 (cm_no c2 x))))))
    · obtain ⟨l2, q3, u3, x, y, z⟩ := groups_j hs q u (by omega) (by omega)
      refine ⟨l2, q3, u3, ?_, y, by omega⟩
      exact cm_bind (cm_now fun _ => e) (cm_no c0 (cm_no c1 x))
theorem draw_blocks {s : List Int} (hs : Bytes s) : ∃ a l, Cm (fun k => spec_DrawBlocksOf.f k s) (a, l) ∧ Sm l := by
  obtain ⟨b, q, u, e, _, hq⟩ := among_f hs 0 0 (by omega) (by omega) [5, 5, 6, 7, 3, 8] (by simp)
  obtain ⟨l, q2, u2, x, y, z⟩ := groups_draw hs q u (by omega) (by omega)
  refine ⟨b, l, ?_, y⟩
  unfold spec_DrawBlocksOf.f
  exact cm_bind (cm_now fun _ => e) (cm_bind x (cm_now fun _ => rfl))
theorem draw_dom {s : List Int} (hs : Bytes s) : ∃ a b, Cm (fun k => spec_DrawDominates.f k s) (a, b) ∧ Sm a ∧ Sm b := by
  obtain ⟨l, q, u, x, y, z⟩ := groups_draw hs 0 0 (by omega) (by omega)
  obtain ⟨b, q1, u1, e1, hq1⟩ := one_f hs q u (by omega) (by omega) 6
  unfold spec_DrawDominates.f
  cases b with
  | true => exact ⟨l, l, cm_bind x (cm_bind (cm_now fun _ => e1) (cm_yes rfl (cm_now fun _ => rfl))), y, y⟩
  | false =>
    obtain ⟨l2, q2, u2, x2, y2, z2⟩ := groups_draw hs q1 u1 (by omega) (by omega)
    exact ⟨l, l2, cm_bind x (cm_bind (cm_now fun _ => e1) (cm_no (by simp) (cm_bind x2 (cm_now fun _ => rfl)))), y, y2⟩
theorem draw_surv {s : List Int} (hs : Bytes s) : ∃ l m, Cm (fun k => spec_DrawSurvives.f k s) (l, m) ∧ Sm l ∧ m.length ≤ 10 := by
  obtain ⟨l, q, u, x, y, z⟩ := groups_draw hs 0 0 (by omega) (by omega)
  obtain ⟨r, q1, u1, e, hr, hq⟩ := some_f hs 5 (by omega) q u (by omega) (by omega)
  refine ⟨l, r, ?_, y, by omega⟩
  unfold spec_DrawSurvives.f
  exact cm_bind x (cm_bind e (cm_now fun _ => rfl))
theorem draw_grid {s : List Int} (hs : Bytes s) : ∃ r c, spec_DrawGridQuorums.f s = some (r, c) := by
  obtain ⟨b1, q1, u1, e1, hb1, hq1⟩ := pick_f hs 0 0 (by omega) (by omega) 5
  obtain ⟨b2, q2, u2, e2, hb2, hq2⟩ := pick_f hs q1 u1 (by omega) (by omega) 5
  refine ⟨b1, b2, ?_⟩
  unfold spec_DrawGridQuorums.f
  rw [e1]
  simp only [Option.bind_some]
  rw [e2]
  rfl
end Go.Proofs.Ytjngkfepppejeaa.Cot
end
section
namespace Go.Proofs.Ytjngkfepppejeaa.Pure
open Go.RowKit Go.Proofs.Ytjngkfepppejeaa.P Go.Proofs.YtjngkfepppejeaaW.PrintWords Go.Proofs.YtjngkfepppejeaaW.PrintLast Go.Proofs.YtjngkfepppejeaaW.PrintMore
open Go.Proofs.Ytjngkfepppejeaa.Pl Go.Proofs.Ytjngkfepppejeaa.EvN Go.Proofs.Ytjngkfepppejeaa.Lp Go.Proofs.Ytjngkfepppejeaa.Sets Go.Proofs.Ytjngkfepppejeaa.Mem Go.Proofs.Ytjngkfepppejeaa.Pick Go.Proofs.Ytjngkfepppejeaa.Qs Go.Proofs.Ytjngkfepppejeaa.Least2 Go.Proofs.Ytjngkfepppejeaa.Least3 Go.Proofs.Ytjngkfepppejeaa.Quo Go.Proofs.Ytjngkfepppejeaa.Quo2 Go.Proofs.Ytjngkfepppejeaa.Quo3 Go.Proofs.Ytjngkfepppejeaa.Quo4 Go.Proofs.Ytjngkfepppejeaa.Quo5 Go.Proofs.Ytjngkfepppejeaa.Quo6 Go.Proofs.Ytjngkfepppejeaa.Draw Go.Proofs.Ytjngkfepppejeaa.Hlp Go.Proofs.Ytjngkfepppejeaa.Cot
set_option linter.unusedVariables false
set_option linter.unusedSimpArgs false
theorem last_f {l1 : List Int} (hs : Bytes l1) : Cm (fun k => laws_FnCoteries.j9 k l1) true := by
  obtain ⟨x, y, d1, hx, hy⟩ := draw_dom hs
  obtain ⟨e, m, d2, he, hm⟩ := draw_surv hs
  obtain ⟨r, c, d3⟩ := draw_grid hs
  have s := surv_f e m he.len2 (by omega)
  obtain ⟨g1, g2, g3, g4⟩ := grid_f r c
  have gl : Len2 (gridV r c).1 := ⟨by omega, fun g hg => by have := g3.2 g hg; omega⟩
  refine cm_step (fun k => by rw [laws_FnCoteries.j9]) ?_
  refine cm_bind d1 (cm_bind (impl_dominates_f x y hx.len2 hy.len2) (cm_bind (spec_dominates_f x y hx.len2 hy.len2) (cm_bind d2 (cm_bind s.2 (cm_bind s.1 (cm_bind (cm_now fun _ => d3) (cm_bind g2 (cm_bind g1 ?_))))))))
  refine cm_no (by simp) (cm_no (by simp) (cm_no (by simp) (cm_no (by simp) (cm_no (by simp) (cm_bind (sameLists_self _ gl.1 gl.2) ?_)))))
  have hend : Cm (fun k => laws_FnCoteries.j12 k x y (dominates x y).1 (dominates x y).2) true := by
    refine cm_step (fun k => by rw [laws_FnCoteries.j12]) ?_
    refine cm_if (fun c => cm_bind (impl_dominates_f y x hy.len2 hx.len2) ?_) (fun _ => cm_now fun _ => rfl)
    by_cases hc : groups 7 x = true ∧ groups 7 y = true ∧ coterie x = true ∧ coterie y = true
    · have e1 : dominates x y = (each x y && !each y x, true) := by unfold dominates; rw [if_pos hc]
      have e2 : dominates y x = (each y x && !each x y, true) := by unfold dominates; rw [if_pos ⟨hc.2.1, hc.1, hc.2.2.2, hc.2.2.1⟩]
      rw [e1, e2]
      refine cm_yes rfl (cm_if (fun c2 => cm_now fun _ => ?_) (fun _ => cm_now fun _ => rfl))
      simp only [Bool.and_eq_true, Bool.not_eq_true'] at c2
      rw [c2.1, c2.2]
      rfl
    · have e1 : dominates x y = (false, false) := by unfold dominates; rw [if_neg hc]
      rw [e1] at c
      simp at c
  refine cm_step (fun k => by rw [laws_FnCoteries.j10]) ?_
  refine cm_no (by simp) (cm_if (fun c5 => ?_) (fun _ => hend))
  obtain ⟨a1, a2, a3, a4, a5⟩ := g4 c5
  have hmv : meetV (gridV r c).1 = (true, true) := by unfold meetV; rw [if_pos a1, a2]
  have im := implAllMeet_f _ gl
  rw [hmv] at im
  refine cm_bind im (cm_yes rfl (cm_yes rfl ?_))
  have hw : wrap64 (r * c) = r * c := by
    have : r * c = ((gridV r c).1.length : Int) := a3.symm
    have := g3.1
    exact wrap_in (by omega) (by omega)
  have hl : (((gridV r c).1.length : Int) != (wrap64 (r * c))) = false := by rw [hw, a3]; simp
  rw [hl]
  refine cm_step (fun k => by rw [laws_FnCoteries.j11]) ?_
  exact cm_no (by simp) hend
theorem FnCoteries : laws_FnCoteries.Pure := by
  intro l0 l1 a0 a1 a2 b0 b1 b2
  refine cm_ex (v := true) ?_
  unfold laws_FnCoteries.f
  refine cm_if (fun _ => cm_now fun _ => rfl) (fun _ => ?_)
  have hs0 : Bytes l0 := ⟨by omega, fun x hx => wf_u8 (a2 x hx)⟩
  have hs1 : Bytes l1 := ⟨by omega, fun x hx => wf_u8 (b2 x hx)⟩
  have tl := last_f hs1
  obtain ⟨a, l, d0, hl⟩ := draw_blocks hs0
  have hl2 := hl.len2
  have bl := blocks_v a l hl2
  have ct := cot_f l hl2
  have m1 := implAllMeet_f l hl2
  have m2 := specAllMeet_f l hl2
  have hb : Len2 (blocksV a l).1 := by
    unfold blocksV
    split
    · rename_i hk
      exact ⟨by have := hk.2.2; simp only; omega, fun g hg => by
        obtain ⟨b, _, rfl⟩ := lsts_mem hg
        have := ms_len b
        omega⟩
    · exact ⟨by simp, by simp⟩
  refine cm_bind d0 (cm_bind bl.2 (cm_bind bl.1 (cm_bind ct.2 (cm_bind ct.1 (cm_bind m1 (cm_bind m2 (cm_no (by simp) (cm_bind (sameLists_self _ hb.1 hb.2) (cm_yes rfl (cm_no (by simp) (cm_no (by simp) (cm_no (by simp) (cm_no (by simp) ?_)))))))))))))
  suffices h : Cm (fun k => laws_FnCoteries.j0 k l1 l (blocksV a l).1 (blocksV a l).2 (cotV l).1 (cotV l).2 false) true by
    refine cm_if (fun c => ?_) (fun _ => h)
    have : (meetV l).1 = true := by
      unfold cotV at c
      split at c
      · rename_i hg
        unfold meetV
        rw [if_pos hg]
        simp only [coterie, Bool.and_eq_true] at c
        exact c.2
      · simp at c
    rw [this]
    exact h
  refine cm_step (fun k => by rw [laws_FnCoteries.j0]) ?_
  refine cm_no (by simp) ?_
  by_cases hk : blocksOk a l
  · have eb : blocksV a l = (lsts (PB l) a.toNat (2 ^ a.toNat), true) := by unfold blocksV; rw [if_pos hk]
    rw [eb] at hb ⊢
    obtain ⟨n, rfl⟩ := Int.eq_ofNat_of_zero_le (show 0 ≤ a by have := hk.1; omega)
    rw [Int.toNat_natCast] at hb ⊢
    have hn : n ≤ 7 := by have := hk.1; omega
    have hp := pow_le7 hn
    have hL : ∀ x ∈ lsts (PB l) n (2 ^ n), ∃ b, b < 2 ^ n ∧ lst (PB l) n b = true ∧ x = ms b := fun x hx => lsts_of hx
    have hhas : coterie l = true → ∀ g ∈ l, (lsts (PB l) n (2 ^ n)).any (fun x => x.all (fun y => decide (y ∈ g))) = true := fun hc => coterie_has hn hk.2.1 hc
    generalize lsts (PB l) n (2 ^ n) = L at *
    refine cm_yes rfl ?_
    have hj5 : ∀ b : Bool, (b = true → coterie l = true) → Cm (fun k => laws_FnCoteries.j5 k l1 l L b) true := by
      intro b hbc
      refine cm_step (fun k => by rw [laws_FnCoteries.j5]) ?_
      cases b with
      | false => exact cm_no (by simp) tl
      | true =>
        have hh := hhas (hbc rfl)
        refine cm_yes rfl ?_
        refine same_cm (L := fun k i => laws_FnCoteries.l2 k l1 l L (l.length : Int) i) l ?_ ?_
        · intro pre g t e hlt v hv
          have hg := hl2.2 g (by rw [← e]; simp)
          have hany := hh g (by rw [← e]; simp)
          have h1 := hl2.1
          refine cm_step (fun k => by rw [laws_FnCoteries.l2]) ?_
          simp only [l1_at e]
          refine cm_yes (by omega) (cm_yes (by omega) (cm_yes (by omega) ?_))
          refine fold_cm (L := fun k i s => laws_FnCoteries.l3 k l1 l L g s (l.length : Int) (pre.length : Int) (L.length : Int) i) L (fun s x => s || x.all (fun y => decide (y ∈ g))) (fun pre s => s = pre.any (fun x => x.all (fun y => decide (y ∈ g)))) false rfl ?_ ?_
          · intro pre2 x t2 s e2 hlt2 hi
            refine ⟨by rw [List.any_append, ← hi]; simp, fun u hu => ?_⟩
            have hx := hb.2 x (by rw [← e2]; simp)
            have h2 := hb.1
            simp only at hx h2
            refine cm_step (fun k => by rw [laws_FnCoteries.l3]) ?_
            simp only [l1_at e2]
            refine cm_yes (by omega) (cm_yes (by omega) (cm_yes (by omega) ?_))
            refine fold_cm (L := fun k i z => laws_FnCoteries.l4 k l1 l L g s z (l.length : Int) (pre.length : Int) (L.length : Int) (pre2.length : Int) x (x.length : Int) i) x (fun z y => z && decide (y ∈ g)) (fun pre z => z = pre.all (fun y => decide (y ∈ g))) true rfl ?_ ?_
            · intro pre3 y t3 z e3 hlt3 hi3
              refine ⟨by rw [List.all_append, ← hi3]; simp, fun u2 hu2 => ?_⟩
              refine cm_step (fun k => by rw [laws_FnCoteries.l4]) ?_
              simp only [rd_at e3, wrap_len hlt3 hx]
              refine cm_yes (by omega) (cm_yes (by omega) (cm_yes (by omega) ?_))
              cases z with
              | true => exact cm_yes (by trivial) (cm_bind (lawHas_v g y hg) (by simpa using hu2))
              | false => exact cm_no (by simp) (by simpa using hu2)
            · intro hi3
              rw [hi3]
              refine cm_step (fun k => by rw [laws_FnCoteries.l4]) ?_
              simp only [wrap_len hlt2 h2]
              refine cm_no (by omega) ?_
              cases s with
              | true => exact cm_yes (by trivial) (by simpa using hu)
              | false => exact cm_no (by simp) (by simpa using hu)
          · intro hi
            rw [hi, hany]
            refine cm_step (fun k => by rw [laws_FnCoteries.l3]) ?_
            simp only [wrap_len hlt h1]
            exact cm_no (by omega) (cm_yes (by trivial) hv)
        · refine cm_step (fun k => by rw [laws_FnCoteries.l2]) ?_
          exact cm_no (by omega) tl
    refine same_cm (L := fun k i => laws_FnCoteries.l0 k l1 l L (cotV l).1 (cotV l).2 (L.length : Int) i) L ?_ ?_
    · intro pre x t e hlt v hv
      obtain ⟨b, hb1, hb2, rfl⟩ := hL x (by rw [← e]; simp)
      have hms := ms_len b
      obtain ⟨s1, s2⟩ := least_blocks hn hk.2.1 hb1 hb2
      have h2 := hb.1
      simp only at h2
      have f1 := (surv_f l (ms b) hl2 (by omega)).2
      rw [s1] at f1
      refine cm_step (fun k => by rw [laws_FnCoteries.l0]) ?_
      simp only [l1_at e]
      refine cm_yes (by omega) (cm_yes (by omega) (cm_yes (by omega) (cm_bind f1 (cm_yes rfl ?_))))
      refine cm_step (fun k => by rw [laws_FnCoteries.j2]) ?_
      refine cm_no (by simp) ?_
      refine same_cm (L := fun k i => laws_FnCoteries.l1 k l1 l L (cotV l).1 (cotV l).2 (ms b) (L.length : Int) (pre.length : Int) ((ms b).length : Int) i) (ms b) ?_ ?_
      · intro pre2 y t2 e2 hlt2 v2 hv2
        have hcut := cut_at (show b < 128 by omega) e2
        have hmo := ms_len (off b y.toNat)
        have f2 := (surv_f l (ms (off b y.toNat)) hl2 (by omega)).2
        rw [s2 pre2 y t2 e2] at f2
        have hm7 : (ms b).length ≤ 4611686018427387904 := by omega
        have t1 := List.length_take_le pre2.length (ms b)
        have t3 : ((ms b).drop (pre2.length + 1)).length ≤ (ms b).length := by simp
        refine cm_step (fun k => by rw [laws_FnCoteries.l1]) ?_
        simp only [Option.bind_some, List.nil_append, List.length_nil, Nat.zero_add, wrap_len hlt2 hm7, Int.toNat_natCast, hcut]
        refine cm_yes (by omega) ?_
        refine cm_yes (by omega) ?_
        refine cm_yes (by omega) ?_
        refine cm_yes (by omega) ?_
        refine cm_yes (by omega) ?_
        refine cm_yes (by omega) ?_
        refine cm_yes (by omega) ?_
        refine cm_bind f2 ?_
        refine cm_yes (by trivial) ?_
        refine cm_step (fun k => by rw [laws_FnCoteries.j4]) ?_
        simp only [wrap_len hlt2 hm7]
        exact cm_no (by simp) hv2
      · refine cm_step (fun k => by rw [laws_FnCoteries.l1]) ?_
        simp only [wrap_len hlt h2]
        exact cm_no (by omega) hv
    · refine cm_step (fun k => by rw [laws_FnCoteries.l0]) ?_
      refine cm_no (by omega) ?_
      by_cases c : (cotV l).2 = true
      · refine cm_yes c (hj5 _ (fun hc => ?_))
        unfold cotV at hc
        split at hc
        · exact hc
        · simp at hc
      · exact cm_no c (hj5 _ (fun hc => by simp at hc))
  · have eb : blocksV a l = ([], false) := by unfold blocksV; rw [if_neg hk]
    rw [eb]
    exact cm_no (by simp) tl
end Go.Proofs.Ytjngkfepppejeaa.Pure
end
