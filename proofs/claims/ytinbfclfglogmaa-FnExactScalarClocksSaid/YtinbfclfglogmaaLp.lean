/- Lp: what loops over lists come to, in general: a loop with a state, a loop that tests each item, a loop that counts. -/
import Derived.Test.YtinbfclfglogmaaEv
namespace Go.Proofs.Ytinbfclfglogmaa.Lp
open Go.RowKit Go.Proofs.YtinbfclfglogmaaW.PrintWords
open Go.Proofs.Ytinbfclfglogmaa.Pl Go.Proofs.Ytinbfclfglogmaa.EvN

/-- A loop over a list: its answer from each place on, told by a plain function of what is behind, what is ahead, and the state. -/
theorem loop_cm {α σ ρ : Type} {L : Nat → Int → σ → Option ρ} (xs : List α) (R : List α → List α → σ → ρ) (I : List α → σ → Prop)
    (hend : ∀ s, I xs s → Cm (fun k => L k (xs.length : Int) s) (R xs [] s))
    (hstep : ∀ pre h t s, pre ++ h :: t = xs → pre.length < xs.length → I pre s → (∀ s', I (pre ++ [h]) s' → Cm (fun k => L k ((pre.length + 1 : Nat) : Int) s') (R (pre ++ [h]) t s')) → Cm (fun k => L k (pre.length : Int) s) (R pre (h :: t) s)) :
    ∀ (rest pre : List α) (s : σ), pre ++ rest = xs → I pre s → Cm (fun k => L k (pre.length : Int) s) (R pre rest s)
  | [], pre, s, e, hi => by
    rw [List.append_nil] at e
    subst e
    exact hend s hi
  | h :: t, pre, s, e, hi => by
    refine hstep pre h t s e (len_mid e) hi (fun s' hi' => ?_)
    have := loop_cm xs R I hend hstep t (pre ++ [h]) s' (app_mid e) hi'
    rw [len_one] at this
    exact this
/-- A loop without a way out: a fold. -/
theorem fold_cm {α σ ρ : Type} {L : Nat → Int → σ → Option ρ} (xs : List α) (g : σ → α → σ) (I : List α → σ → Prop) (s0 : σ) {v : ρ} (h0 : I [] s0)
    (hstep : ∀ pre h t s, pre ++ h :: t = xs → pre.length < xs.length → I pre s → I (pre ++ [h]) (g s h) ∧ ∀ u, Cm (fun k => L k ((pre.length + 1 : Nat) : Int) (g s h)) u → Cm (fun k => L k (pre.length : Int) s) u)
    (hend : I xs (xs.foldl g s0) → Cm (fun k => L k (xs.length : Int) (xs.foldl g s0)) v) : Cm (fun k => L k 0 s0) v := by
  have key : ∀ (rest pre : List α) (s : σ), pre ++ rest = xs → I pre s → rest.foldl g s = xs.foldl g s0 → Cm (fun k => L k (pre.length : Int) s) v := by
    intro rest
    induction rest with
    | nil =>
      intro pre s e hi hf
      rw [List.append_nil] at e
      subst e
      rw [List.foldl_nil] at hf
      subst hf
      exact hend hi
    | cons h t ih =>
      intro pre s e hi hf
      obtain ⟨h1, h2⟩ := hstep pre h t s e (len_mid e) hi
      refine h2 v ?_
      have := ih (pre ++ [h]) (g s h) (app_mid e) h1 (by simpa using hf)
      rw [len_one] at this
      exact this
  exact key xs [] s0 rfl h0 rfl
/-- Each item is as told, by itself and by those ahead of it. -/
def okFrom {α : Type} (p : List α → α → Bool) : List α → List α → Bool
  | _, [] => true
  | pre, h :: t => p pre h && okFrom p (pre ++ [h]) t
theorem okFrom_iff {α : Type} (p : List α → α → Bool) : ∀ (rest pre : List α), okFrom p pre rest = true ↔ ∀ a h t, a ++ h :: t = rest → p (pre ++ a) h = true
  | [], pre => by
    simp only [okFrom, true_iff]
    intro a h t e
    simp at e
  | x :: t, pre => by
    simp only [okFrom, Bool.and_eq_true]
    rw [okFrom_iff p t (pre ++ [x])]
    constructor
    · rintro ⟨h1, h2⟩ a h t' e
      cases a with
      | nil =>
        simp only [List.nil_append, List.cons.injEq] at e
        obtain ⟨rfl, rfl⟩ := e
        simpa using h1
      | cons y a =>
        simp only [List.cons_append, List.cons.injEq] at e
        obtain ⟨rfl, e⟩ := e
        have := h2 a h t' e
        simpa using this
    · intro h
      refine ⟨by simpa using h [] x t rfl, fun a h' t' e => ?_⟩
      have := h (x :: a) h' t' (by simp [e])
      simpa using this
theorem okFrom_congr {α : Type} {p q : List α → α → Bool} : ∀ (rest pre : List α), (∀ a h t, a ++ h :: t = rest → p (pre ++ a) h = q (pre ++ a) h) → okFrom p pre rest = okFrom q pre rest
  | [], _, _ => rfl
  | x :: t, pre, h => by
    have h1 := h [] x t rfl
    rw [List.append_nil] at h1
    simp only [okFrom, h1]
    congr 1
    refine okFrom_congr t (pre ++ [x]) (fun a h' t' e => ?_)
    have := h (x :: a) h' t' (by simp [e])
    simpa using this
/-- A loop that tests each item, and goes out with no where one fails. -/
theorem all_cm {α ρ : Type} {L : Nat → Int → Option ρ} (xs : List α) (p : List α → α → Bool) {fin no : ρ}
    (hstep : ∀ pre h t, pre ++ h :: t = xs → pre.length < xs.length → p pre h = true → ∀ v, Cm (fun k => L k ((pre.length + 1 : Nat) : Int)) v → Cm (fun k => L k (pre.length : Int)) v)
    (hno : ∀ pre h t, pre ++ h :: t = xs → pre.length < xs.length → p pre h = false → Cm (fun k => L k (pre.length : Int)) no)
    (hend : okFrom p [] xs = true → Cm (fun k => L k (xs.length : Int)) fin) : Cm (fun k => L k 0) (if okFrom p [] xs = true then fin else no) := by
  have key : ∀ (rest pre : List α), pre ++ rest = xs → (okFrom p pre rest = okFrom p [] xs) → Cm (fun k => L k (pre.length : Int)) (if okFrom p pre rest = true then fin else no) := by
    intro rest
    induction rest with
    | nil =>
      intro pre e h
      rw [List.append_nil] at e
      subst e
      simp only [okFrom, if_true] at h ⊢
      exact hend h.symm
    | cons x t ih =>
      intro pre e h
      by_cases c : p pre x = true
      · have h2 : okFrom p pre (x :: t) = okFrom p (pre ++ [x]) t := by simp only [okFrom, c, Bool.true_and]
        rw [h2] at h ⊢
        have h3 := ih (pre ++ [x]) (app_mid e) h
        rw [len_one] at h3
        exact hstep pre x t e (len_mid e) c _ h3
      · have c2 : p pre x = false := by simpa using c
        have h2 : okFrom p pre (x :: t) = false := by simp only [okFrom, c2, Bool.false_and]
        rw [h2]
        simpa using hno pre x t e (len_mid e) c2
  exact key xs [] rfl rfl
theorem okFrom_append {α : Type} (p : List α → α → Bool) : ∀ (b a c : List α), okFrom p a (b ++ c) = (okFrom p a b && okFrom p (a ++ b) c)
  | [], a, c => by simp [okFrom]
  | x :: b, a, c => by simp only [List.cons_append, okFrom, okFrom_append p b (a ++ [x]) c, Bool.and_assoc, List.append_assoc, List.nil_append]
/-- .. where what is behind is known to be as told. -/
theorem allp_cm {α ρ : Type} {L : Nat → Int → Option ρ} (xs : List α) (p : List α → α → Bool) {fin no : ρ}
    (hstep : ∀ pre h t, pre ++ h :: t = xs → pre.length < xs.length → okFrom p [] pre = true → p pre h = true → ∀ v, Cm (fun k => L k ((pre.length + 1 : Nat) : Int)) v → Cm (fun k => L k (pre.length : Int)) v)
    (hno : ∀ pre h t, pre ++ h :: t = xs → pre.length < xs.length → okFrom p [] pre = true → p pre h = false → Cm (fun k => L k (pre.length : Int)) no)
    (hend : okFrom p [] xs = true → Cm (fun k => L k (xs.length : Int)) fin) : Cm (fun k => L k 0) (if okFrom p [] xs = true then fin else no) := by
  have key : ∀ (rest pre : List α), pre ++ rest = xs → okFrom p [] pre = true → Cm (fun k => L k (pre.length : Int)) (if okFrom p [] xs = true then fin else no) := by
    intro rest
    induction rest with
    | nil =>
      intro pre e h
      rw [List.append_nil] at e
      subst e
      rw [if_pos h]
      exact hend h
    | cons x t ih =>
      intro pre e h
      have h1 := okFrom_append p pre [] [x]
      have h2 := okFrom_append p pre [] (x :: t)
      rw [e] at h2
      simp only [okFrom, h, Bool.true_and, Bool.and_true, List.nil_append] at h1 h2
      by_cases c : p pre x = true
      · have h3 := ih (pre ++ [x]) (app_mid e) (by rw [h1, c])
        rw [len_one] at h3
        exact hstep pre x t e (len_mid e) h c _ h3
      · have c2 : p pre x = false := by simpa using c
        rw [h2, c2, Bool.false_and]
        simpa using hno pre x t e (len_mid e) h c2
  exact key xs [] rfl rfl
theorem okFrom_all {α : Type} (p : α → Bool) : ∀ (rest pre : List α), okFrom (fun _ h => p h) pre rest = rest.all p
  | [], _ => rfl
  | x :: t, pre => by simp only [okFrom, List.all_cons, okFrom_all p t]
/-- A loop that tests each item by itself. -/
theorem every_cm {α ρ : Type} {L : Nat → Int → Option ρ} (xs : List α) (p : α → Bool) {fin no : ρ}
    (hstep : ∀ pre h t, pre ++ h :: t = xs → pre.length < xs.length → p h = true → ∀ v, Cm (fun k => L k ((pre.length + 1 : Nat) : Int)) v → Cm (fun k => L k (pre.length : Int)) v)
    (hno : ∀ pre h t, pre ++ h :: t = xs → pre.length < xs.length → p h = false → Cm (fun k => L k (pre.length : Int)) no)
    (hend : xs.all p = true → Cm (fun k => L k (xs.length : Int)) fin) : Cm (fun k => L k 0) (if xs.all p = true then fin else no) := by
  have := all_cm (L := L) xs (fun _ h => p h) hstep hno (by rw [okFrom_all]; exact hend)
  rw [okFrom_all] at this
  exact this
/-- The answer of the first item of which p holds. -/
def foundAt {α ρ : Type} (p : α → Bool) (found : Nat → α → ρ) (none_ : ρ) : Nat → List α → ρ
  | _, [] => none_
  | i, h :: t => if p h = true then found i h else foundAt p found none_ (i + 1) t
/-- What a loop with a way out for a found item comes to. -/
theorem find_cm {α ρ : Type} {L : Nat → Int → Option ρ} (xs : List α) (p : α → Bool) (found : Nat → α → ρ) {none_ : ρ}
    (hstep : ∀ pre h t, pre ++ h :: t = xs → pre.length < xs.length → p h = false → ∀ v, Cm (fun k => L k ((pre.length + 1 : Nat) : Int)) v → Cm (fun k => L k (pre.length : Int)) v)
    (hyes : ∀ pre h t, pre ++ h :: t = xs → pre.length < xs.length → p h = true → Cm (fun k => L k (pre.length : Int)) (found pre.length h))
    (hend : Cm (fun k => L k (xs.length : Int)) none_) : Cm (fun k => L k 0) (foundAt p found none_ 0 xs) := by
  have key : ∀ (rest pre : List α), pre ++ rest = xs → Cm (fun k => L k (pre.length : Int)) (foundAt p found none_ pre.length rest) := by
    intro rest
    induction rest with
    | nil =>
      intro pre e
      rw [List.append_nil] at e
      subst e
      exact hend
    | cons x t ih =>
      intro pre e
      unfold foundAt
      by_cases c : p x = true
      · rw [if_pos c]
        exact hyes pre x t e (len_mid e) c
      · rw [if_neg c]
        have h3 := ih (pre ++ [x]) (app_mid e)
        rw [len_one] at h3
        exact hstep pre x t e (len_mid e) (by simpa using c) _ h3
  exact key xs [] rfl
theorem foundAt_split {α : Type} (p : α → Bool) : ∀ (l : List α) (i : Nat), (foundAt p (fun i _ => (i : Int)) (-1) i l = -1 ∧ ∀ x ∈ l, p x = false) ∨ ∃ a x b, l = a ++ x :: b ∧ p x = true ∧ (∀ y ∈ a, p y = false) ∧ foundAt p (fun i _ => (i : Int)) (-1) i l = ((i + a.length : Nat) : Int)
  | [], i => .inl ⟨rfl, by simp⟩
  | h :: t, i => by
    unfold foundAt
    by_cases c : p h = true
    · rw [if_pos c]
      exact .inr ⟨[], h, t, rfl, c, by simp, by simp⟩
    · rw [if_neg c]
      have c2 : p h = false := by simpa using c
      rcases foundAt_split p t (i + 1) with ⟨h1, h2⟩ | ⟨a, x, b, e, h1, h2, h3⟩
      · refine .inl ⟨h1, fun x hx => ?_⟩
        rcases List.mem_cons.1 hx with rfl | hx
        · exact c2
        · exact h2 x hx
      · refine .inr ⟨h :: a, x, b, by rw [e]; rfl, h1, fun y hy => ?_, by rw [h3]; simp only [List.length_cons]; omega⟩
        rcases List.mem_cons.1 hy with rfl | hy
        · exact c2
        · exact h2 y hy
theorem found_any {α : Type} (p : α → Bool) : ∀ (l : List α) (i : Nat), decide (foundAt p (fun i _ => (i : Int)) (-1) i l ≥ 0) = l.any p
  | [], _ => by simp [foundAt]
  | h :: t, i => by
    unfold foundAt
    by_cases c : p h = true
    · rw [if_pos c]; simp [c]
    · rw [if_neg c, found_any p t (i + 1)]; simp [c]
theorem foundAt_congr {α ρ : Type} {p q : α → Bool} (found : Nat → α → ρ) (none_ : ρ) : ∀ (l : List α) (i : Nat), (∀ h ∈ l, p h = q h) → foundAt p found none_ i l = foundAt q found none_ i l
  | [], _, _ => rfl
  | h :: t, i, hp => by
    unfold foundAt
    rw [hp h (by simp), foundAt_congr found none_ t (i + 1) (fun x hx => hp x (by simp [hx]))]
theorem not_any {α : Type} (p q : α → Bool) (l : List α) (h : ∀ x ∈ l, p x = !q x) : (!l.any p) = l.all q := by
  induction l with
  | nil => rfl
  | cons x t ih => rw [List.any_cons, List.all_cons, h x (by simp), ← ih (fun y hy => h y (by simp [hy]))]; cases q x <;> simp
/-- A loop that goes on at each item. -/
theorem same_cm {α ρ : Type} {L : Nat → Int → Option ρ} (xs : List α) {fin : ρ}
    (hstep : ∀ pre h t, pre ++ h :: t = xs → pre.length < xs.length → ∀ v, Cm (fun k => L k ((pre.length + 1 : Nat) : Int)) v → Cm (fun k => L k (pre.length : Int)) v)
    (hend : Cm (fun k => L k (xs.length : Int)) fin) : Cm (fun k => L k 0) fin := by
  have := every_cm (L := L) xs (fun _ => true) (fin := fin) (no := fin) (fun pre h t e hl _ => hstep pre h t e hl) (fun _ _ _ _ _ hp => by cases hp) (fun _ => hend)
  have h : (xs.all fun _ => true) = true := by simp
  rw [if_pos h] at this
  exact this
/-- A loop that fills a list item by item. -/
theorem map_cm {α β : Type} {L : Nat → Int → List β → Option (List β)} (xs : List α) (c : α → β) (z : β)
    (hstep : ∀ pre h t acc, pre ++ h :: t = xs → pre.length < xs.length → acc.length = xs.length → ∀ u, Cm (fun k => L k ((pre.length + 1 : Nat) : Int) (acc.set pre.length (c h))) u → Cm (fun k => L k (pre.length : Int) acc) u)
    (hend : ∀ acc, acc.length = xs.length → Cm (fun k => L k (xs.length : Int) acc) acc) : Cm (fun k => L k 0 (List.replicate xs.length z)) (xs.map c) := by
  have key : ∀ (rest pre : List α) (tl : List β), pre ++ rest = xs → tl.length = rest.length → Cm (fun k => L k (pre.length : Int) (pre.map c ++ tl)) (xs.map c) := by
    intro rest
    induction rest with
    | nil =>
      intro pre tl e ht
      have ht2 : tl = [] := List.length_eq_zero_iff.1 ht
      rw [List.append_nil] at e
      subst ht2 e
      rw [List.append_nil]
      exact hend _ (by simp)
    | cons h t ih =>
      intro pre tl e ht
      match tl, ht with
      | y :: tl, ht =>
        refine hstep pre h t _ e (len_mid e) (by rw [← e]; simp at ht ⊢; omega) _ ?_
        have e2 : (pre.map c ++ y :: tl).set pre.length (c h) = (pre ++ [h]).map c ++ tl := by
          have : pre.length = (pre.map c).length := by simp
          rw [this]
          simp
        rw [e2]
        have := ih (pre ++ [h]) tl (app_mid e) (by simpa using ht)
        rw [len_one] at this
        exact this
  have := key xs [] (List.replicate xs.length z) rfl (by simp)
  simpa using this
/-- A loop that comes to something. -/
theorem ex_cm {α σ ρ : Type} {L : Nat → Int → σ → Option ρ} (xs : List α)
    (hstep : ∀ pre h t s, pre ++ h :: t = xs → pre.length < xs.length → (∃ v, Cm (fun k => L k (pre.length : Int) s) v) ∨ ∃ s', ∀ u, Cm (fun k => L k ((pre.length + 1 : Nat) : Int) s') u → Cm (fun k => L k (pre.length : Int) s) u)
    (hend : ∀ s, ∃ v, Cm (fun k => L k (xs.length : Int) s) v) (s0 : σ) : ∃ v, Cm (fun k => L k 0 s0) v := by
  have key : ∀ (rest pre : List α) (s : σ), pre ++ rest = xs → ∃ v, Cm (fun k => L k (pre.length : Int) s) v := by
    intro rest
    induction rest with
    | nil =>
      intro pre s e
      rw [List.append_nil] at e
      subst e
      exact hend s
    | cons h t ih =>
      intro pre s e
      rcases hstep pre h t s e (len_mid e) with h1 | ⟨s', h1⟩
      · exact h1
      · obtain ⟨v, hv⟩ := ih (pre ++ [h]) s' (app_mid e)
        rw [len_one] at hv
        exact ⟨v, h1 v hv⟩
  exact key xs [] s0 rfl
theorem exs_cm {α σ ρ : Type} {L : Nat → Int → σ → Option ρ} (xs : List α)
    (hstep : ∀ pre h t s, pre ++ h :: t = xs → pre.length < xs.length → (∀ s', ∃ v, Cm (fun k => L k ((pre.length + 1 : Nat) : Int) s') v) → ∃ v, Cm (fun k => L k (pre.length : Int) s) v)
    (hend : ∀ s, ∃ v, Cm (fun k => L k (xs.length : Int) s) v) (s0 : σ) : ∃ v, Cm (fun k => L k 0 s0) v := by
  have key : ∀ (rest pre : List α), pre ++ rest = xs → ∀ s, ∃ v, Cm (fun k => L k (pre.length : Int) s) v := by
    intro rest
    induction rest with
    | nil =>
      intro pre e s
      rw [List.append_nil] at e
      subst e
      exact hend s
    | cons h t ih =>
      intro pre e s
      refine hstep pre h t s e (len_mid e) (fun s' => ?_)
      have := ih (pre ++ [h]) (app_mid e) s'
      rw [len_one] at this
      exact this
  exact key xs [] rfl s0
/-- A step of a chain, whatever the answer. -/
theorem cm_if {α : Type} {c : Prop} [Decidable c] {x y : Nat → Option α} {v : α} (h : c → Cm x v) (h2 : ¬ c → Cm y v) : Cm (fun k => if c then x k else y k) v := by
  by_cases hc : c
  · exact cm_yes hc (h hc)
  · exact cm_no hc (h2 hc)
theorem getD_at {α : Type} {pre t l : List α} {h : α} (e : pre ++ h :: t = l) (d : α) : l.getD ((pre.length : Int)).toNat d = h := by
  rw [← e]; simp
theorem take_at {α : Type} {pre t l : List α} (e : pre ++ t = l) : l.take ((pre.length : Int)).toNat = pre := by
  rw [← e]; simp
theorem take_len {α : Type} {pre t l : List α} (e : pre ++ t = l) : l.take pre.length = pre := by
  rw [← e]; simp
theorem getLast_at {α : Type} {pre rest l : List α} (e : pre ++ rest = l) (d : α) {q : α} (h : pre.getLast? = some q) : 0 < pre.length ∧ l.getD ((pre.length : Int) - 1).toNat d = q := by
  obtain ⟨z, rfl⟩ := List.getLast?_eq_some_iff.1 h
  refine ⟨by simp, ?_⟩
  have h3 : ((((z ++ [q]).length : Nat) : Int) - 1).toNat = z.length := by simp
  rw [← e, h3]
  simp
theorem wrap_less {n : Nat} (h : 0 < n) (hm : n ≤ 4611686018427387904) : wrap64 ((n : Int) - 1) = (n : Int) - 1 := wrap_in (by omega) (by omega)
theorem cm_val {α : Type} {f : Nat → Option α} {u v : α} (h : Cm f u) (e : u = v) : Cm f v := e ▸ h
end Go.Proofs.Ytinbfclfglogmaa.Lp
