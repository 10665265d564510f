-- Written by programs of this session (wip/prune.py, wip/xp.py), out of the translation and the printed words; what the law does not reach is left out. Not trusted: Lean checks it.
import Derived.Test.YtmkiffemanmgcaaZXGoodControlW0
import Derived.Test.YtmkiffemanmgcaaZXGoodControlPx2
import Derived.Test.YtmkiffemanmgcaaZXGoodControlPx5
import Derived.Test.YtmkiffemanmgcaaZXGoodControlPx6
import Derived.Test.YtmkiffemanmgcaaZXGoodControlPx11
import Derived.Test.YtmkiffemanmgcaaZXGoodControlPx17
import Derived.Test.YtmkiffemanmgcaaZXGoodControlPx18
import Derived.Test.YtmkiffemanmgcaaZXGoodControlPx3
import Derived.Test.YtmkiffemanmgcaaZXGoodControlPx10
import Derived.Test.YtmkiffemanmgcaaZXGoodControlPx12
import Derived.Test.YtmkiffemanmgcaaZXGoodControlPx16
import Derived.Test.YtmkiffemanmgcaaZXGoodControlPxok
import Derived.Laws.BitsAllLaws
import Derived.Test.YtmkiffemanmgcaaZXGoodControlPx1
import Derived.Test.YtmkiffemanmgcaaZXGoodControlPx4
section
namespace Go.Proofs.Ytmkiffemanmgcaa.Pl
open Go.RowKit Go.Proofs.YtmkiffemanmgcaaW.PrintWords Go.Proofs.YtmkiffemanmgcaaW.PrintLast Go.Proofs.YtmkiffemanmgcaaW.PrintMore
theorem wrap_in {x : Int} (h0 : -9223372036854775808 ≤ x) (h1 : x ≤ 9223372036854775807) : wrap64 x = x := by
  unfold wrap64
  omega
theorem wrap_len {n m : Nat} (h : n < m) (hm : m ≤ 4611686018427387904) : wrap64 ((n : Int) + 1) = ((n + 1 : Nat) : Int) := by
  rw [wrap_in (by omega) (by omega)]
  omega
theorem round {k d : Nat} (h : d < k) : ∃ m, k = m + 1 := ⟨k - 1, by omega⟩
theorem rd_mid (pre : List Int) (h : Int) (t : List Int) : rd (pre ++ h :: t) (pre.length : Int) = h := by
  simp [rd]
theorem rd_at {pre t l : List Int} {h : Int} (e : pre ++ h :: t = l) : rd l (pre.length : Int) = h := by
  rw [← e]; exact rd_mid pre h t
theorem len_mid {α : Type} {pre t : List α} {h : α} {l : List α} (e : pre ++ h :: t = l) : pre.length < l.length := by
  rw [← e]; simp
theorem app_mid {α : Type} {pre t : List α} {h : α} {l : List α} (e : pre ++ h :: t = l) : (pre ++ [h]) ++ t = l := by
  rw [← e]; simp
theorem len_one {α : Type} (pre : List α) (h : α) : (pre ++ [h]).length = pre.length + 1 := by simp
theorem rd_last {pre rest l : List Int} {p : Int} (e : pre ++ rest = l) (h : pre.getLast? = some p) : 0 < pre.length ∧ rd l ((pre.length : Int) - 1) = p := by
  obtain ⟨q, rfl⟩ := List.getLast?_eq_some_iff.1 h
  refine ⟨by simp, ?_⟩
  have h2 : q ++ [p] ++ rest = q ++ p :: rest := by simp
  rw [← e, h2, len_one, show (((q.length + 1 : Nat) : Int) - 1) = (q.length : Int) by omega]
  exact rd_mid q p rest
theorem no_last {α : Type} {pre : List α} (h : pre.getLast? = none) : pre = [] := by
  simpa using h
end Go.Proofs.Ytmkiffemanmgcaa.Pl
end
section
namespace Go.Proofs.Ytmkiffemanmgcaa.EvN
def Cm {α : Type} (f : Nat → Option α) (v : α) : Prop := ∃ K, ∀ k, K ≤ k → f k = some v
theorem cm_now {α : Type} {f : Nat → Option α} {v : α} (h : ∀ k, f k = some v) : Cm f v := ⟨0, fun k _ => h k⟩
theorem cm_step {α : Type} {f g : Nat → Option α} {v : α} (h : ∀ k, f (k + 1) = g k) (hg : Cm g v) : Cm f v := by
  obtain ⟨K, hK⟩ := hg
  refine ⟨K + 1, fun k hk => ?_⟩
  obtain ⟨m, rfl⟩ : ∃ m, k = m + 1 := ⟨k - 1, by omega⟩
  rw [h, hK m (by omega)]
theorem cm_same {α : Type} {f g : Nat → Option α} {v : α} (h : ∀ k, f k = g k) (hg : Cm g v) : Cm f v := by
  obtain ⟨K, hK⟩ := hg
  exact ⟨K, fun k hk => by rw [h, hK k hk]⟩
theorem cm_bind {α β : Type} {a : Nat → Option α} {t : α} {g : Nat → α → Option β} {v : β} (ha : Cm a t) (hg : Cm (fun k => g k t) v) : Cm (fun k => (a k).bind (g k)) v := by
  obtain ⟨K, hK⟩ := ha
  obtain ⟨M, hM⟩ := hg
  exact ⟨K + M, fun k hk => by simp only [hK k (by omega)]; exact hM k (by omega)⟩
theorem cm_yes {α : Type} {c : Prop} [Decidable c] {x y : Nat → Option α} {v : α} (h : c) (h2 : Cm x v) : Cm (fun k => if c then x k else y k) v :=
  cm_same (fun _ => if_pos h) h2
theorem cm_no {α : Type} {c : Prop} [Decidable c] {x y : Nat → Option α} {v : α} (h : ¬ c) (h2 : Cm y v) : Cm (fun k => if c then x k else y k) v :=
  cm_same (fun _ => if_neg h) h2
theorem cm_ex {α : Type} {f : Nat → Option α} {v : α} (h : Cm f v) : ∃ k, f k = some v := by
  obtain ⟨K, hK⟩ := h
  exact ⟨K, hK K (Nat.le_refl _)⟩
end Go.Proofs.Ytmkiffemanmgcaa.EvN
end
section
namespace Go.Proofs.Ytmkiffemanmgcaa.Lp
open Go.RowKit Go.Proofs.YtmkiffemanmgcaaW.PrintWords
open Go.Proofs.Ytmkiffemanmgcaa.Pl Go.Proofs.Ytmkiffemanmgcaa.EvN
def okFrom {α : Type} (p : List α → α → Bool) : List α → List α → Bool
  | _, [] => true
  | pre, h :: t => p pre h && okFrom p (pre ++ [h]) t
theorem okFrom_iff {α : Type} (p : List α → α → Bool) : ∀ (rest pre : List α), okFrom p pre rest = true ↔ ∀ a h t, a ++ h :: t = rest → p (pre ++ a) h = true
  | [], pre => by
    simp only [okFrom, true_iff]
    intro a h t e
    simp at e
  | x :: t, pre => by
    simp only [okFrom, Bool.and_eq_true]
    rw [okFrom_iff p t (pre ++ [x])]
    constructor
    · rintro ⟨h1, h2⟩ a h t' e
      cases a with
      | nil =>
        simp only [List.nil_append, List.cons.injEq] at e
        obtain ⟨rfl, rfl⟩ := e
        simpa using h1
      | cons y a =>
        simp only [List.cons_append, List.cons.injEq] at e
        obtain ⟨rfl, e⟩ := e
        have := h2 a h t' e
        simpa using this
    · intro h
      refine ⟨by simpa using h [] x t rfl, fun a h' t' e => ?_⟩
      have := h (x :: a) h' t' (by simp [e])
      simpa using this
theorem all_cm {α ρ : Type} {L : Nat → Int → Option ρ} (xs : List α) (p : List α → α → Bool) {fin no : ρ}
    (hstep : ∀ pre h t, pre ++ h :: t = xs → pre.length < xs.length → p pre h = true → ∀ v, Cm (fun k => L k ((pre.length + 1 : Nat) : Int)) v → Cm (fun k => L k (pre.length : Int)) v)
    (hno : ∀ pre h t, pre ++ h :: t = xs → pre.length < xs.length → p pre h = false → Cm (fun k => L k (pre.length : Int)) no)
    (hend : okFrom p [] xs = true → Cm (fun k => L k (xs.length : Int)) fin) : Cm (fun k => L k 0) (if okFrom p [] xs = true then fin else no) := by
  have key : ∀ (rest pre : List α), pre ++ rest = xs → (okFrom p pre rest = okFrom p [] xs) → Cm (fun k => L k (pre.length : Int)) (if okFrom p pre rest = true then fin else no) := by
    intro rest
    induction rest with
    | nil =>
      intro pre e h
      rw [List.append_nil] at e
      subst e
      simp only [okFrom, if_true] at h ⊢
      exact hend h.symm
    | cons x t ih =>
      intro pre e h
      by_cases c : p pre x = true
      · have h2 : okFrom p pre (x :: t) = okFrom p (pre ++ [x]) t := by simp only [okFrom, c, Bool.true_and]
        rw [h2] at h ⊢
        have h3 := ih (pre ++ [x]) (app_mid e) h
        rw [len_one] at h3
        exact hstep pre x t e (len_mid e) c _ h3
      · have c2 : p pre x = false := by simpa using c
        have h2 : okFrom p pre (x :: t) = false := by simp only [okFrom, c2, Bool.false_and]
        rw [h2]
        simpa using hno pre x t e (len_mid e) c2
  exact key xs [] rfl rfl
theorem okFrom_all {α : Type} (p : α → Bool) : ∀ (rest pre : List α), okFrom (fun _ h => p h) pre rest = rest.all p
  | [], _ => rfl
  | x :: t, pre => by simp only [okFrom, List.all_cons, okFrom_all p t]
theorem every_cm {α ρ : Type} {L : Nat → Int → Option ρ} (xs : List α) (p : α → Bool) {fin no : ρ}
    (hstep : ∀ pre h t, pre ++ h :: t = xs → pre.length < xs.length → p h = true → ∀ v, Cm (fun k => L k ((pre.length + 1 : Nat) : Int)) v → Cm (fun k => L k (pre.length : Int)) v)
    (hno : ∀ pre h t, pre ++ h :: t = xs → pre.length < xs.length → p h = false → Cm (fun k => L k (pre.length : Int)) no)
    (hend : xs.all p = true → Cm (fun k => L k (xs.length : Int)) fin) : Cm (fun k => L k 0) (if xs.all p = true then fin else no) := by
  have := all_cm (L := L) xs (fun _ h => p h) hstep hno (by rw [okFrom_all]; exact hend)
  rw [okFrom_all] at this
  exact this
def foundAt {α ρ : Type} (p : α → Bool) (found : Nat → α → ρ) (none_ : ρ) : Nat → List α → ρ
  | _, [] => none_
  | i, h :: t => if p h = true then found i h else foundAt p found none_ (i + 1) t
theorem find_cm {α ρ : Type} {L : Nat → Int → Option ρ} (xs : List α) (p : α → Bool) (found : Nat → α → ρ) {none_ : ρ}
    (hstep : ∀ pre h t, pre ++ h :: t = xs → pre.length < xs.length → p h = false → ∀ v, Cm (fun k => L k ((pre.length + 1 : Nat) : Int)) v → Cm (fun k => L k (pre.length : Int)) v)
    (hyes : ∀ pre h t, pre ++ h :: t = xs → pre.length < xs.length → p h = true → Cm (fun k => L k (pre.length : Int)) (found pre.length h))
    (hend : Cm (fun k => L k (xs.length : Int)) none_) : Cm (fun k => L k 0) (foundAt p found none_ 0 xs) := by
  have key : ∀ (rest pre : List α), pre ++ rest = xs → Cm (fun k => L k (pre.length : Int)) (foundAt p found none_ pre.length rest) := by
    intro rest
    induction rest with
    | nil =>
      intro pre e
      rw [List.append_nil] at e
      subst e
      exact hend
    | cons x t ih =>
      intro pre e
      unfold foundAt
      by_cases c : p x = true
      · rw [if_pos c]
        exact hyes pre x t e (len_mid e) c
      · rw [if_neg c]
        have h3 := ih (pre ++ [x]) (app_mid e)
        rw [len_one] at h3
        exact hstep pre x t e (len_mid e) (by simpa using c) _ h3
  exact key xs [] rfl
theorem found_any {α : Type} (p : α → Bool) : ∀ (l : List α) (i : Nat), decide (foundAt p (fun i _ => (i : Int)) (-1) i l ≥ 0) = l.any p
  | [], _ => by simp [foundAt]
  | h :: t, i => by
    unfold foundAt
    by_cases c : p h = true
    · rw [if_pos c]; simp [c]
    · rw [if_neg c, found_any p t (i + 1)]; simp [c]
theorem not_any {α : Type} (p q : α → Bool) (l : List α) (h : ∀ x ∈ l, p x = !q x) : (!l.any p) = l.all q := by
  induction l with
  | nil => rfl
  | cons x t ih => rw [List.any_cons, List.all_cons, h x (by simp), ← ih (fun y hy => h y (by simp [hy]))]; cases q x <;> simp
theorem same_cm {α ρ : Type} {L : Nat → Int → Option ρ} (xs : List α) {fin : ρ}
    (hstep : ∀ pre h t, pre ++ h :: t = xs → pre.length < xs.length → ∀ v, Cm (fun k => L k ((pre.length + 1 : Nat) : Int)) v → Cm (fun k => L k (pre.length : Int)) v)
    (hend : Cm (fun k => L k (xs.length : Int)) fin) : Cm (fun k => L k 0) fin := by
  have := every_cm (L := L) xs (fun _ => true) (fin := fin) (no := fin) (fun pre h t e hl _ => hstep pre h t e hl) (fun _ _ _ _ _ hp => by cases hp) (fun _ => hend)
  have h : (xs.all fun _ => true) = true := by simp
  rw [if_pos h] at this
  exact this
theorem map_cm {α β : Type} {L : Nat → Int → List β → Option (List β)} (xs : List α) (c : α → β) (z : β)
    (hstep : ∀ pre h t acc, pre ++ h :: t = xs → pre.length < xs.length → acc.length = xs.length → ∀ u, Cm (fun k => L k ((pre.length + 1 : Nat) : Int) (acc.set pre.length (c h))) u → Cm (fun k => L k (pre.length : Int) acc) u)
    (hend : ∀ acc, acc.length = xs.length → Cm (fun k => L k (xs.length : Int) acc) acc) : Cm (fun k => L k 0 (List.replicate xs.length z)) (xs.map c) := by
  have key : ∀ (rest pre : List α) (tl : List β), pre ++ rest = xs → tl.length = rest.length → Cm (fun k => L k (pre.length : Int) (pre.map c ++ tl)) (xs.map c) := by
    intro rest
    induction rest with
    | nil =>
      intro pre tl e ht
      have ht2 : tl = [] := List.length_eq_zero_iff.1 ht
      rw [List.append_nil] at e
      subst ht2 e
      rw [List.append_nil]
      exact hend _ (by simp)
    | cons h t ih =>
      intro pre tl e ht
      match tl, ht with
      | y :: tl, ht =>
        refine hstep pre h t _ e (len_mid e) (by rw [← e]; simp at ht ⊢; omega) _ ?_
        have e2 : (pre.map c ++ y :: tl).set pre.length (c h) = (pre ++ [h]).map c ++ tl := by
          have : pre.length = (pre.map c).length := by simp
          rw [this]
          simp
        rw [e2]
        have := ih (pre ++ [h]) tl (app_mid e) (by simpa using ht)
        rw [len_one] at this
        exact this
  have := key xs [] (List.replicate xs.length z) rfl (by simp)
  simpa using this
theorem ex_cm {α σ ρ : Type} {L : Nat → Int → σ → Option ρ} (xs : List α)
    (hstep : ∀ pre h t s, pre ++ h :: t = xs → pre.length < xs.length → (∃ v, Cm (fun k => L k (pre.length : Int) s) v) ∨ ∃ s', ∀ u, Cm (fun k => L k ((pre.length + 1 : Nat) : Int) s') u → Cm (fun k => L k (pre.length : Int) s) u)
    (hend : ∀ s, ∃ v, Cm (fun k => L k (xs.length : Int) s) v) (s0 : σ) : ∃ v, Cm (fun k => L k 0 s0) v := by
  have key : ∀ (rest pre : List α) (s : σ), pre ++ rest = xs → ∃ v, Cm (fun k => L k (pre.length : Int) s) v := by
    intro rest
    induction rest with
    | nil =>
      intro pre s e
      rw [List.append_nil] at e
      subst e
      exact hend s
    | cons h t ih =>
      intro pre s e
      rcases hstep pre h t s e (len_mid e) with h1 | ⟨s', h1⟩
      · exact h1
      · obtain ⟨v, hv⟩ := ih (pre ++ [h]) s' (app_mid e)
        rw [len_one] at hv
        exact ⟨v, h1 v hv⟩
  exact key xs [] s0 rfl
theorem cm_if {α : Type} {c : Prop} [Decidable c] {x y : Nat → Option α} {v : α} (h : c → Cm x v) (h2 : ¬ c → Cm y v) : Cm (fun k => if c then x k else y k) v := by
  by_cases hc : c
  · exact cm_yes hc (h hc)
  · exact cm_no hc (h2 hc)
theorem getD_at {α : Type} {pre t l : List α} {h : α} (e : pre ++ h :: t = l) (d : α) : l.getD ((pre.length : Int)).toNat d = h := by
  rw [← e]; simp
theorem wrap_less {n : Nat} (h : 0 < n) (hm : n ≤ 4611686018427387904) : wrap64 ((n : Int) - 1) = (n : Int) - 1 := wrap_in (by omega) (by omega)
theorem cm_val {α : Type} {f : Nat → Option α} {u v : α} (h : Cm f u) (e : u = v) : Cm f v := e ▸ h
end Go.Proofs.Ytmkiffemanmgcaa.Lp
end
section
namespace Go.Proofs.Ytmkiffemanmgcaa.Hs
open Go.RowKit Go.Proofs.Ytmkiffemanmgcaa.P Go.Proofs.YtmkiffemanmgcaaW.PrintWords Go.Proofs.YtmkiffemanmgcaaW.PrintLast Go.Proofs.YtmkiffemanmgcaaW.PrintMore
open Go.Proofs.Ytmkiffemanmgcaa.Pl Go.Proofs.Ytmkiffemanmgcaa.EvN Go.Proofs.Ytmkiffemanmgcaa.Lp
set_option linter.unusedSimpArgs false
set_option linter.unusedVariables false
theorem toIntS_f (l : List Int) (h : l.length * 8 ≤ 140737488351232) : Cm (fun k => laws_toIntS.f k l) l := by
  unfold laws_toIntS.f
  refine cm_yes (by omega) (cm_yes (by omega) ?_)
  have := map_cm (L := fun k i s => laws_toIntS.l0 k l s i) l (fun x => x) 0 ?_ ?_
  · simpa using this
  · intro pre x t acc e hlt ha u hu
    refine cm_step (fun k => by rw [laws_toIntS.l0]) ?_
    simp only [rd_at e, wrap_len hlt (show l.length ≤ 4611686018427387904 by omega), Int.toNat_natCast]
    repeat (first | assumption | exact cm_now (fun _ => rfl) | refine cm_yes (by first | omega | assumption | (simp; done) | (simp; omega)) ?_ | refine cm_no (by first | omega | assumption | (simp; done) | (simp; omega)) ?_)
  · intro acc ha
    refine cm_step (fun k => by rw [laws_toIntS.l0]) ?_
    repeat (first | assumption | exact cm_now (fun _ => rfl) | refine cm_yes (by first | omega | assumption | (simp; done) | (simp; omega)) ?_ | refine cm_no (by first | omega | assumption | (simp; done) | (simp; omega)) ?_)
theorem eqIntS_same (l : List Int) (h : l.length ≤ 4611686018427387904) : Cm (fun k => laws_eqIntS.f k l l) true := by
  unfold laws_eqIntS.f
  refine cm_yes rfl ?_
  refine same_cm (L := fun k i => laws_eqIntS.l0 k l l i) l ?_ ?_
  · intro pre x t e hlt v hv
    refine cm_step (fun k => by rw [laws_eqIntS.l0]) ?_
    simp only [rd_at e, wrap_len hlt h]
    repeat (first | assumption | exact cm_now (fun _ => rfl) | refine cm_yes (by first | omega | assumption | (simp; done) | (simp; omega) | exact rfl) ?_ | refine cm_no (by first | omega | assumption | (simp; done) | (simp; omega) | exact rfl) ?_)
  · refine cm_step (fun k => by rw [laws_eqIntS.l0]) ?_
    repeat (first | assumption | exact cm_now (fun _ => rfl) | refine cm_yes (by first | omega | assumption | (simp; done) | (simp; omega)) ?_ | refine cm_no (by first | omega | assumption | (simp; done) | (simp; omega)) ?_)
theorem szIntS_f (l : List Int) (m : Int) : ∃ v, Cm (fun _ => laws_szIntS.f l m) v := by
  unfold laws_szIntS.f
  by_cases c : wrap64 (m - (l.length : Int)) < 0
  · exact ⟨_, cm_yes c (cm_now fun _ => rfl)⟩
  · exact ⟨_, cm_no c (cm_now fun _ => rfl)⟩
end Go.Proofs.Ytmkiffemanmgcaa.Hs
end
section
namespace Go.Proofs.Ytmkiffemanmgcaa.Hg
open Go.RowKit Go.Proofs.Ytmkiffemanmgcaa.P Go.Proofs.YtmkiffemanmgcaaW.PrintWords Go.Proofs.YtmkiffemanmgcaaW.PrintLast Go.Proofs.YtmkiffemanmgcaaW.PrintMore
open Go.Proofs.Ytmkiffemanmgcaa.Pl Go.Proofs.Ytmkiffemanmgcaa.EvN Go.Proofs.Ytmkiffemanmgcaa.Lp Go.Proofs.Ytmkiffemanmgcaa.Hs
set_option linter.unusedSimpArgs false
set_option linter.unusedVariables false
theorem rdT112_at {pre t l : List S112} {h : S112} (e : pre ++ h :: t = l) : rd_T112 l (pre.length : Int) = h := getD_at e _
theorem rdT67_at {pre t l : List S67} {h : S67} (e : pre ++ h :: t = l) : rd_T67 l (pre.length : Int) = h := getD_at e _
def cBroker (x : S112) : S67 := ⟨x.f0, x.f1, x.f2⟩
def smBroker (x : S67) : Prop := (True) ∧ (True) ∧ (True)
theorem sm_cBroker (x : S112) (h : ok112 x) : smBroker (cBroker x) := by
  obtain ⟨h0, h1, h2⟩ := h
  exact ⟨trivial, trivial, trivial⟩
theorem toBroker_f (x : S112) (h : ok112 x) : Cm (fun k => laws_toBroker.f x.f0 x.f1 x.f2) ((cBroker x).f0, (cBroker x).f1, (cBroker x).f2) := by
  obtain ⟨h0, h1, h2⟩ := h
  unfold laws_toBroker.f
  exact cm_now fun _ => rfl
theorem toBrokerS_f (l : List S112) (h : l.length ≤ maxLen ∧ l.length * 24 ≤ 140737488351232 ∧ ∀ x_ ∈ l, ok112 x_) : Cm (fun k => laws_toBrokerS.f k l) (l.map cBroker) := by
  have hl := h.2.1
  unfold laws_toBrokerS.f
  refine cm_yes (by omega) (cm_yes (by omega) ?_)
  rw [Int.toNat_natCast]
  refine map_cm (L := fun k i s => laws_toBrokerS.l0 k l s i) l cBroker z67 ?_ ?_
  · intro pre x t acc e hlt ha u hu
    have hx := h.2.2 x (by rw [← e]; simp)
    refine cm_step (fun k => by rw [laws_toBrokerS.l0]) ?_
    simp only [rdT112_at e, wrap_len hlt (show l.length ≤ 4611686018427387904 by omega), Int.toNat_natCast]
    refine cm_yes (by omega) (cm_yes (by omega) (cm_bind (toBroker_f x hx) (cm_yes (by omega) ?_)))
    exact hu
  · intro acc ha
    refine cm_step (fun k => by rw [laws_toBrokerS.l0]) ?_
    exact cm_no (by omega) (cm_now fun _ => rfl)
theorem eqBroker_same (x : S67) (h : smBroker x) : Cm (fun k => laws_eqBroker.f x.f0 x.f1 x.f2 x.f0 x.f1 x.f2) true := by
  obtain ⟨h0, h1, h2⟩ := h
  unfold laws_eqBroker.f
  exact cm_yes rfl (cm_yes rfl (cm_no (by simp) (cm_now fun _ => rfl)))
theorem eqBrokerS_same (l : List S67) (h : l.length ≤ 4611686018427387904 ∧ ∀ y ∈ l, smBroker y) : Cm (fun k => laws_eqBrokerS.f k l l) true := by
  unfold laws_eqBrokerS.f
  refine cm_yes rfl ?_
  refine same_cm (L := fun k i => laws_eqBrokerS.l0 k l l i) l ?_ ?_
  · intro pre x t e hlt v hv
    have hx := h.2 x (by rw [← e]; simp)
    refine cm_step (fun k => by rw [laws_eqBrokerS.l0]) ?_
    simp only [rdT67_at e, wrap_len hlt h.1]
    exact cm_yes (by omega) (cm_yes (by omega) (cm_yes (by omega) (cm_bind (eqBroker_same x hx) (cm_yes rfl hv))))
  · refine cm_step (fun k => by rw [laws_eqBrokerS.l0]) ?_
    exact cm_no (by omega) (cm_now fun _ => rfl)
theorem szBrokerS_ex (l : List S112) (h : l.length ≤ maxLen ∧ l.length * 24 ≤ 140737488351232 ∧ ∀ x_ ∈ l, ok112 x_) (m : Int) : ∃ v, Cm (fun k => laws_szBrokerS.f l m) v := by
  have hl := h.2.1
  unfold laws_szBrokerS.f
  by_cases c : wrap64 (m - (l.length : Int)) < 0
  · exact ⟨_, cm_yes c (cm_now fun _ => rfl)⟩
  · exact ⟨_, cm_no c (cm_now fun _ => rfl)⟩
theorem rdT108_at {pre t l : List S108} {h : S108} (e : pre ++ h :: t = l) : rd_T108 l (pre.length : Int) = h := getD_at e _
theorem rdT85_at {pre t l : List S85} {h : S85} (e : pre ++ h :: t = l) : rd_T85 l (pre.length : Int) = h := getD_at e _
def cPartition (x : S108) : S85 := ⟨x.f0, x.f1, x.f2, x.f3, x.f4⟩
def smPartition (x : S85) : Prop := (x.f0.length ≤ 4611686018427387904) ∧ (x.f1.length ≤ 4611686018427387904) ∧ (True) ∧ (True) ∧ (True)
theorem sm_cPartition (x : S108) (h : ok108 x) : smPartition (cPartition x) := by
  obtain ⟨h0, h1, h2, h3, h4⟩ := h
  exact ⟨by have := h0.2.1; simp only [cPartition]; omega, by have := h1.2.1; simp only [cPartition]; omega, trivial, trivial, trivial⟩
theorem toPartition_f (x : S108) (h : ok108 x) : Cm (fun k => laws_toPartition.f k x.f0 x.f1 x.f2 x.f3 x.f4) ((cPartition x).f0, (cPartition x).f1, (cPartition x).f2, (cPartition x).f3, (cPartition x).f4) := by
  obtain ⟨h0, h1, h2, h3, h4⟩ := h
  unfold laws_toPartition.f
  exact cm_bind (toIntS_f _ h0.2.1) (cm_bind (toIntS_f _ h1.2.1) (cm_now fun _ => rfl))
theorem toPartitionS_f (l : List S108) (h : l.length ≤ maxLen ∧ l.length * 72 ≤ 140737488351232 ∧ ∀ x_ ∈ l, ok108 x_) : Cm (fun k => laws_toPartitionS.f k l) (l.map cPartition) := by
  have hl := h.2.1
  unfold laws_toPartitionS.f
  refine cm_yes (by omega) (cm_yes (by omega) ?_)
  rw [Int.toNat_natCast]
  refine map_cm (L := fun k i s => laws_toPartitionS.l0 k l s i) l cPartition z85 ?_ ?_
  · intro pre x t acc e hlt ha u hu
    have hx := h.2.2 x (by rw [← e]; simp)
    refine cm_step (fun k => by rw [laws_toPartitionS.l0]) ?_
    simp only [rdT108_at e, wrap_len hlt (show l.length ≤ 4611686018427387904 by omega), Int.toNat_natCast]
    refine cm_yes (by omega) (cm_yes (by omega) (cm_bind (toPartition_f x hx) (cm_yes (by omega) ?_)))
    exact hu
  · intro acc ha
    refine cm_step (fun k => by rw [laws_toPartitionS.l0]) ?_
    exact cm_no (by omega) (cm_now fun _ => rfl)
theorem eqPartition_same (x : S85) (h : smPartition x) : Cm (fun k => laws_eqPartition.f k x.f0 x.f1 x.f2 x.f3 x.f4 x.f0 x.f1 x.f2 x.f3 x.f4) true := by
  obtain ⟨h0, h1, h2, h3, h4⟩ := h
  unfold laws_eqPartition.f
  exact cm_bind (eqIntS_same _ h0) (cm_yes rfl (cm_bind (eqIntS_same _ h1) (cm_yes rfl (cm_yes rfl (cm_yes rfl (cm_yes rfl (cm_now fun _ => rfl)))))))
theorem eqPartitionS_same (l : List S85) (h : l.length ≤ 4611686018427387904 ∧ ∀ y ∈ l, smPartition y) : Cm (fun k => laws_eqPartitionS.f k l l) true := by
  unfold laws_eqPartitionS.f
  refine cm_yes rfl ?_
  refine same_cm (L := fun k i => laws_eqPartitionS.l0 k l l i) l ?_ ?_
  · intro pre x t e hlt v hv
    have hx := h.2 x (by rw [← e]; simp)
    refine cm_step (fun k => by rw [laws_eqPartitionS.l0]) ?_
    simp only [rdT85_at e, wrap_len hlt h.1]
    exact cm_yes (by omega) (cm_yes (by omega) (cm_yes (by omega) (cm_bind (eqPartition_same x hx) (cm_yes rfl hv))))
  · refine cm_step (fun k => by rw [laws_eqPartitionS.l0]) ?_
    exact cm_no (by omega) (cm_now fun _ => rfl)
theorem szPartition_ex (x : S108) (h : ok108 x) (m : Int) : ∃ v, Cm (fun k => laws_szPartition.f x.f0 x.f1 x.f2 x.f3 x.f4 m) v := by
  obtain ⟨h0, h1, h2, h3, h4⟩ := h
  unfold laws_szPartition.f
  obtain ⟨v0, w0⟩ := szIntS_f x.f0 m
  by_cases c0 : v0 < 0
  · exact ⟨-1, cm_bind w0 (cm_yes c0 (cm_now fun _ => rfl))⟩
  obtain ⟨v1, w1⟩ := szIntS_f x.f1 v0
  by_cases c1 : v1 < 0
  · exact ⟨-1, cm_bind w0 (cm_no c0 (cm_bind w1 (cm_yes c1 (cm_now fun _ => rfl))))⟩
  exact ⟨v1, cm_bind w0 (cm_no c0 (cm_bind w1 (cm_no c1 (cm_now fun _ => rfl))))⟩
theorem szPartitionS_ex (l : List S108) (h : l.length ≤ maxLen ∧ l.length * 72 ≤ 140737488351232 ∧ ∀ x_ ∈ l, ok108 x_) (m : Int) : ∃ v, Cm (fun k => laws_szPartitionS.f k l m) v := by
  have hl := h.2.1
  unfold laws_szPartitionS.f
  by_cases c : wrap64 (m - (l.length : Int)) < 0
  · exact ⟨_, cm_yes c (cm_now fun _ => rfl)⟩
  · obtain ⟨v, hv⟩ : ∃ v, Cm (fun k => laws_szPartitionS.l0 k l (wrap64 (m - (l.length : Int))) 0) v := by
      refine ex_cm (L := fun k i s => laws_szPartitionS.l0 k l s i) l ?_ ?_ _
      · intro pre x t s e hlt
        obtain ⟨v, hv⟩ := szPartition_ex x (h.2.2 x (by rw [← e]; simp)) s
        by_cases c2 : v < 0
        · refine .inl ⟨-1, ?_⟩
          refine cm_step (fun k => by rw [laws_szPartitionS.l0]) ?_
          simp only [rdT108_at e, wrap_len hlt (show l.length ≤ 4611686018427387904 by omega)]
          exact cm_yes (by omega) (cm_yes (by omega) (cm_bind hv (cm_yes c2 (cm_now fun _ => rfl))))
        · refine .inr ⟨v, fun u hu => ?_⟩
          refine cm_step (fun k => by rw [laws_szPartitionS.l0]) ?_
          simp only [rdT108_at e, wrap_len hlt (show l.length ≤ 4611686018427387904 by omega)]
          exact cm_yes (by omega) (cm_yes (by omega) (cm_bind hv (cm_no c2 hu)))
      · intro s
        refine ⟨s, ?_⟩
        refine cm_step (fun k => by rw [laws_szPartitionS.l0]) ?_
        exact cm_no (by omega) (cm_now fun _ => rfl)
    exact ⟨v, cm_no c hv⟩
def cControl (x : S44) : S25 := ⟨x.f0.map cBroker, x.f1.map cPartition, x.f2⟩
def smControl (x : S25) : Prop := (x.f0.length ≤ 4611686018427387904 ∧ ∀ y ∈ x.f0, smBroker y) ∧ (x.f1.length ≤ 4611686018427387904 ∧ ∀ y ∈ x.f1, smPartition y) ∧ (True)
theorem sm_cControl (x : S44) (h : ok44 x) : smControl (cControl x) := by
  obtain ⟨h0, h1, h2⟩ := h
  exact ⟨⟨by have := h0.2.1; simp only [cControl, List.length_map]; omega, fun y hy => by obtain ⟨z, hz, rfl⟩ := List.mem_map.1 hy; exact sm_cBroker z (h0.2.2 z hz)⟩, ⟨by have := h1.2.1; simp only [cControl, List.length_map]; omega, fun y hy => by obtain ⟨z, hz, rfl⟩ := List.mem_map.1 hy; exact sm_cPartition z (h1.2.2 z hz)⟩, trivial⟩
theorem toControl_f (x : S44) (h : ok44 x) : Cm (fun k => laws_toControl.f k x.f0 x.f1 x.f2) ((cControl x).f0, (cControl x).f1, (cControl x).f2) := by
  obtain ⟨h0, h1, h2⟩ := h
  unfold laws_toControl.f
  exact cm_bind (toBrokerS_f _ h0) (cm_bind (toPartitionS_f _ h1) (cm_now fun _ => rfl))
theorem eqControl_same (x : S25) (h : smControl x) : Cm (fun k => laws_eqControl.f k x.f0 x.f1 x.f2 x.f0 x.f1 x.f2) true := by
  obtain ⟨h0, h1, h2⟩ := h
  unfold laws_eqControl.f
  exact cm_bind (eqBrokerS_same _ h0) (cm_yes rfl (cm_bind (eqPartitionS_same _ h1) (cm_yes rfl (cm_yes rfl (cm_now fun _ => rfl)))))
theorem szControl_ex (x : S44) (h : ok44 x) (m : Int) : ∃ v, Cm (fun k => laws_szControl.f k x.f0 x.f1 x.f2 m) v := by
  obtain ⟨h0, h1, h2⟩ := h
  unfold laws_szControl.f
  obtain ⟨v0, w0⟩ := szBrokerS_ex x.f0 h0 m
  by_cases c0 : v0 < 0
  · exact ⟨-1, cm_bind w0 (cm_yes c0 (cm_now fun _ => rfl))⟩
  obtain ⟨v1, w1⟩ := szPartitionS_ex x.f1 h1 v0
  by_cases c1 : v1 < 0
  · exact ⟨-1, cm_bind w0 (cm_no c0 (cm_bind w1 (cm_yes c1 (cm_now fun _ => rfl))))⟩
  exact ⟨v1, cm_bind w0 (cm_no c0 (cm_bind w1 (cm_no c1 (cm_now fun _ => rfl))))⟩
end Go.Proofs.Ytmkiffemanmgcaa.Hg
end
section
namespace Go.Proofs.Ytmkiffemanmgcaa.Sets
open Go.RowKit Go.Proofs.YtmkiffemanmgcaaW.PrintWords Go.Proofs.YtmkiffemanmgcaaW.PrintLast Go.Proofs.YtmkiffemanmgcaaW.PrintMore
open Go.Proofs.Ytmkiffemanmgcaa.Pl Go.Proofs.Ytmkiffemanmgcaa.EvN Go.Proofs.Ytmkiffemanmgcaa.Lp
set_option linter.unusedSimpArgs false
set_option linter.unusedVariables false
theorem and_self (a b : Nat) : a &&& b = b ↔ ∀ i, b.testBit i = true → a.testBit i = true := by
  constructor
  · intro h i h2
    have : (a &&& b).testBit i = true := by rw [h]; exact h2
    rw [Nat.testBit_and] at this
    simp_all
  · intro h
    apply Nat.eq_of_testBit_eq
    intro i
    rw [Nat.testBit_and]
    have := h i
    cases h1 : a.testBit i <;> cases h2 : b.testBit i <;> simp_all
def hasAll (a b : List Int) : Bool := b.all (fun x => decide (x ∈ a))
def rises (many : Int) (pre : List Int) (h : Int) : Bool := decide (0 ≤ h ∧ h < many) && (match pre.getLast? with | some q => decide (q < h) | none => true)
def members (many : Int) (l : List Int) : Bool := okFrom (rises many) [] l
theorem members_in {many : Int} {l : List Int} (h : members many l = true) : ∀ x ∈ l, 0 ≤ x ∧ x < many := by
  intro x hx
  obtain ⟨a, t, e⟩ := List.append_of_mem hx
  have := (okFrom_iff (rises many) l []).1 h a x t e.symm
  simp only [rises, Bool.and_eq_true, decide_eq_true_eq] at this
  exact this.1
end Go.Proofs.Ytmkiffemanmgcaa.Sets
end
section
namespace Go.Proofs.Ytmkiffemanmgcaa.Mem
open Go.RowKit Go.Proofs.Ytmkiffemanmgcaa.P Go.Proofs.YtmkiffemanmgcaaW.PrintWords Go.Proofs.YtmkiffemanmgcaaW.PrintLast Go.Proofs.YtmkiffemanmgcaaW.PrintMore
open Go.Proofs.Ytmkiffemanmgcaa.Pl Go.Proofs.Ytmkiffemanmgcaa.EvN Go.Proofs.Ytmkiffemanmgcaa.Lp Go.Proofs.Ytmkiffemanmgcaa.Sets
set_option linter.unusedSimpArgs false
set_option linter.unusedVariables false
theorem in_f (a b c : Int) : impl_in.f a b c = some (decide (b ≤ a ∧ a ≤ c)) := by
  unfold impl_in.f
  by_cases h : a ≥ b
  · rw [if_pos h]; congr 1; rw [decide_eq_decide]; omega
  · rw [if_neg h]; congr 1; symm; rw [decide_eq_false_iff_not]; omega
theorem l1In_f (a b c : Int) : spec_l1In.f a b c = some (decide (b ≤ a ∧ a ≤ c)) := by
  unfold spec_l1In.f
  by_cases h : a ≥ b
  · rw [if_pos h]; congr 1; rw [decide_eq_decide]; omega
  · rw [if_neg h]; congr 1; symm; rw [decide_eq_false_iff_not]; omega
theorem if_self (b : Bool) : (if b = true then true else false) = b := by cases b <;> rfl
theorem rises_no {many : Int} {pre : List Int} {h : Int} (hp : rises many pre h = false) (h0 : 0 ≤ h) (h1 : h < many) : ∃ q, pre.getLast? = some q ∧ h ≤ q := by
  unfold rises at hp
  cases e : pre.getLast? with
  | none => rw [e] at hp; simp at hp; omega
  | some q =>
    rw [e] at hp
    simp at hp
    exact ⟨q, rfl, by omega⟩
theorem rises_yes {many : Int} {pre : List Int} {h : Int} (hp : rises many pre h = true) : (0 ≤ h ∧ h < many) ∧ ∀ q, pre.getLast? = some q → q < h := by
  unfold rises at hp
  simp only [Bool.and_eq_true, decide_eq_true_eq] at hp
  refine ⟨hp.1, fun q e => ?_⟩
  have h2 := hp.2
  rw [e] at h2
  simpa using h2
theorem last_cases {α : Type} (pre : List α) : pre = [] ∨ ∃ q, pre.getLast? = some q := by
  cases e : pre.getLast? with
  | none => exact .inl (no_last e)
  | some q => exact .inr ⟨q, rfl⟩
end Go.Proofs.Ytmkiffemanmgcaa.Mem
end
section
namespace Go.Proofs.Ytmkiffemanmgcaa.Mem
open Go.RowKit Go.Proofs.Ytmkiffemanmgcaa.P Go.Proofs.YtmkiffemanmgcaaW.PrintWords Go.Proofs.YtmkiffemanmgcaaW.PrintLast Go.Proofs.YtmkiffemanmgcaaW.PrintMore
open Go.Proofs.Ytmkiffemanmgcaa.Pl Go.Proofs.Ytmkiffemanmgcaa.EvN Go.Proofs.Ytmkiffemanmgcaa.Lp Go.Proofs.Ytmkiffemanmgcaa.Sets
set_option linter.unusedSimpArgs false
set_option linter.unusedVariables false
theorem has_f (l : List Int) (n : Int) (hl : l.length ≤ 4611686018427387904) : Cm (fun k => spec_l1Has.f k l n) (decide (n ∈ l)) := by
  unfold spec_l1Has.f
  have := every_cm (L := fun k i => spec_l1Has.l0 k n l (l.length : Int) i) l (fun x => decide (x ≠ n)) (fin := false) (no := true) ?_ ?_ ?_
  · refine cm_val this ?_
    by_cases c : n ∈ l
    · simp [c]
    · simp [c]
      intro x hx e
      subst e
      exact c hx
  · intro pre h t e hlt hp v hv
    simp only [decide_eq_true_eq] at hp
    refine cm_step (fun k => by rw [spec_l1Has.l0]) ?_
    simp only [rd_at e, wrap_len hlt hl]
    repeat (first | assumption | exact cm_now (fun _ => rfl) | refine cm_yes (by first | omega | assumption | (simp; done) | (simp; omega)) ?_ | refine cm_no (by first | omega | assumption | (simp; done) | (simp; omega)) ?_)
  · intro pre h t e hlt hp
    simp only [decide_eq_false_iff_not, ne_eq, Decidable.not_not] at hp
    refine cm_step (fun k => by rw [spec_l1Has.l0]) ?_
    simp only [rd_at e, wrap_len hlt hl]
    repeat (first | assumption | exact cm_now (fun _ => rfl) | refine cm_yes (by first | omega | assumption | (simp; done) | (simp; omega)) ?_ | refine cm_no (by first | omega | assumption | (simp; done) | (simp; omega)) ?_)
  · intro _
    refine cm_step (fun k => by rw [spec_l1Has.l0]) ?_
    repeat (first | assumption | exact cm_now (fun _ => rfl) | refine cm_yes (by first | omega | assumption | (simp; done) | (simp; omega)) ?_ | refine cm_no (by first | omega | assumption | (simp; done) | (simp; omega)) ?_)
theorem hasAll_f (a b : List Int) (ha : a.length ≤ 4611686018427387904) (hb : b.length ≤ 4611686018427387904) : Cm (fun k => spec_l6Has.f k a b) (hasAll a b) := by
  unfold spec_l6Has.f
  have := every_cm (L := fun k i => spec_l6Has.l0 k a b (b.length : Int) i) b (fun x => decide (x ∈ a)) (fin := true) (no := false) ?_ ?_ ?_
  · refine cm_val this ?_
    unfold hasAll
    cases b.all fun x => decide (x ∈ a) <;> rfl
  · intro pre h t e hlt hp v hv
    refine cm_step (fun k => by rw [spec_l6Has.l0]) ?_
    simp only [rd_at e, wrap_len hlt hb]
    repeat (first | assumption | exact cm_now (fun _ => rfl) | refine cm_bind (has_f _ _ ha) ?_ | refine cm_yes (by first | omega | assumption | (simp; done) | (simp; omega) | exact hp) ?_ | refine cm_no (by first | omega | assumption | (simp; done) | (simp; omega) | exact hp) ?_)
  · intro pre h t e hlt hp
    refine cm_step (fun k => by rw [spec_l6Has.l0]) ?_
    simp only [rd_at e, wrap_len hlt hb]
    repeat (first | assumption | exact cm_now (fun _ => rfl) | refine cm_bind (has_f _ _ ha) ?_ | refine cm_yes (by first | omega | assumption | (simp; done) | (simp; omega) | exact (by simpa using hp)) ?_ | refine cm_no (by first | omega | assumption | (simp; done) | (simp; omega) | exact (by simpa using hp)) ?_)
  · intro _
    refine cm_step (fun k => by rw [spec_l6Has.l0]) ?_
    repeat (first | assumption | exact cm_now (fun _ => rfl) | refine cm_yes (by first | omega | assumption | (simp; done) | (simp; omega)) ?_ | refine cm_no (by first | omega | assumption | (simp; done) | (simp; omega)) ?_)
theorem group_f (l : List Int) (many : Int) (hl : l.length ≤ 4611686018427387904) : Cm (fun k => spec_l6Group.f k l many) (members many l) := by
  unfold spec_l6Group.f
  have := all_cm (L := fun k i => spec_l6Group.l0 k l many l (l.length : Int) i) l (rises many) (fin := true) (no := false) ?_ ?_ ?_
  · exact cm_val this (if_self _)
  · intro pre h t e hlt hp v hv
    obtain ⟨⟨h0, h1⟩, h2⟩ := rises_yes hp
    refine cm_step (fun k => by rw [spec_l6Group.l0]) ?_
    simp only [rd_at e, wrap_len hlt hl]
    refine cm_yes (by omega) (cm_yes (by omega) (cm_yes (by omega) (cm_no (by omega) (cm_no (by omega) ?_))))
    rcases last_cases pre with rfl | ⟨q, hq⟩
    · exact cm_no (by simp) hv
    · obtain ⟨h3, h4⟩ := rd_last e hq
      have h5 := h2 q hq
      rw [wrap_less h3 (by omega), h4]
      repeat (first | assumption | exact cm_now (fun _ => rfl) | refine cm_yes (by first | omega | assumption | (simp; done) | (simp; omega)) ?_ | refine cm_no (by first | omega | assumption | (simp; done) | (simp; omega)) ?_)
  · intro pre h t e hlt hp
    refine cm_step (fun k => by rw [spec_l6Group.l0]) ?_
    simp only [rd_at e, wrap_len hlt hl]
    refine cm_yes (by omega) (cm_yes (by omega) (cm_yes (by omega) ?_))
    refine cm_if (fun _ => cm_now fun _ => rfl) (fun c0 => cm_if (fun _ => cm_now fun _ => rfl) (fun c1 => ?_))
    obtain ⟨q, hq, h5⟩ := rises_no hp (by omega) (by omega)
    obtain ⟨h3, h4⟩ := rd_last e hq
    rw [wrap_less h3 (by omega), h4]
    repeat (first | assumption | exact cm_now (fun _ => rfl) | refine cm_yes (by first | omega | assumption | (simp; done) | (simp; omega)) ?_ | refine cm_no (by first | omega | assumption | (simp; done) | (simp; omega)) ?_)
  · intro _
    refine cm_step (fun k => by rw [spec_l6Group.l0]) ?_
    repeat (first | assumption | exact cm_now (fun _ => rfl) | refine cm_yes (by first | omega | assumption | (simp; done) | (simp; omega)) ?_ | refine cm_no (by first | omega | assumption | (simp; done) | (simp; omega)) ?_)
theorem areMembers_f (l : List Int) (many : Int) (hl : l.length ≤ 4611686018427387904) (hm : 0 ≤ many ∧ many ≤ 4611686018427387904) : Cm (fun k => impl_areMembers.f k l many) (members many l) := by
  have hw : wrap64 (many - 1) = many - 1 := wrap_in (by omega) (by omega)
  unfold impl_areMembers.f
  have := all_cm (L := fun k i => impl_areMembers.l0 k l many l (l.length : Int) i) l (rises many) (fin := true) (no := false) ?_ ?_ ?_
  · exact cm_val this (if_self _)
  · intro pre h t e hlt hp v hv
    obtain ⟨⟨h0, h1⟩, h2⟩ := rises_yes hp
    refine cm_step (fun k => by rw [impl_areMembers.l0]) ?_
    simp only [rd_at e, wrap_len hlt hl, hw]
    refine cm_yes (by omega) (cm_yes (by omega) (cm_yes (by omega) (cm_bind (cm_now fun _ => in_f _ _ _) (cm_yes (by simp; omega) ?_))))
    rcases last_cases pre with rfl | ⟨q, hq⟩
    · exact cm_no (by simp) hv
    · obtain ⟨h3, h4⟩ := rd_last e hq
      have h5 := h2 q hq
      rw [wrap_less h3 (by omega), h4]
      repeat (first | assumption | exact cm_now (fun _ => rfl) | refine cm_yes (by first | omega | assumption | (simp; done) | (simp; omega)) ?_ | refine cm_no (by first | omega | assumption | (simp; done) | (simp; omega)) ?_)
  · intro pre h t e hlt hp
    refine cm_step (fun k => by rw [impl_areMembers.l0]) ?_
    simp only [rd_at e, wrap_len hlt hl, hw]
    refine cm_yes (by omega) (cm_yes (by omega) (cm_yes (by omega) (cm_bind (cm_now fun _ => in_f _ _ _) ?_)))
    refine cm_if (fun c0 => ?_) (fun _ => cm_now fun _ => rfl)
    simp only [decide_eq_true_eq] at c0
    obtain ⟨q, hq, h5⟩ := rises_no hp (by omega) (by omega)
    obtain ⟨h3, h4⟩ := rd_last e hq
    rw [wrap_less h3 (by omega), h4]
    repeat (first | assumption | exact cm_now (fun _ => rfl) | refine cm_yes (by first | omega | assumption | (simp; done) | (simp; omega)) ?_ | refine cm_no (by first | omega | assumption | (simp; done) | (simp; omega)) ?_)
  · intro _
    refine cm_step (fun k => by rw [impl_areMembers.l0]) ?_
    repeat (first | assumption | exact cm_now (fun _ => rfl) | refine cm_yes (by first | omega | assumption | (simp; done) | (simp; omega)) ?_ | refine cm_no (by first | omega | assumption | (simp; done) | (simp; omega)) ?_)
theorem contains_f (l : List Int) (n : Int) (hl : l.length ≤ 4611686018427387904) : Cm (fun k => slices_Contains_int_int.f k l n) (decide (n ∈ l)) := by
  unfold slices_Contains_int_int.f slices_Index_int_int.f
  refine cm_bind (t := foundAt (fun x => decide (n = x)) (fun i _ => (i : Int)) (-1) 0 l) ?_ (cm_now fun _ => ?_)
  · refine find_cm (L := fun k i => slices_Index_int_int.l0 k l n (l.length : Int) i) l (fun x => decide (n = x)) (fun i _ => (i : Int)) (none_ := (-1 : Int)) ?_ ?_ ?_
    · intro pre h t e hlt hp v hv
      simp only [decide_eq_false_iff_not] at hp
      refine cm_step (fun k => by rw [slices_Index_int_int.l0]) ?_
      simp only [rd_at e, wrap_len hlt hl]
      repeat (first | assumption | exact cm_now (fun _ => rfl) | refine cm_yes (by first | omega | assumption | (simp; done) | (simp; omega)) ?_ | refine cm_no (by first | omega | assumption | (simp; done) | (simp; omega)) ?_)
    · intro pre h t e hlt hp
      simp only [decide_eq_true_eq] at hp
      refine cm_step (fun k => by rw [slices_Index_int_int.l0]) ?_
      simp only [rd_at e, wrap_len hlt hl]
      repeat (first | assumption | exact cm_now (fun _ => rfl) | refine cm_yes (by first | omega | assumption | (simp; done) | (simp; omega)) ?_ | refine cm_no (by first | omega | assumption | (simp; done) | (simp; omega)) ?_)
    · refine cm_step (fun k => by rw [slices_Index_int_int.l0]) ?_
      repeat (first | assumption | exact cm_now (fun _ => rfl) | refine cm_yes (by first | omega | assumption | (simp; done) | (simp; omega)) ?_ | refine cm_no (by first | omega | assumption | (simp; done) | (simp; omega)) ?_)
  · rw [found_any]
    congr 1
    rw [Bool.eq_iff_iff]
    simp
end Go.Proofs.Ytmkiffemanmgcaa.Mem
end
section
namespace Go.Proofs.Ytmkiffemanmgcaa.Control
open Go.RowKit Go.Proofs.Ytmkiffemanmgcaa.P Go.Proofs.YtmkiffemanmgcaaW.PrintWords Go.Proofs.YtmkiffemanmgcaaW.PrintLast Go.Proofs.YtmkiffemanmgcaaW.PrintMore
open Go.Proofs.Ytmkiffemanmgcaa.Pl Go.Proofs.Ytmkiffemanmgcaa.EvN Go.Proofs.Ytmkiffemanmgcaa.Lp Go.Proofs.Ytmkiffemanmgcaa.Sets Go.Proofs.Ytmkiffemanmgcaa.Mem Go.Proofs.Ytmkiffemanmgcaa.Hg
set_option linter.unusedSimpArgs false
set_option linter.unusedVariables false
def goodBroker (next : Int) (b : S67) : Bool := decide ((0 ≤ b.f0 ∧ b.f0 < next) ∧ (0 ≤ b.f1 ∧ b.f1 ≤ 9) ∧ b.f2 = (b.f1 == 0) ∧ ¬ (b.f0 = 0 ∧ b.f1 > 0))
def live (bs : List S67) (l : List Int) : Int := foundAt (fun x => !(rd_T67 bs x).f2) (fun _ h => h) (-1) 0 l
def leadOk (bs : List S67) (l : List Int) (lead : Int) : Bool := if lead = -1 then decide (live bs l = -1) else decide (lead ∈ l) && !(rd_T67 bs lead).f2
def goodPart (bs : List S67) (p : S85) : Bool := (decide (p.f0.length ≠ 0) && members (bs.length : Int) p.f0) && (decide (p.f1.length ≠ 0) && members (bs.length : Int) p.f1) && hasAll p.f0 p.f1 && leadOk bs p.f1 p.f2 && decide ((0 ≤ p.f3 ∧ p.f3 ≤ 1000) ∧ (0 ≤ p.f4 ∧ p.f4 ≤ 1000))
def sizesOk (x : S25) : Bool := decide ((1 ≤ x.f0.length ∧ x.f0.length ≤ 6) ∧ x.f1.length ≤ 5 ∧ (1 ≤ x.f2 ∧ x.f2 ≤ 1000))
def good (x : S25) : Bool := sizesOk x && x.f0.all (goodBroker x.f2) && x.f1.all (goodPart x.f0)
theorem live_pos (bs : List S67) : ∀ (l : List Int) (i : Nat), (∀ x ∈ l, 0 ≤ x) → foundAt (fun x => !(rd_T67 bs x).f2) (fun _ h => h) (-1) i l = -1 ∨ 0 ≤ foundAt (fun x => !(rd_T67 bs x).f2) (fun _ h => h) (-1) i l
  | [], _, _ => .inl rfl
  | h :: t, i, hp => by
    unfold foundAt
    by_cases c : (!(rd_T67 bs h).f2) = true
    · rw [if_pos c]; exact .inr (hp h (by simp))
    · rw [if_neg c]; exact live_pos bs t (i + 1) (fun x hx => hp x (by simp [hx]))
theorem first_f (bs : List S67) (ps : List S85) (next : Int) (l : List Int) (hl : l.length ≤ 4611686018427387904) (hm : ∀ x ∈ l, 0 ≤ x ∧ x < (bs.length : Int)) : Cm (fun k => spec_l12First.f k bs ps next l) (live bs l) := by
  unfold spec_l12First.f live
  refine find_cm (L := fun k i => spec_l12First.l0 k l (l.length : Int) i bs ps next) l (fun x => !(rd_T67 bs x).f2) (fun _ h => h) (none_ := (-1 : Int)) ?_ ?_ ?_
  · intro pre h t e hlt hp v hv
    have hh := hm h (by rw [← e]; simp)
    have hp2 : (rd_T67 bs h).f2 = true := by simpa using hp
    refine cm_step (fun k => by rw [spec_l12First.l0]) ?_
    simp only [rd_at e, wrap_len hlt hl]
    exact cm_yes (by omega) (cm_yes (by omega) (cm_yes (by omega) (cm_yes (by omega) (cm_yes (by omega) (cm_yes hp2 hv)))))
  · intro pre h t e hlt hp
    have hh := hm h (by rw [← e]; simp)
    have hp2 : ¬ (rd_T67 bs h).f2 = true := by simpa using hp
    refine cm_step (fun k => by rw [spec_l12First.l0]) ?_
    simp only [rd_at e, wrap_len hlt hl]
    exact cm_yes (by omega) (cm_yes (by omega) (cm_yes (by omega) (cm_yes (by omega) (cm_yes (by omega) (cm_no hp2 (cm_now fun _ => rfl))))))
  · refine cm_step (fun k => by rw [spec_l12First.l0]) ?_
    exact cm_no (by omega) (cm_now fun _ => rfl)
theorem firstLive_f (bs : List S67) (ps : List S85) (next : Int) (l : List Int) (hl : l.length ≤ 4611686018427387904) (hm : ∀ x ∈ l, 0 ≤ x ∧ x < (bs.length : Int)) : Cm (fun k => impl_Control_firstLive.f k bs ps next l) (live bs l) := by
  unfold impl_Control_firstLive.f live
  refine find_cm (L := fun k i => impl_Control_firstLive.l0 k l (l.length : Int) i bs ps next) l (fun x => !(rd_T67 bs x).f2) (fun _ h => h) (none_ := (-1 : Int)) ?_ ?_ ?_
  · intro pre h t e hlt hp v hv
    have hh := hm h (by rw [← e]; simp)
    have hp2 : (rd_T67 bs h).f2 = true := by simpa using hp
    refine cm_step (fun k => by rw [impl_Control_firstLive.l0]) ?_
    simp only [rd_at e, wrap_len hlt hl]
    exact cm_yes (by omega) (cm_yes (by omega) (cm_yes (by omega) (cm_yes (by omega) (cm_yes (by omega) (cm_yes hp2 hv)))))
  · intro pre h t e hlt hp
    have hh := hm h (by rw [← e]; simp)
    have hp2 : ¬ (rd_T67 bs h).f2 = true := by simpa using hp
    refine cm_step (fun k => by rw [impl_Control_firstLive.l0]) ?_
    simp only [rd_at e, wrap_len hlt hl]
    exact cm_yes (by omega) (cm_yes (by omega) (cm_yes (by omega) (cm_yes (by omega) (cm_yes (by omega) (cm_no hp2 (cm_now fun _ => rfl))))))
  · refine cm_step (fun k => by rw [impl_Control_firstLive.l0]) ?_
    exact cm_no (by omega) (cm_now fun _ => rfl)
theorem anyA_index (b : List Int) (l : List Int) (hl : l.length ≤ 4611686018427387904) (p : Int → Bool) (hc : ∀ h ∈ l, Cm (fun k => impl_allOf_1.f k h b) (p h)) :
    Cm (fun k => slices_IndexFunc_int_int_of_impl_allOf_1.f k l b) (foundAt p (fun i _ => (i : Int)) (-1) 0 l) := by
  unfold slices_IndexFunc_int_int_of_impl_allOf_1.f
  refine find_cm (L := fun k i => slices_IndexFunc_int_int_of_impl_allOf_1.l0 k l (l.length : Int) i b) l p (fun i _ => (i : Int)) (none_ := (-1 : Int)) ?_ ?_ ?_
  · intro pre h t e hlt hp v hv
    refine cm_step (fun k => by rw [slices_IndexFunc_int_int_of_impl_allOf_1.l0]) ?_
    simp only [rd_at e, wrap_len hlt hl]
    refine cm_yes (by omega) (cm_yes (by omega) (cm_yes (by omega) (cm_bind (hc h (by rw [← e]; simp)) ?_)))
    exact cm_no (by simpa using hp) hv
  · intro pre h t e hlt hp
    refine cm_step (fun k => by rw [slices_IndexFunc_int_int_of_impl_allOf_1.l0]) ?_
    simp only [rd_at e, wrap_len hlt hl]
    refine cm_yes (by omega) (cm_yes (by omega) (cm_yes (by omega) (cm_bind (hc h (by rw [← e]; simp)) ?_)))
    exact cm_yes hp (cm_now fun _ => rfl)
  · refine cm_step (fun k => by rw [slices_IndexFunc_int_int_of_impl_allOf_1.l0]) ?_
    exact cm_no (by omega) (cm_now fun _ => rfl)
theorem anyA (b : List Int) (l : List Int) (hl : l.length ≤ 4611686018427387904) (p : Int → Bool) (hc : ∀ h ∈ l, Cm (fun k => impl_allOf_1.f k h b) (p h)) : Cm (fun k => slices_ContainsFunc_int_int_of_impl_allOf_1.f k l b) (l.any p) := by
  unfold slices_ContainsFunc_int_int_of_impl_allOf_1.f
  refine cm_bind (anyA_index b l hl p hc) (cm_now fun _ => ?_)
  rw [found_any]
theorem allOf_f (a b : List Int) (ha : a.length ≤ 4611686018427387904) (hb : b.length ≤ 4611686018427387904) : Cm (fun k => impl_allOf.f k a b) (hasAll b a) := by
  unfold impl_allOf.f
  refine cm_bind (anyA b a ha (fun x => !decide (x ∈ b)) (fun x _ => ?_)) (cm_now fun _ => ?_)
  · unfold impl_allOf_1.f
    exact cm_bind (contains_f b x hb) (cm_now fun _ => rfl)
  · rw [not_any _ (fun x => decide (x ∈ b)) a (fun _ _ => rfl)]
    rfl
theorem part_j1 (a b : List Int) (lead ep st : Int) (q : Bool) : Cm (fun k => spec_l12Part.j1 k q a b lead ep st) (!q && decide ((0 ≤ ep ∧ ep ≤ 1000) ∧ (0 ≤ st ∧ st ≤ 1000))) := by
  refine cm_step (fun k => by rw [spec_l12Part.j1]) ?_
  cases q
  · refine cm_no (by simp) (cm_bind (cm_now fun _ => l1In_f _ _ _) ?_)
    refine cm_if (fun c => cm_bind (cm_now fun _ => l1In_f _ _ _) (cm_now fun _ => ?_)) (fun c => cm_now fun _ => ?_)
    · simp only [decide_eq_true_eq] at c
      simp [c]
    · simp only [decide_eq_true_eq] at c
      simp [c]
  · exact cm_yes rfl (cm_now fun _ => rfl)
theorem part_j0 (bs : List S67) (ps : List S85) (next : Int) (a b : List Int) (lead ep st : Int) (hl : b.length ≤ 4611686018427387904) (hm : ∀ x ∈ b, 0 ≤ x ∧ x < (bs.length : Int)) :
    Cm (fun k => spec_l12Part.j0 k false bs ps next a b lead ep st) (leadOk bs b lead && decide ((0 ≤ ep ∧ ep ≤ 1000) ∧ (0 ≤ st ∧ st ≤ 1000))) := by
  refine cm_step (fun k => by rw [spec_l12Part.j0]) ?_
  unfold leadOk
  refine cm_no (by simp) (cm_if (fun c => ?_) (fun c => ?_))
  · refine cm_bind (first_f bs ps next b hl hm) ?_
    rw [if_pos c]
    have := live_pos bs b 0 (fun x hx => (hm x hx).1)
    change live bs b = -1 ∨ 0 ≤ live bs b at this
    refine cm_if (fun c2 => cm_val (part_j1 _ _ _ _ _ _) ?_) (fun c2 => cm_val (part_j1 _ _ _ _ _ _) ?_)
    · have : ¬ live bs b = -1 := by omega
      simp [this]
    · have : live bs b = -1 := by omega
      simp [this]
  · rw [if_neg c]
    refine cm_bind (has_f b lead hl) ?_
    refine cm_if (fun c2 => ?_) (fun c2 => cm_val (part_j1 _ _ _ _ _ _) ?_)
    · simp only [decide_eq_true_eq] at c2
      have := hm lead c2
      exact cm_yes (by omega) (cm_yes (by omega) (cm_val (part_j1 _ _ _ _ _ _) (by simp [c2])))
    · simp only [decide_eq_true_eq] at c2
      simp [c2]
theorem part_no (bs : List S67) (ps : List S85) (next : Int) (a b : List Int) (lead ep st : Int) : Cm (fun k => spec_l12Part.j0 k true bs ps next a b lead ep st) false := by
  refine cm_step (fun k => by rw [spec_l12Part.j0]) ?_
  exact cm_yes rfl (cm_now fun _ => rfl)
theorem part_f (bs : List S67) (ps : List S85) (next : Int) (p : S85) (h0 : p.f0.length ≤ 4611686018427387904) (h1 : p.f1.length ≤ 4611686018427387904) : Cm (fun k => spec_l12Part.f k bs ps next p.f0 p.f1 p.f2 p.f3 p.f4) (goodPart bs p) := by
  unfold spec_l12Part.f goodPart
  refine cm_if (fun c => cm_val (part_no _ _ _ _ _ _ _ _) ?_) (fun c => cm_bind (group_f p.f0 _ h0) ?_)
  · have : p.f0.length = 0 := by omega
    simp [this]
  have c' : p.f0.length ≠ 0 := by omega
  refine cm_if (fun d => ?_) (fun d => cm_val (part_no _ _ _ _ _ _ _ _) (by simp [d]))
  refine cm_if (fun c2 => cm_val (part_no _ _ _ _ _ _ _ _) ?_) (fun c2 => cm_bind (group_f p.f1 _ h1) ?_)
  · have : p.f1.length = 0 := by omega
    simp [this]
  have c2' : p.f1.length ≠ 0 := by omega
  refine cm_if (fun d2 => cm_bind (hasAll_f p.f0 p.f1 h0 h1) ?_) (fun d2 => cm_val (part_no _ _ _ _ _ _ _ _) (by simp [d2]))
  cases e : hasAll p.f0 p.f1
  · exact cm_val (part_no _ _ _ _ _ _ _ _) (by simp)
  · exact cm_val (part_j0 bs ps next p.f0 p.f1 p.f2 p.f3 p.f4 h1 (members_in d2)) (by simp only [ne_eq, c', c2', d, d2, not_false_eq_true, decide_true, Bool.true_and])
theorem spec_parts (bs : List S67) (ps : List S85) (next : Int) (hl : ps.length ≤ 4611686018427387904) (hs : ∀ y ∈ ps, smPartition y) : Cm (fun k => spec_GoodControl.l1 k ps (ps.length : Int) 0 bs ps next) (ps.all (goodPart bs)) := by
  refine cm_val (every_cm (L := fun k i => spec_GoodControl.l1 k ps (ps.length : Int) i bs ps next) ps (goodPart bs) (fin := true) (no := false) ?_ ?_ ?_) (if_self _)
  · intro pre h t e hlt hp v hv
    have hh := hs h (by rw [← e]; simp)
    refine cm_step (fun k => by rw [spec_GoodControl.l1]) ?_
    simp only [rdT85_at e, wrap_len hlt hl]
    exact cm_yes (by omega) (cm_yes (by omega) (cm_yes (by omega) (cm_bind (part_f bs ps next h hh.1 hh.2.1) (cm_yes hp hv))))
  · intro pre h t e hlt hp
    have hh := hs h (by rw [← e]; simp)
    refine cm_step (fun k => by rw [spec_GoodControl.l1]) ?_
    simp only [rdT85_at e, wrap_len hlt hl]
    exact cm_yes (by omega) (cm_yes (by omega) (cm_yes (by omega) (cm_bind (part_f bs ps next h hh.1 hh.2.1) (cm_no (by simp [hp]) (cm_now fun _ => rfl)))))
  · intro _
    refine cm_step (fun k => by rw [spec_GoodControl.l1]) ?_
    exact cm_no (by omega) (cm_now fun _ => rfl)
theorem spec_f (x : S25) (h : smControl x) : Cm (fun k => spec_GoodControl.f k x.f0 x.f1 x.f2) (good x) := by
  obtain ⟨⟨h0, _⟩, ⟨h1, h2⟩, _⟩ := h
  unfold spec_GoodControl.f
  have hj : ∀ q : Bool, Cm (fun k => spec_GoodControl.j1 k q x.f0 x.f1 x.f2) (!q && x.f1.all (goodPart x.f0)) := by
    intro q
    refine cm_step (fun k => by rw [spec_GoodControl.j1]) ?_
    cases q
    · exact cm_no (by simp) (cm_val (spec_parts x.f0 x.f1 x.f2 h1 h2) (by simp))
    · exact cm_yes rfl (cm_now fun _ => rfl)
  refine cm_val (every_cm (L := fun k i => spec_GoodControl.l0 k x.f0 (x.f0.length : Int) i x.f0 x.f1 x.f2) x.f0 (goodBroker x.f2) (fin := sizesOk x && x.f1.all (goodPart x.f0)) (no := false) ?_ ?_ ?_) ?_
  · intro pre h t e hlt hp v hv
    simp only [goodBroker, decide_eq_true_eq] at hp
    obtain ⟨p1, p2, p3, p4⟩ := hp
    refine cm_step (fun k => by rw [spec_GoodControl.l0]) ?_
    simp only [rdT67_at e, wrap_len hlt h0]
    refine cm_yes (by omega) (cm_yes (by omega) (cm_yes (by omega) (cm_no (by omega) (cm_no (by omega) (cm_bind (cm_now fun _ => l1In_f _ _ _) (cm_yes (by simp [p2]) (cm_no (by simp [p3]) ?_)))))))
    exact cm_if (fun c => cm_no (by omega) hv) (fun c => hv)
  · intro pre h t e hlt hp
    simp only [goodBroker, decide_eq_false_iff_not] at hp
    refine cm_step (fun k => by rw [spec_GoodControl.l0]) ?_
    simp only [rdT67_at e, wrap_len hlt h0]
    refine cm_yes (by omega) (cm_yes (by omega) (cm_yes (by omega) (cm_if (fun _ => cm_now fun _ => rfl) (fun c0 => cm_if (fun _ => cm_now fun _ => rfl) (fun c1 => cm_bind (cm_now fun _ => l1In_f _ _ _) (cm_if (fun c2 => cm_if (fun _ => cm_now fun _ => rfl) (fun c3 => ?_)) (fun _ => cm_now fun _ => rfl)))))))
    simp only [decide_eq_true_eq] at c2
    have c3' : h.f2 = (h.f1 == 0) := by simpa using c3
    by_cases c4 : h.f0 = 0
    · by_cases c5 : h.f1 > 0
      · exact cm_yes c4 (cm_yes c5 (cm_now fun _ => rfl))
      · exact absurd ⟨⟨by omega, by omega⟩, c2, c3', fun c => c5 c.2⟩ hp
    · exact absurd ⟨⟨by omega, by omega⟩, c2, c3', fun c => c4 c.1⟩ hp
  · intro _
    refine cm_step (fun k => by rw [spec_GoodControl.l0]) ?_
    refine cm_no (by omega) (cm_bind (cm_now fun _ => l1In_f _ _ _) ?_)
    unfold sizesOk
    refine cm_if (fun c => ?_) (fun c => cm_val (hj true) ?_)
    · simp only [decide_eq_true_eq] at c
      refine cm_if (fun c2 => cm_val (hj true) ?_) (fun c2 => cm_bind (cm_now fun _ => l1In_f _ _ _) (cm_val (hj _) ?_))
      · have : ¬ x.f1.length ≤ 5 := by omega
        simp [this]
      · have e1 : x.f1.length ≤ 5 := by omega
        have e2 : 1 ≤ x.f0.length ∧ x.f0.length ≤ 6 := by omega
        simp [e1, e2]
    · have : ¬ (1 ≤ x.f0.length ∧ x.f0.length ≤ 6) := by
        simp only [decide_eq_true_eq] at c
        omega
      simp [this]
  · unfold good
    cases x.f0.all (goodBroker x.f2) <;> simp
theorem impl_j3_no (x3 : Int) (ps : List S85) (n i : Int) (bs : List S67) (ps2 : List S85) (next : Int) (a b : List Int) (lead ep st : Int) : Cm (fun k => impl_isControl.j3 k x3 ps n i true bs ps2 next a b lead ep st) false := by
  refine cm_step (fun k => by rw [impl_isControl.j3]) ?_
  exact cm_yes rfl (cm_now fun _ => rfl)
theorem impl_j3 (x3 : Int) (ps : List S85) (i : Int) (bs : List S67) (ps2 : List S85) (next : Int) (a b : List Int) (lead ep st : Int) (v : Bool) (hl : b.length ≤ 4611686018427387904) (hm : ∀ x ∈ b, 0 ≤ x ∧ x < (bs.length : Int))
    (hv : leadOk bs b lead = true → Cm (fun k => impl_isControl.l1 k x3 ps (ps.length : Int) (wrap64 (i + 1)) bs ps2 next) v) (hn : leadOk bs b lead = false → v = false) : Cm (fun k => impl_isControl.j3 k x3 ps (ps.length : Int) i false bs ps2 next a b lead ep st) v := by
  refine cm_step (fun k => by rw [impl_isControl.j3]) ?_
  unfold leadOk at hv hn
  refine cm_no (by simp) (cm_bind (firstLive_f bs ps2 next b hl hm) (cm_if (fun c => ?_) (fun c => ?_)))
  · rw [if_pos c] at hv hn
    refine cm_if (fun c2 => hv (by simp [c2])) (fun c2 => cm_now fun _ => ?_)
    rw [hn (by simp [c2])]
  · rw [if_neg c] at hv hn
    refine cm_bind (contains_f b lead hl) (cm_if (fun c2 => ?_) (fun c2 => cm_now fun _ => ?_))
    · simp only [decide_eq_true_eq] at c2
      have := hm lead c2
      refine cm_yes (by omega) (cm_yes (by omega) (cm_if (fun c3 => cm_now fun _ => ?_) (fun c3 => hv (by simp [c2, c3]))))
      rw [hn (by simp [c3])]
    · simp only [decide_eq_true_eq] at c2
      rw [hn (by simp [c2])]
theorem impl_parts (bs : List S67) (ps : List S85) (next : Int) (hb : bs.length ≤ 4611686018427387904) (hl : ps.length ≤ 4611686018427387904) (hs : ∀ y ∈ ps, smPartition y) : Cm (fun k => impl_isControl.l1 k (bs.length : Int) ps (ps.length : Int) 0 bs ps next) (ps.all (goodPart bs)) := by
  have key : ∀ (pre : List S85) (h : S85) (t : List S85), pre ++ h :: t = ps → pre.length < ps.length → ∀ v : Bool, (goodPart bs h = true → Cm (fun k => impl_isControl.l1 k (bs.length : Int) ps (ps.length : Int) ((pre.length + 1 : Nat) : Int) bs ps next) v) → (goodPart bs h = false → v = false) →
      Cm (fun k => impl_isControl.l1 k (bs.length : Int) ps (ps.length : Int) (pre.length : Int) bs ps next) v := by
    intro pre h t e hlt v hv hn
    have hh := hs h (by rw [← e]; simp)
    refine cm_step (fun k => by rw [impl_isControl.l1]) ?_
    simp only [rdT85_at e]
    refine cm_yes (by omega) (cm_yes (by omega) (cm_yes (by omega) ?_))
    unfold goodPart at hv hn
    refine cm_if (fun c => ?_) (fun c => cm_bind (areMembers_f h.f0 _ hh.1 (by omega)) ?_)
    · have : h.f0.length = 0 := by omega
      rw [hn (by simp [this])]
      exact impl_j3_no _ _ _ _ _ _ _ _ _ _ _ _
    have c' : h.f0.length ≠ 0 := by omega
    refine cm_if (fun d => ?_) (fun d => ?_)
    rotate_left
    · rw [hn (by simp [d])]
      exact impl_j3_no _ _ _ _ _ _ _ _ _ _ _ _
    refine cm_if (fun c2 => ?_) (fun c2 => cm_bind (areMembers_f h.f1 _ hh.2.1 (by omega)) ?_)
    · have : h.f1.length = 0 := by omega
      rw [hn (by simp [this])]
      exact impl_j3_no _ _ _ _ _ _ _ _ _ _ _ _
    have c2' : h.f1.length ≠ 0 := by omega
    refine cm_if (fun d2 => cm_bind (allOf_f h.f1 h.f0 hh.2.1 hh.1) ?_) (fun d2 => ?_)
    rotate_left
    · rw [hn (by simp [d2])]
      exact impl_j3_no _ _ _ _ _ _ _ _ _ _ _ _
    refine cm_if (fun d3 => cm_bind (cm_now fun _ => in_f _ _ _) ?_) (fun d3 => ?_)
    rotate_left
    · rw [hn (by simp [d3])]
      exact impl_j3_no _ _ _ _ _ _ _ _ _ _ _ _
    refine cm_if (fun d4 => cm_bind (cm_now fun _ => in_f _ _ _) ?_) (fun d4 => ?_)
    rotate_left
    · simp only [decide_eq_true_eq] at d4
      rw [hn (by simp [d4])]
      exact impl_j3_no _ _ _ _ _ _ _ _ _ _ _ _
    simp only [decide_eq_true_eq] at d4
    by_cases d5 : 0 ≤ h.f4 ∧ h.f4 ≤ 1000
    · simp only [d5, decide_true, Bool.not_true, _root_.and_self]
      have h6 := impl_j3 (bs.length : Int) ps (pre.length : Int) bs ps next h.f0 h.f1 h.f2 h.f3 h.f4 v hh.2.1 (members_in d2) (by
        intro c6
        rw [wrap_len hlt hl]
        exact hv (by simp only [ne_eq, c', c2', d, d2, d3, d4, d5, c6, not_false_eq_true, decide_true, Bool.true_and, _root_.and_self])) (by
        intro c6
        exact hn (by simp [c6]))
      exact h6
    · rw [hn (by simp [d5])]
      simp only [d5, decide_false, Bool.not_false]
      exact impl_j3_no _ _ _ _ _ _ _ _ _ _ _ _
  refine cm_val (every_cm (L := fun k i => impl_isControl.l1 k (bs.length : Int) ps (ps.length : Int) i bs ps next) ps (goodPart bs) (fin := true) (no := false) ?_ ?_ ?_) (if_self _)
  · intro pre h t e hlt hp v hv
    exact key pre h t e hlt v (fun _ => hv) (by rw [hp]; simp)
  · intro pre h t e hlt hp
    exact key pre h t e hlt false (by rw [hp]; simp) (fun _ => rfl)
  · intro _
    refine cm_step (fun k => by rw [impl_isControl.l1]) ?_
    exact cm_no (by omega) (cm_now fun _ => rfl)
theorem impl_f (x : S25) (h : smControl x) : Cm (fun k => impl_isControl.f k x.f0 x.f1 x.f2) (good x) := by
  obtain ⟨⟨h0, _⟩, ⟨h1, h2⟩, _⟩ := h
  unfold impl_isControl.f
  have hno : Cm (fun k => impl_isControl.j0 k (x.f0.length : Int) true x.f0 x.f1 x.f2) false := by
    refine cm_step (fun k => by rw [impl_isControl.j0]) ?_
    exact cm_yes rfl (cm_now fun _ => rfl)
  have hgo : sizesOk x = true → Cm (fun k => impl_isControl.j0 k (x.f0.length : Int) false x.f0 x.f1 x.f2) (good x) := by
    intro hz
    have hz2 := hz
    simp only [sizesOk, decide_eq_true_eq] at hz2
    obtain ⟨z1, z2, z3⟩ := hz2
    have hw : wrap64 (x.f2 - 1) = x.f2 - 1 := wrap_in (by omega) (by omega)
    refine cm_step (fun k => by rw [impl_isControl.j0]) ?_
    refine cm_no (by simp) ?_
    refine cm_val (every_cm (L := fun k i => impl_isControl.l0 k (x.f0.length : Int) x.f0 (x.f0.length : Int) i x.f0 x.f1 x.f2) x.f0 (goodBroker x.f2) (fin := x.f1.all (goodPart x.f0)) (no := false) ?_ ?_ ?_) ?_
    · intro pre h t e hlt hp v hv
      simp only [goodBroker, decide_eq_true_eq] at hp
      obtain ⟨p1, p2, p3, p4⟩ := hp
      refine cm_step (fun k => by rw [impl_isControl.l0]) ?_
      simp only [rdT67_at e, wrap_len hlt h0, hw]
      refine cm_yes (by omega) (cm_yes (by omega) (cm_yes (by omega) (cm_bind (cm_now fun _ => in_f _ _ _) (cm_yes (by simp; omega) (cm_bind (cm_now fun _ => in_f _ _ _) (cm_yes (by simp [p2]) ?_))))))
      exact cm_if (fun c => cm_yes (by omega) (cm_no (by simp [p3]) hv)) (fun c => cm_no (by simp [p3]) hv)
    · intro pre h t e hlt hp
      simp only [goodBroker, decide_eq_false_iff_not] at hp
      refine cm_step (fun k => by rw [impl_isControl.l0]) ?_
      simp only [rdT67_at e, wrap_len hlt h0, hw]
      refine cm_yes (by omega) (cm_yes (by omega) (cm_yes (by omega) (cm_bind (cm_now fun _ => in_f _ _ _) (cm_if (fun c1 => cm_bind (cm_now fun _ => in_f _ _ _) (cm_if (fun c2 => ?_) (fun _ => cm_now fun _ => rfl))) (fun _ => cm_now fun _ => rfl)))))
      simp only [decide_eq_true_eq] at c1 c2
      by_cases c4 : h.f0 = 0
      · refine cm_yes c4 (cm_if (fun c5 => cm_if (fun _ => cm_now fun _ => rfl) (fun c3 => ?_)) (fun _ => cm_now fun _ => rfl))
        have c3' : h.f2 = (h.f1 == 0) := by simpa using c3
        exact absurd ⟨⟨by omega, by omega⟩, c2, c3', fun c => by omega⟩ hp
      · refine cm_no c4 (cm_if (fun _ => cm_now fun _ => rfl) (fun c3 => ?_))
        have c3' : h.f2 = (h.f1 == 0) := by simpa using c3
        exact absurd ⟨⟨by omega, by omega⟩, c2, c3', fun c => c4 c.1⟩ hp
    · intro _
      refine cm_step (fun k => by rw [impl_isControl.l0]) ?_
      exact cm_no (by omega) (impl_parts x.f0 x.f1 x.f2 h0 h1 h2)
    · unfold good
      rw [hz]
      cases x.f0.all (goodBroker x.f2) <;> simp
  refine cm_bind (cm_now fun _ => in_f _ _ _) ?_
  refine cm_if (fun c => ?_) (fun c => cm_val hno ?_)
  · simp only [decide_eq_true_eq] at c
    refine cm_if (fun c2 => cm_val hno ?_) (fun c2 => cm_bind (cm_now fun _ => in_f _ _ _) ?_)
    · have : ¬ x.f1.length ≤ 5 := by omega
      simp [good, sizesOk, this]
    · by_cases c3 : 1 ≤ x.f2 ∧ x.f2 ≤ 1000
      · simp only [c3, decide_true, Bool.not_true, _root_.and_self]
        exact hgo (by simp [sizesOk]; omega)
      · simp only [c3, decide_false, Bool.not_false]
        exact cm_val hno (by simp [good, sizesOk, c3])
  · simp only [decide_eq_true_eq] at c
    have : ¬ (1 ≤ x.f0.length ∧ x.f0.length ≤ 6) := by omega
    simp [good, sizesOk, this]
theorem implGood_f (x : S25) (h : smControl x) : Cm (fun k => impl_GoodControl.f k x.f0 x.f1 x.f2) (good x) := by
  unfold impl_GoodControl.f
  exact cm_bind (impl_f x h) (cm_now fun _ => rfl)
end Go.Proofs.Ytmkiffemanmgcaa.Control
end
section
namespace Go.Proofs.Ytmkiffemanmgcaa.Pure
open Go.RowKit Go.Proofs.Ytmkiffemanmgcaa.P Go.Proofs.YtmkiffemanmgcaaW.PrintWords Go.Proofs.YtmkiffemanmgcaaW.PrintLast Go.Proofs.YtmkiffemanmgcaaW.PrintMore
open Go.Proofs.Ytmkiffemanmgcaa.Pl Go.Proofs.Ytmkiffemanmgcaa.EvN Go.Proofs.Ytmkiffemanmgcaa.Lp Go.Proofs.Ytmkiffemanmgcaa.Hg Go.Proofs.Ytmkiffemanmgcaa.Control
theorem FnExactGoodControl : laws_FnExactGoodControl.Pure := by
  intro x h
  obtain ⟨v, hv⟩ := szControl_ex x h 1048576
  have hs := sm_cControl x h
  refine cm_ex (v := true) ?_
  unfold laws_FnExactGoodControl.f
  refine cm_bind hv (cm_if (fun _ => cm_now fun _ => rfl) (fun _ => ?_))
  refine cm_bind (toControl_f x h) (cm_bind (spec_f _ hs) (cm_bind (toControl_f x h) (cm_bind (implGood_f _ hs) (cm_no (by simp) ?_))))
  exact cm_bind (toControl_f x h) (cm_bind (eqControl_same _ hs) (cm_yes rfl (cm_now fun _ => rfl)))
end Go.Proofs.Ytmkiffemanmgcaa.Pure
end
