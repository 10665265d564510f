-- Written by programs of this session (wip/prune.py, wip/xp.py), out of the translation and the printed words; what the law does not reach is left out. Not trusted: Lean checks it.
import Derived.Test.YtomdjipejoafgaaZXMayLeadW0
import Derived.Test.YtomdjipejoafgaaZXMayLeadPx3
import Derived.Test.YtomdjipejoafgaaZXMayLeadPx5
import Derived.Test.YtomdjipejoafgaaZXMayLeadPx0
import Derived.Test.YtomdjipejoafgaaZXMayLeadPx2
import Derived.Test.YtomdjipejoafgaaZXMayLeadPx17
import Derived.Test.YtomdjipejoafgaaZXMayLeadPx21
import Derived.Test.YtomdjipejoafgaaZXMayLeadPx22
import Derived.Test.YtomdjipejoafgaaZXMayLeadPx23
import Derived.Test.YtomdjipejoafgaaZXMayLeadPx24
import Derived.Test.YtomdjipejoafgaaZXMayLeadPx25
import Derived.Test.YtomdjipejoafgaaZXMayLeadPxok
import Derived.Laws.BitsAllLaws
import Derived.Test.YtomdjipejoafgaaZXMayLeadPx1
import Derived.Test.YtomdjipejoafgaaZXMayLeadPx12
import Derived.Test.YtomdjipejoafgaaZXMayLeadPx18
import Derived.Test.YtomdjipejoafgaaZXMayLeadPx19
import Derived.Test.YtomdjipejoafgaaZXMayLeadPx20
import Derived.Test.YtomdjipejoafgaaZXMayLeadPx33
import Derived.Test.YtomdjipejoafgaaZXMayLeadPx26
import Derived.Test.YtomdjipejoafgaaZXMayLeadPx36
import Derived.Test.YtomdjipejoafgaaZXMayLeadPx37
import Derived.Test.YtomdjipejoafgaaZXMayLeadPx73
section
namespace Go.Proofs.Ytomdjipejoafgaa.Pl
open Go.RowKit Go.Proofs.YtomdjipejoafgaaW.PrintWords Go.Proofs.YtomdjipejoafgaaW.PrintLast Go.Proofs.YtomdjipejoafgaaW.PrintMore
theorem wrap_in {x : Int} (h0 : -9223372036854775808 ≤ x) (h1 : x ≤ 9223372036854775807) : wrap64 x = x := by
  unfold wrap64
  omega
theorem wrap_len {n m : Nat} (h : n < m) (hm : m ≤ 4611686018427387904) : wrap64 ((n : Int) + 1) = ((n + 1 : Nat) : Int) := by
  rw [wrap_in (by omega) (by omega)]
  omega
theorem round {k d : Nat} (h : d < k) : ∃ m, k = m + 1 := ⟨k - 1, by omega⟩
theorem rd_mid (pre : List Int) (h : Int) (t : List Int) : rd (pre ++ h :: t) (pre.length : Int) = h := by
  simp [rd]
theorem rd_at {pre t l : List Int} {h : Int} (e : pre ++ h :: t = l) : rd l (pre.length : Int) = h := by
  rw [← e]; exact rd_mid pre h t
theorem len_mid {α : Type} {pre t : List α} {h : α} {l : List α} (e : pre ++ h :: t = l) : pre.length < l.length := by
  rw [← e]; simp
theorem app_mid {α : Type} {pre t : List α} {h : α} {l : List α} (e : pre ++ h :: t = l) : (pre ++ [h]) ++ t = l := by
  rw [← e]; simp
theorem len_one {α : Type} (pre : List α) (h : α) : (pre ++ [h]).length = pre.length + 1 := by simp
theorem rd_last {pre rest l : List Int} {p : Int} (e : pre ++ rest = l) (h : pre.getLast? = some p) : 0 < pre.length ∧ rd l ((pre.length : Int) - 1) = p := by
  obtain ⟨q, rfl⟩ := List.getLast?_eq_some_iff.1 h
  refine ⟨by simp, ?_⟩
  have h2 : q ++ [p] ++ rest = q ++ p :: rest := by simp
  rw [← e, h2, len_one, show (((q.length + 1 : Nat) : Int) - 1) = (q.length : Int) by omega]
  exact rd_mid q p rest
theorem no_last {α : Type} {pre : List α} (h : pre.getLast? = none) : pre = [] := by
  simpa using h
end Go.Proofs.Ytomdjipejoafgaa.Pl
end
section
namespace Go.Proofs.Ytomdjipejoafgaa.EvN
def Cm {α : Type} (f : Nat → Option α) (v : α) : Prop := ∃ K, ∀ k, K ≤ k → f k = some v
theorem cm_now {α : Type} {f : Nat → Option α} {v : α} (h : ∀ k, f k = some v) : Cm f v := ⟨0, fun k _ => h k⟩
theorem cm_step {α : Type} {f g : Nat → Option α} {v : α} (h : ∀ k, f (k + 1) = g k) (hg : Cm g v) : Cm f v := by
  obtain ⟨K, hK⟩ := hg
  refine ⟨K + 1, fun k hk => ?_⟩
  obtain ⟨m, rfl⟩ : ∃ m, k = m + 1 := ⟨k - 1, by omega⟩
  rw [h, hK m (by omega)]
theorem cm_same {α : Type} {f g : Nat → Option α} {v : α} (h : ∀ k, f k = g k) (hg : Cm g v) : Cm f v := by
  obtain ⟨K, hK⟩ := hg
  exact ⟨K, fun k hk => by rw [h, hK k hk]⟩
theorem cm_bind {α β : Type} {a : Nat → Option α} {t : α} {g : Nat → α → Option β} {v : β} (ha : Cm a t) (hg : Cm (fun k => g k t) v) : Cm (fun k => (a k).bind (g k)) v := by
  obtain ⟨K, hK⟩ := ha
  obtain ⟨M, hM⟩ := hg
  exact ⟨K + M, fun k hk => by simp only [hK k (by omega)]; exact hM k (by omega)⟩
theorem cm_yes {α : Type} {c : Prop} [Decidable c] {x y : Nat → Option α} {v : α} (h : c) (h2 : Cm x v) : Cm (fun k => if c then x k else y k) v :=
  cm_same (fun _ => if_pos h) h2
theorem cm_no {α : Type} {c : Prop} [Decidable c] {x y : Nat → Option α} {v : α} (h : ¬ c) (h2 : Cm y v) : Cm (fun k => if c then x k else y k) v :=
  cm_same (fun _ => if_neg h) h2
theorem cm_ex {α : Type} {f : Nat → Option α} {v : α} (h : Cm f v) : ∃ k, f k = some v := by
  obtain ⟨K, hK⟩ := h
  exact ⟨K, hK K (Nat.le_refl _)⟩
end Go.Proofs.Ytomdjipejoafgaa.EvN
end
section
namespace Go.Proofs.Ytomdjipejoafgaa.Lp
open Go.RowKit Go.Proofs.YtomdjipejoafgaaW.PrintWords
open Go.Proofs.Ytomdjipejoafgaa.Pl Go.Proofs.Ytomdjipejoafgaa.EvN
theorem fold_cm {α σ ρ : Type} {L : Nat → Int → σ → Option ρ} (xs : List α) (g : σ → α → σ) (I : List α → σ → Prop) (s0 : σ) {v : ρ} (h0 : I [] s0)
    (hstep : ∀ pre h t s, pre ++ h :: t = xs → pre.length < xs.length → I pre s → I (pre ++ [h]) (g s h) ∧ ∀ u, Cm (fun k => L k ((pre.length + 1 : Nat) : Int) (g s h)) u → Cm (fun k => L k (pre.length : Int) s) u)
    (hend : I xs (xs.foldl g s0) → Cm (fun k => L k (xs.length : Int) (xs.foldl g s0)) v) : Cm (fun k => L k 0 s0) v := by
  have key : ∀ (rest pre : List α) (s : σ), pre ++ rest = xs → I pre s → rest.foldl g s = xs.foldl g s0 → Cm (fun k => L k (pre.length : Int) s) v := by
    intro rest
    induction rest with
    | nil =>
      intro pre s e hi hf
      rw [List.append_nil] at e
      subst e
      rw [List.foldl_nil] at hf
      subst hf
      exact hend hi
    | cons h t ih =>
      intro pre s e hi hf
      obtain ⟨h1, h2⟩ := hstep pre h t s e (len_mid e) hi
      refine h2 v ?_
      have := ih (pre ++ [h]) (g s h) (app_mid e) h1 (by simpa using hf)
      rw [len_one] at this
      exact this
  exact key xs [] s0 rfl h0 rfl
def okFrom {α : Type} (p : List α → α → Bool) : List α → List α → Bool
  | _, [] => true
  | pre, h :: t => p pre h && okFrom p (pre ++ [h]) t
theorem all_cm {α ρ : Type} {L : Nat → Int → Option ρ} (xs : List α) (p : List α → α → Bool) {fin no : ρ}
    (hstep : ∀ pre h t, pre ++ h :: t = xs → pre.length < xs.length → p pre h = true → ∀ v, Cm (fun k => L k ((pre.length + 1 : Nat) : Int)) v → Cm (fun k => L k (pre.length : Int)) v)
    (hno : ∀ pre h t, pre ++ h :: t = xs → pre.length < xs.length → p pre h = false → Cm (fun k => L k (pre.length : Int)) no)
    (hend : okFrom p [] xs = true → Cm (fun k => L k (xs.length : Int)) fin) : Cm (fun k => L k 0) (if okFrom p [] xs = true then fin else no) := by
  have key : ∀ (rest pre : List α), pre ++ rest = xs → (okFrom p pre rest = okFrom p [] xs) → Cm (fun k => L k (pre.length : Int)) (if okFrom p pre rest = true then fin else no) := by
    intro rest
    induction rest with
    | nil =>
      intro pre e h
      rw [List.append_nil] at e
      subst e
      simp only [okFrom, if_true] at h ⊢
      exact hend h.symm
    | cons x t ih =>
      intro pre e h
      by_cases c : p pre x = true
      · have h2 : okFrom p pre (x :: t) = okFrom p (pre ++ [x]) t := by simp only [okFrom, c, Bool.true_and]
        rw [h2] at h ⊢
        have h3 := ih (pre ++ [x]) (app_mid e) h
        rw [len_one] at h3
        exact hstep pre x t e (len_mid e) c _ h3
      · have c2 : p pre x = false := by simpa using c
        have h2 : okFrom p pre (x :: t) = false := by simp only [okFrom, c2, Bool.false_and]
        rw [h2]
        simpa using hno pre x t e (len_mid e) c2
  exact key xs [] rfl rfl
theorem okFrom_all {α : Type} (p : α → Bool) : ∀ (rest pre : List α), okFrom (fun _ h => p h) pre rest = rest.all p
  | [], _ => rfl
  | x :: t, pre => by simp only [okFrom, List.all_cons, okFrom_all p t]
theorem every_cm {α ρ : Type} {L : Nat → Int → Option ρ} (xs : List α) (p : α → Bool) {fin no : ρ}
    (hstep : ∀ pre h t, pre ++ h :: t = xs → pre.length < xs.length → p h = true → ∀ v, Cm (fun k => L k ((pre.length + 1 : Nat) : Int)) v → Cm (fun k => L k (pre.length : Int)) v)
    (hno : ∀ pre h t, pre ++ h :: t = xs → pre.length < xs.length → p h = false → Cm (fun k => L k (pre.length : Int)) no)
    (hend : xs.all p = true → Cm (fun k => L k (xs.length : Int)) fin) : Cm (fun k => L k 0) (if xs.all p = true then fin else no) := by
  have := all_cm (L := L) xs (fun _ h => p h) hstep hno (by rw [okFrom_all]; exact hend)
  rw [okFrom_all] at this
  exact this
def foundAt {α ρ : Type} (p : α → Bool) (found : Nat → α → ρ) (none_ : ρ) : Nat → List α → ρ
  | _, [] => none_
  | i, h :: t => if p h = true then found i h else foundAt p found none_ (i + 1) t
theorem find_cm {α ρ : Type} {L : Nat → Int → Option ρ} (xs : List α) (p : α → Bool) (found : Nat → α → ρ) {none_ : ρ}
    (hstep : ∀ pre h t, pre ++ h :: t = xs → pre.length < xs.length → p h = false → ∀ v, Cm (fun k => L k ((pre.length + 1 : Nat) : Int)) v → Cm (fun k => L k (pre.length : Int)) v)
    (hyes : ∀ pre h t, pre ++ h :: t = xs → pre.length < xs.length → p h = true → Cm (fun k => L k (pre.length : Int)) (found pre.length h))
    (hend : Cm (fun k => L k (xs.length : Int)) none_) : Cm (fun k => L k 0) (foundAt p found none_ 0 xs) := by
  have key : ∀ (rest pre : List α), pre ++ rest = xs → Cm (fun k => L k (pre.length : Int)) (foundAt p found none_ pre.length rest) := by
    intro rest
    induction rest with
    | nil =>
      intro pre e
      rw [List.append_nil] at e
      subst e
      exact hend
    | cons x t ih =>
      intro pre e
      unfold foundAt
      by_cases c : p x = true
      · rw [if_pos c]
        exact hyes pre x t e (len_mid e) c
      · rw [if_neg c]
        have h3 := ih (pre ++ [x]) (app_mid e)
        rw [len_one] at h3
        exact hstep pre x t e (len_mid e) (by simpa using c) _ h3
  exact key xs [] rfl
theorem found_any {α : Type} (p : α → Bool) : ∀ (l : List α) (i : Nat), decide (foundAt p (fun i _ => (i : Int)) (-1) i l ≥ 0) = l.any p
  | [], _ => by simp [foundAt]
  | h :: t, i => by
    unfold foundAt
    by_cases c : p h = true
    · rw [if_pos c]; simp [c]
    · rw [if_neg c, found_any p t (i + 1)]; simp [c]
theorem not_any {α : Type} (p q : α → Bool) (l : List α) (h : ∀ x ∈ l, p x = !q x) : (!l.any p) = l.all q := by
  induction l with
  | nil => rfl
  | cons x t ih => rw [List.any_cons, List.all_cons, h x (by simp), ← ih (fun y hy => h y (by simp [hy]))]; cases q x <;> simp
theorem same_cm {α ρ : Type} {L : Nat → Int → Option ρ} (xs : List α) {fin : ρ}
    (hstep : ∀ pre h t, pre ++ h :: t = xs → pre.length < xs.length → ∀ v, Cm (fun k => L k ((pre.length + 1 : Nat) : Int)) v → Cm (fun k => L k (pre.length : Int)) v)
    (hend : Cm (fun k => L k (xs.length : Int)) fin) : Cm (fun k => L k 0) fin := by
  have := every_cm (L := L) xs (fun _ => true) (fin := fin) (no := fin) (fun pre h t e hl _ => hstep pre h t e hl) (fun _ _ _ _ _ hp => by cases hp) (fun _ => hend)
  have h : (xs.all fun _ => true) = true := by simp
  rw [if_pos h] at this
  exact this
theorem map_cm {α β : Type} {L : Nat → Int → List β → Option (List β)} (xs : List α) (c : α → β) (z : β)
    (hstep : ∀ pre h t acc, pre ++ h :: t = xs → pre.length < xs.length → acc.length = xs.length → ∀ u, Cm (fun k => L k ((pre.length + 1 : Nat) : Int) (acc.set pre.length (c h))) u → Cm (fun k => L k (pre.length : Int) acc) u)
    (hend : ∀ acc, acc.length = xs.length → Cm (fun k => L k (xs.length : Int) acc) acc) : Cm (fun k => L k 0 (List.replicate xs.length z)) (xs.map c) := by
  have key : ∀ (rest pre : List α) (tl : List β), pre ++ rest = xs → tl.length = rest.length → Cm (fun k => L k (pre.length : Int) (pre.map c ++ tl)) (xs.map c) := by
    intro rest
    induction rest with
    | nil =>
      intro pre tl e ht
      have ht2 : tl = [] := List.length_eq_zero_iff.1 ht
      rw [List.append_nil] at e
      subst ht2 e
      rw [List.append_nil]
      exact hend _ (by simp)
    | cons h t ih =>
      intro pre tl e ht
      match tl, ht with
      | y :: tl, ht =>
        refine hstep pre h t _ e (len_mid e) (by rw [← e]; simp at ht ⊢; omega) _ ?_
        have e2 : (pre.map c ++ y :: tl).set pre.length (c h) = (pre ++ [h]).map c ++ tl := by
          have : pre.length = (pre.map c).length := by simp
          rw [this]
          simp
        rw [e2]
        have := ih (pre ++ [h]) tl (app_mid e) (by simpa using ht)
        rw [len_one] at this
        exact this
  have := key xs [] (List.replicate xs.length z) rfl (by simp)
  simpa using this
theorem ex_cm {α σ ρ : Type} {L : Nat → Int → σ → Option ρ} (xs : List α)
    (hstep : ∀ pre h t s, pre ++ h :: t = xs → pre.length < xs.length → (∃ v, Cm (fun k => L k (pre.length : Int) s) v) ∨ ∃ s', ∀ u, Cm (fun k => L k ((pre.length + 1 : Nat) : Int) s') u → Cm (fun k => L k (pre.length : Int) s) u)
    (hend : ∀ s, ∃ v, Cm (fun k => L k (xs.length : Int) s) v) (s0 : σ) : ∃ v, Cm (fun k => L k 0 s0) v := by
  have key : ∀ (rest pre : List α) (s : σ), pre ++ rest = xs → ∃ v, Cm (fun k => L k (pre.length : Int) s) v := by
    intro rest
    induction rest with
    | nil =>
      intro pre s e
      rw [List.append_nil] at e
      subst e
      exact hend s
    | cons h t ih =>
      intro pre s e
      rcases hstep pre h t s e (len_mid e) with h1 | ⟨s', h1⟩
      · exact h1
      · obtain ⟨v, hv⟩ := ih (pre ++ [h]) s' (app_mid e)
        rw [len_one] at hv
        exact ⟨v, h1 v hv⟩
  exact key xs [] s0 rfl
theorem cm_if {α : Type} {c : Prop} [Decidable c] {x y : Nat → Option α} {v : α} (h : c → Cm x v) (h2 : ¬ c → Cm y v) : Cm (fun k => if c then x k else y k) v := by
  by_cases hc : c
  · exact cm_yes hc (h hc)
  · exact cm_no hc (h2 hc)
theorem getD_at {α : Type} {pre t l : List α} {h : α} (e : pre ++ h :: t = l) (d : α) : l.getD ((pre.length : Int)).toNat d = h := by
  rw [← e]; simp
theorem wrap_less {n : Nat} (h : 0 < n) (hm : n ≤ 4611686018427387904) : wrap64 ((n : Int) - 1) = (n : Int) - 1 := wrap_in (by omega) (by omega)
theorem cm_val {α : Type} {f : Nat → Option α} {u v : α} (h : Cm f u) (e : u = v) : Cm f v := e ▸ h
end Go.Proofs.Ytomdjipejoafgaa.Lp
end
section
namespace Go.Proofs.Ytomdjipejoafgaa.Hs
open Go.RowKit Go.Proofs.Ytomdjipejoafgaa.P Go.Proofs.YtomdjipejoafgaaW.PrintWords Go.Proofs.YtomdjipejoafgaaW.PrintLast Go.Proofs.YtomdjipejoafgaaW.PrintMore
open Go.Proofs.Ytomdjipejoafgaa.Pl Go.Proofs.Ytomdjipejoafgaa.EvN Go.Proofs.Ytomdjipejoafgaa.Lp
set_option linter.unusedSimpArgs false
set_option linter.unusedVariables false
theorem toIntS_f (l : List Int) (h : l.length * 8 ≤ 140737488351232) : Cm (fun k => laws_toIntS.f k l) l := by
  unfold laws_toIntS.f
  refine cm_yes (by omega) (cm_yes (by omega) ?_)
  have := map_cm (L := fun k i s => laws_toIntS.l0 k l s i) l (fun x => x) 0 ?_ ?_
  · simpa using this
  · intro pre x t acc e hlt ha u hu
    refine cm_step (fun k => by rw [laws_toIntS.l0]) ?_
    simp only [rd_at e, wrap_len hlt (show l.length ≤ 4611686018427387904 by omega), Int.toNat_natCast]
    repeat (first | assumption | exact cm_now (fun _ => rfl) | refine cm_yes (by first | omega | assumption | (simp; done) | (simp; omega)) ?_ | refine cm_no (by first | omega | assumption | (simp; done) | (simp; omega)) ?_)
  · intro acc ha
    refine cm_step (fun k => by rw [laws_toIntS.l0]) ?_
    repeat (first | assumption | exact cm_now (fun _ => rfl) | refine cm_yes (by first | omega | assumption | (simp; done) | (simp; omega)) ?_ | refine cm_no (by first | omega | assumption | (simp; done) | (simp; omega)) ?_)
theorem eqIntS_same (l : List Int) (h : l.length ≤ 4611686018427387904) : Cm (fun k => laws_eqIntS.f k l l) true := by
  unfold laws_eqIntS.f
  refine cm_yes rfl ?_
  refine same_cm (L := fun k i => laws_eqIntS.l0 k l l i) l ?_ ?_
  · intro pre x t e hlt v hv
    refine cm_step (fun k => by rw [laws_eqIntS.l0]) ?_
    simp only [rd_at e, wrap_len hlt h]
    repeat (first | assumption | exact cm_now (fun _ => rfl) | refine cm_yes (by first | omega | assumption | (simp; done) | (simp; omega) | exact rfl) ?_ | refine cm_no (by first | omega | assumption | (simp; done) | (simp; omega) | exact rfl) ?_)
  · refine cm_step (fun k => by rw [laws_eqIntS.l0]) ?_
    repeat (first | assumption | exact cm_now (fun _ => rfl) | refine cm_yes (by first | omega | assumption | (simp; done) | (simp; omega)) ?_ | refine cm_no (by first | omega | assumption | (simp; done) | (simp; omega)) ?_)
theorem szIntS_f (l : List Int) (m : Int) : ∃ v, Cm (fun _ => laws_szIntS.f l m) v := by
  unfold laws_szIntS.f
  by_cases c : wrap64 (m - (l.length : Int)) < 0
  · exact ⟨_, cm_yes c (cm_now fun _ => rfl)⟩
  · exact ⟨_, cm_no c (cm_now fun _ => rfl)⟩
end Go.Proofs.Ytomdjipejoafgaa.Hs
end
section
namespace Go.Proofs.Ytomdjipejoafgaa.Hg
open Go.RowKit Go.Proofs.Ytomdjipejoafgaa.P Go.Proofs.YtomdjipejoafgaaW.PrintWords Go.Proofs.YtomdjipejoafgaaW.PrintLast Go.Proofs.YtomdjipejoafgaaW.PrintMore
open Go.Proofs.Ytomdjipejoafgaa.Pl Go.Proofs.Ytomdjipejoafgaa.EvN Go.Proofs.Ytomdjipejoafgaa.Lp Go.Proofs.Ytomdjipejoafgaa.Hs
set_option linter.unusedSimpArgs false
set_option linter.unusedVariables false
theorem rdT139_at {pre t l : List S139} {h : S139} (e : pre ++ h :: t = l) : rd_T139 l (pre.length : Int) = h := getD_at e _
theorem rdT108_at {pre t l : List S108} {h : S108} (e : pre ++ h :: t = l) : rd_T108 l (pre.length : Int) = h := getD_at e _
def cServer (x : S139) : S108 := ⟨x.f0, x.f1, x.f2, x.f3, x.f4, x.f5⟩
def smServer (x : S108) : Prop := (True) ∧ (True) ∧ (True) ∧ (True) ∧ (x.f4.length ≤ 4611686018427387904) ∧ (x.f5.length ≤ 4611686018427387904)
theorem sm_cServer (x : S139) (h : ok139 x) : smServer (cServer x) := by
  obtain ⟨h0, h1, h2, h3, h4, h5⟩ := h
  exact ⟨trivial, trivial, trivial, trivial, by have := h4.2.1; simp only [cServer]; omega, by have := h5.2.1; simp only [cServer]; omega⟩
theorem toServer_f (x : S139) (h : ok139 x) : Cm (fun k => laws_toServer.f k x.f0 x.f1 x.f2 x.f3 x.f4 x.f5) ((cServer x).f0, (cServer x).f1, (cServer x).f2, (cServer x).f3, (cServer x).f4, (cServer x).f5) := by
  obtain ⟨h0, h1, h2, h3, h4, h5⟩ := h
  unfold laws_toServer.f
  exact cm_bind (toIntS_f _ h4.2.1) (cm_bind (toIntS_f _ h5.2.1) (cm_now fun _ => rfl))
theorem toServerS_f (l : List S139) (h : l.length ≤ maxLen ∧ l.length * 72 ≤ 140737488351232 ∧ ∀ x_ ∈ l, ok139 x_) : Cm (fun k => laws_toServerS.f k l) (l.map cServer) := by
  have hl := h.2.1
  unfold laws_toServerS.f
  refine cm_yes (by omega) (cm_yes (by omega) ?_)
  rw [Int.toNat_natCast]
  refine map_cm (L := fun k i s => laws_toServerS.l0 k l s i) l cServer z108 ?_ ?_
  · intro pre x t acc e hlt ha u hu
    have hx := h.2.2 x (by rw [← e]; simp)
    refine cm_step (fun k => by rw [laws_toServerS.l0]) ?_
    simp only [rdT139_at e, wrap_len hlt (show l.length ≤ 4611686018427387904 by omega), Int.toNat_natCast]
    refine cm_yes (by omega) (cm_yes (by omega) (cm_bind (toServer_f x hx) (cm_yes (by omega) ?_)))
    exact hu
  · intro acc ha
    refine cm_step (fun k => by rw [laws_toServerS.l0]) ?_
    exact cm_no (by omega) (cm_now fun _ => rfl)
theorem eqServer_same (x : S108) (h : smServer x) : Cm (fun k => laws_eqServer.f k x.f0 x.f1 x.f2 x.f3 x.f4 x.f5 x.f0 x.f1 x.f2 x.f3 x.f4 x.f5) true := by
  obtain ⟨h0, h1, h2, h3, h4, h5⟩ := h
  unfold laws_eqServer.f
  exact cm_yes rfl (cm_yes rfl (cm_no (by simp) (cm_no (by simp) (cm_bind (eqIntS_same _ h4) (cm_yes rfl (cm_bind (eqIntS_same _ h5) (cm_yes rfl (cm_now fun _ => rfl))))))))
theorem eqServerS_same (l : List S108) (h : l.length ≤ 4611686018427387904 ∧ ∀ y ∈ l, smServer y) : Cm (fun k => laws_eqServerS.f k l l) true := by
  unfold laws_eqServerS.f
  refine cm_yes rfl ?_
  refine same_cm (L := fun k i => laws_eqServerS.l0 k l l i) l ?_ ?_
  · intro pre x t e hlt v hv
    have hx := h.2 x (by rw [← e]; simp)
    refine cm_step (fun k => by rw [laws_eqServerS.l0]) ?_
    simp only [rdT108_at e, wrap_len hlt h.1]
    exact cm_yes (by omega) (cm_yes (by omega) (cm_yes (by omega) (cm_bind (eqServer_same x hx) (cm_yes rfl hv))))
  · refine cm_step (fun k => by rw [laws_eqServerS.l0]) ?_
    exact cm_no (by omega) (cm_now fun _ => rfl)
theorem szServer_ex (x : S139) (h : ok139 x) (m : Int) : ∃ v, Cm (fun k => laws_szServer.f x.f0 x.f1 x.f2 x.f3 x.f4 x.f5 m) v := by
  obtain ⟨h0, h1, h2, h3, h4, h5⟩ := h
  unfold laws_szServer.f
  obtain ⟨v0, w0⟩ := szIntS_f x.f4 m
  by_cases c0 : v0 < 0
  · exact ⟨-1, cm_bind w0 (cm_yes c0 (cm_now fun _ => rfl))⟩
  obtain ⟨v1, w1⟩ := szIntS_f x.f5 v0
  by_cases c1 : v1 < 0
  · exact ⟨-1, cm_bind w0 (cm_no c0 (cm_bind w1 (cm_yes c1 (cm_now fun _ => rfl))))⟩
  exact ⟨v1, cm_bind w0 (cm_no c0 (cm_bind w1 (cm_no c1 (cm_now fun _ => rfl))))⟩
theorem szServerS_ex (l : List S139) (h : l.length ≤ maxLen ∧ l.length * 72 ≤ 140737488351232 ∧ ∀ x_ ∈ l, ok139 x_) (m : Int) : ∃ v, Cm (fun k => laws_szServerS.f k l m) v := by
  have hl := h.2.1
  unfold laws_szServerS.f
  by_cases c : wrap64 (m - (l.length : Int)) < 0
  · exact ⟨_, cm_yes c (cm_now fun _ => rfl)⟩
  · obtain ⟨v, hv⟩ : ∃ v, Cm (fun k => laws_szServerS.l0 k l (wrap64 (m - (l.length : Int))) 0) v := by
      refine ex_cm (L := fun k i s => laws_szServerS.l0 k l s i) l ?_ ?_ _
      · intro pre x t s e hlt
        obtain ⟨v, hv⟩ := szServer_ex x (h.2.2 x (by rw [← e]; simp)) s
        by_cases c2 : v < 0
        · refine .inl ⟨-1, ?_⟩
          refine cm_step (fun k => by rw [laws_szServerS.l0]) ?_
          simp only [rdT139_at e, wrap_len hlt (show l.length ≤ 4611686018427387904 by omega)]
          exact cm_yes (by omega) (cm_yes (by omega) (cm_bind hv (cm_yes c2 (cm_now fun _ => rfl))))
        · refine .inr ⟨v, fun u hu => ?_⟩
          refine cm_step (fun k => by rw [laws_szServerS.l0]) ?_
          simp only [rdT139_at e, wrap_len hlt (show l.length ≤ 4611686018427387904 by omega)]
          exact cm_yes (by omega) (cm_yes (by omega) (cm_bind hv (cm_no c2 hu)))
      · intro s
        refine ⟨s, ?_⟩
        refine cm_step (fun k => by rw [laws_szServerS.l0]) ?_
        exact cm_no (by omega) (cm_now fun _ => rfl)
    exact ⟨v, cm_no c hv⟩
theorem rdT143_at {pre t l : List S143} {h : S143} (e : pre ++ h :: t = l) : rd_T143 l (pre.length : Int) = h := getD_at e _
theorem rdT111_at {pre t l : List S111} {h : S111} (e : pre ++ h :: t = l) : rd_T111 l (pre.length : Int) = h := getD_at e _
def cLetter (x : S143) : S111 := ⟨x.f0, x.f1, x.f2, x.f3, x.f4, x.f5, x.f6⟩
def smLetter (x : S111) : Prop := (True) ∧ (True) ∧ (True) ∧ (True) ∧ (True) ∧ (True) ∧ (True)
theorem sm_cLetter (x : S143) (h : ok143 x) : smLetter (cLetter x) := by
  obtain ⟨h0, h1, h2, h3, h4, h5, h6⟩ := h
  exact ⟨trivial, trivial, trivial, trivial, trivial, trivial, trivial⟩
theorem toLetter_f (x : S143) (h : ok143 x) : Cm (fun k => laws_toLetter.f x.f0 x.f1 x.f2 x.f3 x.f4 x.f5 x.f6) ((cLetter x).f0, (cLetter x).f1, (cLetter x).f2, (cLetter x).f3, (cLetter x).f4, (cLetter x).f5, (cLetter x).f6) := by
  obtain ⟨h0, h1, h2, h3, h4, h5, h6⟩ := h
  unfold laws_toLetter.f
  exact cm_now fun _ => rfl
theorem toLetterS_f (l : List S143) (h : l.length ≤ maxLen ∧ l.length * 56 ≤ 140737488351232 ∧ ∀ x_ ∈ l, ok143 x_) : Cm (fun k => laws_toLetterS.f k l) (l.map cLetter) := by
  have hl := h.2.1
  unfold laws_toLetterS.f
  refine cm_yes (by omega) (cm_yes (by omega) ?_)
  rw [Int.toNat_natCast]
  refine map_cm (L := fun k i s => laws_toLetterS.l0 k l s i) l cLetter z111 ?_ ?_
  · intro pre x t acc e hlt ha u hu
    have hx := h.2.2 x (by rw [← e]; simp)
    refine cm_step (fun k => by rw [laws_toLetterS.l0]) ?_
    simp only [rdT143_at e, wrap_len hlt (show l.length ≤ 4611686018427387904 by omega), Int.toNat_natCast]
    refine cm_yes (by omega) (cm_yes (by omega) (cm_bind (toLetter_f x hx) (cm_yes (by omega) ?_)))
    exact hu
  · intro acc ha
    refine cm_step (fun k => by rw [laws_toLetterS.l0]) ?_
    exact cm_no (by omega) (cm_now fun _ => rfl)
theorem eqLetter_same (x : S111) (h : smLetter x) : Cm (fun k => laws_eqLetter.f x.f0 x.f1 x.f2 x.f3 x.f4 x.f5 x.f6 x.f0 x.f1 x.f2 x.f3 x.f4 x.f5 x.f6) true := by
  obtain ⟨h0, h1, h2, h3, h4, h5, h6⟩ := h
  unfold laws_eqLetter.f
  exact cm_yes rfl (cm_yes rfl (cm_yes rfl (cm_no (by simp) (cm_yes rfl (cm_yes rfl (cm_no (by simp) (cm_now fun _ => rfl)))))))
theorem eqLetterS_same (l : List S111) (h : l.length ≤ 4611686018427387904 ∧ ∀ y ∈ l, smLetter y) : Cm (fun k => laws_eqLetterS.f k l l) true := by
  unfold laws_eqLetterS.f
  refine cm_yes rfl ?_
  refine same_cm (L := fun k i => laws_eqLetterS.l0 k l l i) l ?_ ?_
  · intro pre x t e hlt v hv
    have hx := h.2 x (by rw [← e]; simp)
    refine cm_step (fun k => by rw [laws_eqLetterS.l0]) ?_
    simp only [rdT111_at e, wrap_len hlt h.1]
    exact cm_yes (by omega) (cm_yes (by omega) (cm_yes (by omega) (cm_bind (eqLetter_same x hx) (cm_yes rfl hv))))
  · refine cm_step (fun k => by rw [laws_eqLetterS.l0]) ?_
    exact cm_no (by omega) (cm_now fun _ => rfl)
theorem szLetterS_ex (l : List S143) (h : l.length ≤ maxLen ∧ l.length * 56 ≤ 140737488351232 ∧ ∀ x_ ∈ l, ok143 x_) (m : Int) : ∃ v, Cm (fun k => laws_szLetterS.f l m) v := by
  have hl := h.2.1
  unfold laws_szLetterS.f
  by_cases c : wrap64 (m - (l.length : Int)) < 0
  · exact ⟨_, cm_yes c (cm_now fun _ => rfl)⟩
  · exact ⟨_, cm_no c (cm_now fun _ => rfl)⟩
theorem rdT145_at {pre t l : List S145} {h : S145} (e : pre ++ h :: t = l) : rd_T145 l (pre.length : Int) = h := getD_at e _
theorem rdT114_at {pre t l : List S114} {h : S114} (e : pre ++ h :: t = l) : rd_T114 l (pre.length : Int) = h := getD_at e _
def cVote (x : S145) : S114 := ⟨x.f0, x.f1⟩
def smVote (x : S114) : Prop := (True) ∧ (True)
theorem sm_cVote (x : S145) (h : ok145 x) : smVote (cVote x) := by
  obtain ⟨h0, h1⟩ := h
  exact ⟨trivial, trivial⟩
theorem toVote_f (x : S145) (h : ok145 x) : Cm (fun k => laws_toVote.f x.f0 x.f1) ((cVote x).f0, (cVote x).f1) := by
  obtain ⟨h0, h1⟩ := h
  unfold laws_toVote.f
  exact cm_now fun _ => rfl
theorem toVoteS_f (l : List S145) (h : l.length ≤ maxLen ∧ l.length * 16 ≤ 140737488351232 ∧ ∀ x_ ∈ l, ok145 x_) : Cm (fun k => laws_toVoteS.f k l) (l.map cVote) := by
  have hl := h.2.1
  unfold laws_toVoteS.f
  refine cm_yes (by omega) (cm_yes (by omega) ?_)
  rw [Int.toNat_natCast]
  refine map_cm (L := fun k i s => laws_toVoteS.l0 k l s i) l cVote z114 ?_ ?_
  · intro pre x t acc e hlt ha u hu
    have hx := h.2.2 x (by rw [← e]; simp)
    refine cm_step (fun k => by rw [laws_toVoteS.l0]) ?_
    simp only [rdT145_at e, wrap_len hlt (show l.length ≤ 4611686018427387904 by omega), Int.toNat_natCast]
    refine cm_yes (by omega) (cm_yes (by omega) (cm_bind (toVote_f x hx) (cm_yes (by omega) ?_)))
    exact hu
  · intro acc ha
    refine cm_step (fun k => by rw [laws_toVoteS.l0]) ?_
    exact cm_no (by omega) (cm_now fun _ => rfl)
theorem eqVote_same (x : S114) (h : smVote x) : Cm (fun k => laws_eqVote.f x.f0 x.f1 x.f0 x.f1) true := by
  obtain ⟨h0, h1⟩ := h
  unfold laws_eqVote.f
  exact cm_yes rfl (cm_yes rfl (cm_now fun _ => rfl))
theorem eqVoteS_same (l : List S114) (h : l.length ≤ 4611686018427387904 ∧ ∀ y ∈ l, smVote y) : Cm (fun k => laws_eqVoteS.f k l l) true := by
  unfold laws_eqVoteS.f
  refine cm_yes rfl ?_
  refine same_cm (L := fun k i => laws_eqVoteS.l0 k l l i) l ?_ ?_
  · intro pre x t e hlt v hv
    have hx := h.2 x (by rw [← e]; simp)
    refine cm_step (fun k => by rw [laws_eqVoteS.l0]) ?_
    simp only [rdT114_at e, wrap_len hlt h.1]
    exact cm_yes (by omega) (cm_yes (by omega) (cm_yes (by omega) (cm_bind (eqVote_same x hx) (cm_yes rfl hv))))
  · refine cm_step (fun k => by rw [laws_eqVoteS.l0]) ?_
    exact cm_no (by omega) (cm_now fun _ => rfl)
theorem szVoteS_ex (l : List S145) (h : l.length ≤ maxLen ∧ l.length * 16 ≤ 140737488351232 ∧ ∀ x_ ∈ l, ok145 x_) (m : Int) : ∃ v, Cm (fun k => laws_szVoteS.f l m) v := by
  have hl := h.2.1
  unfold laws_szVoteS.f
  by_cases c : wrap64 (m - (l.length : Int)) < 0
  · exact ⟨_, cm_yes c (cm_now fun _ => rfl)⟩
  · exact ⟨_, cm_no c (cm_now fun _ => rfl)⟩
def cElection (x : S47) : S54 := ⟨x.f0.map cServer, x.f1.map cLetter, x.f2.map cVote⟩
def smElection (x : S54) : Prop := (x.f0.length ≤ 4611686018427387904 ∧ ∀ y ∈ x.f0, smServer y) ∧ (x.f1.length ≤ 4611686018427387904 ∧ ∀ y ∈ x.f1, smLetter y) ∧ (x.f2.length ≤ 4611686018427387904 ∧ ∀ y ∈ x.f2, smVote y)
theorem sm_cElection (x : S47) (h : ok47 x) : smElection (cElection x) := by
  obtain ⟨h0, h1, h2⟩ := h
  exact ⟨⟨by have := h0.2.1; simp only [cElection, List.length_map]; omega, fun y hy => by obtain ⟨z, hz, rfl⟩ := List.mem_map.1 hy; exact sm_cServer z (h0.2.2 z hz)⟩, ⟨by have := h1.2.1; simp only [cElection, List.length_map]; omega, fun y hy => by obtain ⟨z, hz, rfl⟩ := List.mem_map.1 hy; exact sm_cLetter z (h1.2.2 z hz)⟩, ⟨by have := h2.2.1; simp only [cElection, List.length_map]; omega, fun y hy => by obtain ⟨z, hz, rfl⟩ := List.mem_map.1 hy; exact sm_cVote z (h2.2.2 z hz)⟩⟩
theorem toElection_f (x : S47) (h : ok47 x) : Cm (fun k => laws_toElection.f k x.f0 x.f1 x.f2) ((cElection x).f0, (cElection x).f1, (cElection x).f2) := by
  obtain ⟨h0, h1, h2⟩ := h
  unfold laws_toElection.f
  exact cm_bind (toServerS_f _ h0) (cm_bind (toLetterS_f _ h1) (cm_bind (toVoteS_f _ h2) (cm_now fun _ => rfl)))
theorem eqElection_same (x : S54) (h : smElection x) : Cm (fun k => laws_eqElection.f k x.f0 x.f1 x.f2 x.f0 x.f1 x.f2) true := by
  obtain ⟨h0, h1, h2⟩ := h
  unfold laws_eqElection.f
  exact cm_bind (eqServerS_same _ h0) (cm_yes rfl (cm_bind (eqLetterS_same _ h1) (cm_yes rfl (cm_bind (eqVoteS_same _ h2) (cm_yes rfl (cm_now fun _ => rfl))))))
theorem szElection_ex (x : S47) (h : ok47 x) (m : Int) : ∃ v, Cm (fun k => laws_szElection.f k x.f0 x.f1 x.f2 m) v := by
  obtain ⟨h0, h1, h2⟩ := h
  unfold laws_szElection.f
  obtain ⟨v0, w0⟩ := szServerS_ex x.f0 h0 m
  by_cases c0 : v0 < 0
  · exact ⟨-1, cm_bind w0 (cm_yes c0 (cm_now fun _ => rfl))⟩
  obtain ⟨v1, w1⟩ := szLetterS_ex x.f1 h1 v0
  by_cases c1 : v1 < 0
  · exact ⟨-1, cm_bind w0 (cm_no c0 (cm_bind w1 (cm_yes c1 (cm_now fun _ => rfl))))⟩
  obtain ⟨v2, w2⟩ := szVoteS_ex x.f2 h2 v1
  by_cases c2 : v2 < 0
  · exact ⟨-1, cm_bind w0 (cm_no c0 (cm_bind w1 (cm_no c1 (cm_bind w2 (cm_yes c2 (cm_now fun _ => rfl))))))⟩
  exact ⟨v2, cm_bind w0 (cm_no c0 (cm_bind w1 (cm_no c1 (cm_bind w2 (cm_no c2 (cm_now fun _ => rfl))))))⟩
end Go.Proofs.Ytomdjipejoafgaa.Hg
end
section
namespace Go.Proofs.Ytomdjipejoafgaa.Sets
open Go.RowKit Go.Proofs.YtomdjipejoafgaaW.PrintWords Go.Proofs.YtomdjipejoafgaaW.PrintLast Go.Proofs.YtomdjipejoafgaaW.PrintMore
open Go.Proofs.Ytomdjipejoafgaa.Pl Go.Proofs.Ytomdjipejoafgaa.EvN Go.Proofs.Ytomdjipejoafgaa.Lp
set_option linter.unusedSimpArgs false
set_option linter.unusedVariables false
def rises (many : Int) (pre : List Int) (h : Int) : Bool := decide (0 ≤ h ∧ h < many) && (match pre.getLast? with | some q => decide (q < h) | none => true)
def members (many : Int) (l : List Int) : Bool := okFrom (rises many) [] l
end Go.Proofs.Ytomdjipejoafgaa.Sets
end
section
namespace Go.Proofs.Ytomdjipejoafgaa.Mem
open Go.RowKit Go.Proofs.Ytomdjipejoafgaa.P Go.Proofs.YtomdjipejoafgaaW.PrintWords Go.Proofs.YtomdjipejoafgaaW.PrintLast Go.Proofs.YtomdjipejoafgaaW.PrintMore
open Go.Proofs.Ytomdjipejoafgaa.Pl Go.Proofs.Ytomdjipejoafgaa.EvN Go.Proofs.Ytomdjipejoafgaa.Lp Go.Proofs.Ytomdjipejoafgaa.Sets
set_option linter.unusedSimpArgs false
set_option linter.unusedVariables false
theorem in_f (a b c : Int) : impl_in.f a b c = some (decide (b ≤ a ∧ a ≤ c)) := by
  unfold impl_in.f
  by_cases h : a ≥ b
  · rw [if_pos h]; congr 1; rw [decide_eq_decide]; omega
  · rw [if_neg h]; congr 1; symm; rw [decide_eq_false_iff_not]; omega
theorem l1In_f (a b c : Int) : spec_l1In.f a b c = some (decide (b ≤ a ∧ a ≤ c)) := by
  unfold spec_l1In.f
  by_cases h : a ≥ b
  · rw [if_pos h]; congr 1; rw [decide_eq_decide]; omega
  · rw [if_neg h]; congr 1; symm; rw [decide_eq_false_iff_not]; omega
theorem if_self (b : Bool) : (if b = true then true else false) = b := by cases b <;> rfl
theorem rises_no {many : Int} {pre : List Int} {h : Int} (hp : rises many pre h = false) (h0 : 0 ≤ h) (h1 : h < many) : ∃ q, pre.getLast? = some q ∧ h ≤ q := by
  unfold rises at hp
  cases e : pre.getLast? with
  | none => rw [e] at hp; simp at hp; omega
  | some q =>
    rw [e] at hp
    simp at hp
    exact ⟨q, rfl, by omega⟩
theorem rises_yes {many : Int} {pre : List Int} {h : Int} (hp : rises many pre h = true) : (0 ≤ h ∧ h < many) ∧ ∀ q, pre.getLast? = some q → q < h := by
  unfold rises at hp
  simp only [Bool.and_eq_true, decide_eq_true_eq] at hp
  refine ⟨hp.1, fun q e => ?_⟩
  have h2 := hp.2
  rw [e] at h2
  simpa using h2
theorem last_cases {α : Type} (pre : List α) : pre = [] ∨ ∃ q, pre.getLast? = some q := by
  cases e : pre.getLast? with
  | none => exact .inl (no_last e)
  | some q => exact .inr ⟨q, rfl⟩
end Go.Proofs.Ytomdjipejoafgaa.Mem
end
section
namespace Go.Proofs.Ytomdjipejoafgaa.Mem
open Go.RowKit Go.Proofs.Ytomdjipejoafgaa.P Go.Proofs.YtomdjipejoafgaaW.PrintWords Go.Proofs.YtomdjipejoafgaaW.PrintLast Go.Proofs.YtomdjipejoafgaaW.PrintMore
open Go.Proofs.Ytomdjipejoafgaa.Pl Go.Proofs.Ytomdjipejoafgaa.EvN Go.Proofs.Ytomdjipejoafgaa.Lp Go.Proofs.Ytomdjipejoafgaa.Sets
set_option linter.unusedSimpArgs false
set_option linter.unusedVariables false
theorem group_f (l : List Int) (many : Int) (hl : l.length ≤ 4611686018427387904) : Cm (fun k => spec_l6Group.f k l many) (members many l) := by
  unfold spec_l6Group.f
  have := all_cm (L := fun k i => spec_l6Group.l0 k l many l (l.length : Int) i) l (rises many) (fin := true) (no := false) ?_ ?_ ?_
  · exact cm_val this (if_self _)
  · intro pre h t e hlt hp v hv
    obtain ⟨⟨h0, h1⟩, h2⟩ := rises_yes hp
    refine cm_step (fun k => by rw [spec_l6Group.l0]) ?_
    simp only [rd_at e, wrap_len hlt hl]
    refine cm_yes (by omega) (cm_yes (by omega) (cm_yes (by omega) (cm_no (by omega) (cm_no (by omega) ?_))))
    rcases last_cases pre with rfl | ⟨q, hq⟩
    · exact cm_no (by simp) hv
    · obtain ⟨h3, h4⟩ := rd_last e hq
      have h5 := h2 q hq
      rw [wrap_less h3 (by omega), h4]
      repeat (first | assumption | exact cm_now (fun _ => rfl) | refine cm_yes (by first | omega | assumption | (simp; done) | (simp; omega)) ?_ | refine cm_no (by first | omega | assumption | (simp; done) | (simp; omega)) ?_)
  · intro pre h t e hlt hp
    refine cm_step (fun k => by rw [spec_l6Group.l0]) ?_
    simp only [rd_at e, wrap_len hlt hl]
    refine cm_yes (by omega) (cm_yes (by omega) (cm_yes (by omega) ?_))
    refine cm_if (fun _ => cm_now fun _ => rfl) (fun c0 => cm_if (fun _ => cm_now fun _ => rfl) (fun c1 => ?_))
    obtain ⟨q, hq, h5⟩ := rises_no hp (by omega) (by omega)
    obtain ⟨h3, h4⟩ := rd_last e hq
    rw [wrap_less h3 (by omega), h4]
    repeat (first | assumption | exact cm_now (fun _ => rfl) | refine cm_yes (by first | omega | assumption | (simp; done) | (simp; omega)) ?_ | refine cm_no (by first | omega | assumption | (simp; done) | (simp; omega)) ?_)
  · intro _
    refine cm_step (fun k => by rw [spec_l6Group.l0]) ?_
    repeat (first | assumption | exact cm_now (fun _ => rfl) | refine cm_yes (by first | omega | assumption | (simp; done) | (simp; omega)) ?_ | refine cm_no (by first | omega | assumption | (simp; done) | (simp; omega)) ?_)
theorem areMembers_f (l : List Int) (many : Int) (hl : l.length ≤ 4611686018427387904) (hm : 0 ≤ many ∧ many ≤ 4611686018427387904) : Cm (fun k => impl_areMembers.f k l many) (members many l) := by
  have hw : wrap64 (many - 1) = many - 1 := wrap_in (by omega) (by omega)
  unfold impl_areMembers.f
  have := all_cm (L := fun k i => impl_areMembers.l0 k l many l (l.length : Int) i) l (rises many) (fin := true) (no := false) ?_ ?_ ?_
  · exact cm_val this (if_self _)
  · intro pre h t e hlt hp v hv
    obtain ⟨⟨h0, h1⟩, h2⟩ := rises_yes hp
    refine cm_step (fun k => by rw [impl_areMembers.l0]) ?_
    simp only [rd_at e, wrap_len hlt hl, hw]
    refine cm_yes (by omega) (cm_yes (by omega) (cm_yes (by omega) (cm_bind (cm_now fun _ => in_f _ _ _) (cm_yes (by simp; omega) ?_))))
    rcases last_cases pre with rfl | ⟨q, hq⟩
    · exact cm_no (by simp) hv
    · obtain ⟨h3, h4⟩ := rd_last e hq
      have h5 := h2 q hq
      rw [wrap_less h3 (by omega), h4]
      repeat (first | assumption | exact cm_now (fun _ => rfl) | refine cm_yes (by first | omega | assumption | (simp; done) | (simp; omega)) ?_ | refine cm_no (by first | omega | assumption | (simp; done) | (simp; omega)) ?_)
  · intro pre h t e hlt hp
    refine cm_step (fun k => by rw [impl_areMembers.l0]) ?_
    simp only [rd_at e, wrap_len hlt hl, hw]
    refine cm_yes (by omega) (cm_yes (by omega) (cm_yes (by omega) (cm_bind (cm_now fun _ => in_f _ _ _) ?_)))
    refine cm_if (fun c0 => ?_) (fun _ => cm_now fun _ => rfl)
    simp only [decide_eq_true_eq] at c0
    obtain ⟨q, hq, h5⟩ := rises_no hp (by omega) (by omega)
    obtain ⟨h3, h4⟩ := rd_last e hq
    rw [wrap_less h3 (by omega), h4]
    repeat (first | assumption | exact cm_now (fun _ => rfl) | refine cm_yes (by first | omega | assumption | (simp; done) | (simp; omega)) ?_ | refine cm_no (by first | omega | assumption | (simp; done) | (simp; omega)) ?_)
  · intro _
    refine cm_step (fun k => by rw [impl_areMembers.l0]) ?_
    repeat (first | assumption | exact cm_now (fun _ => rfl) | refine cm_yes (by first | omega | assumption | (simp; done) | (simp; omega)) ?_ | refine cm_no (by first | omega | assumption | (simp; done) | (simp; omega)) ?_)
end Go.Proofs.Ytomdjipejoafgaa.Mem
end
section
namespace Go.Proofs.Ytomdjipejoafgaa.Elect
open Go.RowKit Go.Proofs.Ytomdjipejoafgaa.P Go.Proofs.YtomdjipejoafgaaW.PrintWords Go.Proofs.YtomdjipejoafgaaW.PrintLast Go.Proofs.YtomdjipejoafgaaW.PrintMore
open Go.Proofs.Ytomdjipejoafgaa.Pl Go.Proofs.Ytomdjipejoafgaa.EvN Go.Proofs.Ytomdjipejoafgaa.Lp Go.Proofs.Ytomdjipejoafgaa.Sets Go.Proofs.Ytomdjipejoafgaa.Mem Go.Proofs.Ytomdjipejoafgaa.Hg
set_option linter.unusedSimpArgs false
set_option linter.unusedVariables false
def ent1 (pre : List Int) (h : Int) : Bool := decide (0 ≤ h ∧ h ≤ 100) && (match pre.getLast? with | some q => decide (q ≤ h) | none => true)
def goodEntries (l : List Int) : Bool := okFrom ent1 [] l && decide (l.length ≤ 30)
theorem ent_yes {pre : List Int} {h : Int} (hp : ent1 pre h = true) : (0 ≤ h ∧ h ≤ 100) ∧ ∀ q, pre.getLast? = some q → q ≤ h := by
  unfold ent1 at hp
  simp only [Bool.and_eq_true, decide_eq_true_eq] at hp
  refine ⟨hp.1, fun q e => ?_⟩
  have h2 := hp.2
  rw [e] at h2
  simpa using h2
theorem ent_no {pre : List Int} {h : Int} (hp : ent1 pre h = false) (h0 : 0 ≤ h ∧ h ≤ 100) : ∃ q, pre.getLast? = some q ∧ h < q := by
  unfold ent1 at hp
  cases e : pre.getLast? with
  | none => rw [e] at hp; simp at hp; omega
  | some q =>
    rw [e] at hp
    simp at hp
    exact ⟨q, rfl, by omega⟩
theorem specEntries_f (l : List Int) (hl : l.length ≤ 4611686018427387904) : Cm (fun k => spec_GoodEntries.f k l) (goodEntries l) := by
  unfold spec_GoodEntries.f
  refine cm_val (all_cm (L := fun k i => spec_GoodEntries.l0 k l l (l.length : Int) i) l ent1 (fin := decide (l.length ≤ 30)) (no := false) ?_ ?_ ?_) ?_
  · intro pre h t e hlt hp v hv
    obtain ⟨h0, h2⟩ := ent_yes hp
    refine cm_step (fun k => by rw [spec_GoodEntries.l0]) ?_
    simp only [rd_at e, wrap_len hlt hl]
    refine cm_yes (by omega) (cm_yes (by omega) (cm_yes (by omega) (cm_bind (cm_now fun _ => l1In_f _ _ _) (cm_yes (by simp [h0]) ?_))))
    rcases last_cases pre with rfl | ⟨q, hq⟩
    · exact cm_no (by simp) hv
    · obtain ⟨h3, h4⟩ := rd_last e hq
      have h5 := h2 q hq
      rw [wrap_less h3 (by omega), h4]
      exact cm_yes (by omega) (cm_yes (by omega) (cm_yes (by omega) (cm_no (by omega) hv)))
  · intro pre h t e hlt hp
    refine cm_step (fun k => by rw [spec_GoodEntries.l0]) ?_
    simp only [rd_at e, wrap_len hlt hl]
    refine cm_yes (by omega) (cm_yes (by omega) (cm_yes (by omega) (cm_bind (cm_now fun _ => l1In_f _ _ _) (cm_if (fun c0 => ?_) (fun _ => cm_now fun _ => rfl)))))
    simp only [decide_eq_true_eq] at c0
    obtain ⟨q, hq, h5⟩ := ent_no hp c0
    obtain ⟨h3, h4⟩ := rd_last e hq
    rw [wrap_less h3 (by omega), h4]
    exact cm_yes (by omega) (cm_yes (by omega) (cm_yes (by omega) (cm_yes (by omega) (cm_now fun _ => rfl))))
  · intro _
    refine cm_step (fun k => by rw [spec_GoodEntries.l0]) ?_
    exact cm_no (by omega) (cm_now fun _ => by congr 1; rw [decide_eq_decide]; omega)
  · unfold goodEntries
    cases okFrom ent1 [] l <;> simp
theorem areEntries_f (l : List Int) (hl : l.length ≤ 4611686018427387904) : Cm (fun k => impl_areEntries.f k l) (goodEntries l) := by
  unfold impl_areEntries.f
  refine cm_val (all_cm (L := fun k i => impl_areEntries.l0 k l l (l.length : Int) i) l ent1 (fin := decide (l.length ≤ 30)) (no := false) ?_ ?_ ?_) ?_
  · intro pre h t e hlt hp v hv
    obtain ⟨h0, h2⟩ := ent_yes hp
    refine cm_step (fun k => by rw [impl_areEntries.l0]) ?_
    simp only [rd_at e, wrap_len hlt hl]
    refine cm_yes (by omega) (cm_yes (by omega) (cm_yes (by omega) (cm_bind (cm_now fun _ => in_f _ _ _) (cm_yes (by simp [h0]) ?_))))
    rcases last_cases pre with rfl | ⟨q, hq⟩
    · exact cm_no (by simp) hv
    · obtain ⟨h3, h4⟩ := rd_last e hq
      have h5 := h2 q hq
      rw [wrap_less h3 (by omega), h4]
      exact cm_yes (by omega) (cm_yes (by omega) (cm_yes (by omega) (cm_no (by omega) hv)))
  · intro pre h t e hlt hp
    refine cm_step (fun k => by rw [impl_areEntries.l0]) ?_
    simp only [rd_at e, wrap_len hlt hl]
    refine cm_yes (by omega) (cm_yes (by omega) (cm_yes (by omega) (cm_bind (cm_now fun _ => in_f _ _ _) (cm_if (fun c0 => ?_) (fun _ => cm_now fun _ => rfl)))))
    simp only [decide_eq_true_eq] at c0
    obtain ⟨q, hq, h5⟩ := ent_no hp c0
    obtain ⟨h3, h4⟩ := rd_last e hq
    rw [wrap_less h3 (by omega), h4]
    exact cm_yes (by omega) (cm_yes (by omega) (cm_yes (by omega) (cm_yes (by omega) (cm_now fun _ => rfl))))
  · intro _
    refine cm_step (fun k => by rw [impl_areEntries.l0]) ?_
    exact cm_no (by omega) (cm_now fun _ => by congr 1; rw [decide_eq_decide]; omega)
  · unfold goodEntries
    cases okFrom ent1 [] l <;> simp
def heard (n : Nat) (b2 b3 : Bool) (l : List Int) : Bool := if (b2 || b3) = true then members (n : Int) l else decide (l.length = 0)
def goodServer (n : Nat) (s : S108) : Bool := decide ((0 ≤ s.f0 ∧ s.f0 ≤ 100) ∧ (-1 ≤ s.f1 ∧ s.f1 < (n : Int))) && !(s.f2 && s.f3) && goodEntries s.f5 && heard n s.f2 s.f3 s.f4
def said (b3 : Bool) (f4 f5 : Int) (b6 : Bool) : Bool := if b3 = true then !b6 && decide ((-1 ≤ f4 ∧ f4 ≤ 100) ∧ (0 ≤ f5 ∧ f5 ≤ 30)) else decide (f4 = 0 ∧ f5 = 0)
def goodLetter (ss : List S108) (m : S111) : Bool := decide ((0 ≤ m.f0 ∧ m.f0 < (ss.length : Int)) ∧ (0 ≤ m.f1 ∧ m.f1 < (ss.length : Int)) ∧ m.f0 ≠ m.f1 ∧ (0 ≤ m.f2 ∧ m.f2 ≤ (rd_T108 ss m.f1).f0)) && said m.f3 m.f4 m.f5 m.f6
def goodVote (n : Nat) (v : S114) : Bool := decide ((0 ≤ v.f0 ∧ v.f0 ≤ 100) ∧ (0 ≤ v.f1 ∧ v.f1 < (n : Int)))
def sizesOk (x : S54) : Bool := decide ((1 ≤ x.f0.length ∧ x.f0.length ≤ 5) ∧ x.f1.length ≤ 20 ∧ x.f2.length ≤ 80)
def good (x : S54) : Bool := sizesOk x && x.f0.all (goodServer x.f0.length) && x.f1.all (goodLetter x.f0) && x.f2.all (goodVote x.f0.length)
theorem there_f (ss : List S108) (ls : List S111) (vs : List S114) (i : Int) : spec_l9There.f ss ls vs i = some (decide (0 ≤ i ∧ i < (ss.length : Int))) := by
  unfold spec_l9There.f
  by_cases h : i ≥ 0
  · rw [if_pos h]; congr 1; rw [decide_eq_decide]; omega
  · rw [if_neg h]; congr 1; symm; rw [decide_eq_false_iff_not]; omega
theorem srv_j0 (ss : List S108) (ls : List S111) (vs : List S114) (f0 f1 : Int) (b2 b3 : Bool) (f4 f5 : List Int) (h4 : f4.length ≤ 4611686018427387904) (q : Bool) : Cm (fun k => spec_l9Server.j0 k q ss ls vs f0 f1 b2 b3 f4 f5) (!q && heard ss.length b2 b3 f4) := by
  refine cm_step (fun k => by rw [spec_l9Server.j0]) ?_
  unfold heard
  refine cm_if (fun c => cm_now fun _ => by rw [c]; rfl) (fun c => cm_if (fun c2 => cm_bind (group_f f4 _ h4) (cm_now fun _ => ?_)) (fun c2 => cm_if (fun c3 => cm_bind (group_f f4 _ h4) (cm_now fun _ => ?_)) (fun c3 => cm_now fun _ => ?_)))
  · simp [c, c2]
  · simp [c, c3]
  · have e1 : q = false := by simpa using c
    have e2 : b2 = false := by simpa using c2
    have e3 : b3 = false := by simpa using c3
    subst e1 e2 e3
    congr 1
    by_cases z : f4.length = 0
    · simp [z]
    · have : ¬ (f4.length : Int) = 0 := by omega
      simp [z, this]
theorem server_f (ss : List S108) (ls : List S111) (vs : List S114) (s : S108) (h : smServer s) : Cm (fun k => spec_l9Server.f k ss ls vs s.f0 s.f1 s.f2 s.f3 s.f4 s.f5) (goodServer ss.length s) := by
  have h4 := h.2.2.2.2.1
  have h5 := h.2.2.2.2.2
  unfold spec_l9Server.f
  have hB : (0 ≤ s.f0 ∧ s.f0 ≤ 100) → (-1 ≤ s.f1 ∧ s.f1 < (ss.length : Int)) → Cm (fun k => if s.f2 = true then (if s.f3 = true then (spec_l9Server.j0 k true ss ls vs s.f0 s.f1 s.f2 s.f3 s.f4 s.f5) else ((spec_GoodEntries.f k s.f5).bind fun t => (spec_l9Server.j0 k (!t) ss ls vs s.f0 s.f1 s.f2 s.f3 s.f4 s.f5))) else ((spec_GoodEntries.f k s.f5).bind fun t => (spec_l9Server.j0 k (!t) ss ls vs s.f0 s.f1 s.f2 s.f3 s.f4 s.f5))) (goodServer ss.length s) := by
    intro c d
    have e1 : decide ((0 ≤ s.f0 ∧ s.f0 ≤ 100) ∧ (-1 ≤ s.f1 ∧ s.f1 < (ss.length : Int))) = true := decide_eq_true ⟨c, d⟩
    unfold goodServer
    rw [e1]
    refine cm_if (fun b2 => cm_if (fun b3 => cm_val (srv_j0 ss ls vs _ _ _ _ _ _ h4 _) ?_) (fun b3 => cm_bind (specEntries_f s.f5 h5) (cm_val (srv_j0 ss ls vs _ _ _ _ _ _ h4 _) ?_))) (fun b2 => cm_bind (specEntries_f s.f5 h5) (cm_val (srv_j0 ss ls vs _ _ _ _ _ _ h4 _) ?_))
    · rw [b2, b3]; rfl
    · have b3' : s.f3 = false := by simpa using b3
      rw [b2, b3', Bool.not_not]; rfl
    · have b2' : s.f2 = false := by simpa using b2
      rw [b2', Bool.not_not]; rfl
  have hno : ¬ ((0 ≤ s.f0 ∧ s.f0 ≤ 100) ∧ (-1 ≤ s.f1 ∧ s.f1 < (ss.length : Int))) → Cm (fun k => spec_l9Server.j0 k true ss ls vs s.f0 s.f1 s.f2 s.f3 s.f4 s.f5) (goodServer ss.length s) := by
    intro z
    refine cm_val (srv_j0 ss ls vs _ _ _ _ _ _ h4 _) ?_
    unfold goodServer
    rw [decide_eq_false z]; rfl
  refine cm_bind (cm_now fun _ => l1In_f _ _ _) (cm_if (fun c => cm_if (fun c2 => ?_) (fun c2 => cm_bind (cm_now fun _ => there_f _ _ _ _) (cm_if (fun c3 => ?_) (fun c3 => hno ?_)))) (fun c => hno ?_))
  · simp only [decide_eq_true_eq] at c
    exact hB c (by omega)
  · simp only [decide_eq_true_eq] at c c3
    exact hB c (by omega)
  · simp only [decide_eq_true_eq] at c3
    omega
  · simp only [decide_eq_true_eq] at c
    exact fun z => c z.1
theorem let_j0 (f0 f1 f2 : Int) (b3 : Bool) (f4 f5 : Int) (b6 : Bool) (q : Bool) : Cm (fun k => spec_l9Letter.j0 k q f0 f1 f2 b3 f4 f5 b6) (!q && said b3 f4 f5 b6) := by
  refine cm_step (fun k => by rw [spec_l9Letter.j0]) ?_
  unfold said
  refine cm_if (fun c => cm_now fun _ => by rw [c]; rfl) (fun c => cm_if (fun c2 => cm_if (fun c3 => cm_now fun _ => ?_) (fun c3 => cm_bind (cm_now fun _ => l1In_f _ _ _) (cm_if (fun c4 => cm_bind (cm_now fun _ => l1In_f _ _ _) (cm_now fun _ => ?_)) (fun c4 => cm_now fun _ => ?_)))) (fun c2 => cm_if (fun c3 => cm_now fun _ => ?_) (fun c3 => cm_now fun _ => ?_)))
  · simp [c, c2, c3]
  · simp only [decide_eq_true_eq] at c4
    simp [c, c2, c3, c4]
  · simp only [decide_eq_true_eq] at c4
    simp [c, c2, c3, c4]
  · by_cases z : f5 = 0 <;> simp [c, c2, c3, z]
  · simp [c, c2, c3]
theorem letter_f (ss : List S108) (ls : List S111) (vs : List S114) (m : S111) : Cm (fun k => spec_l9Letter.f k ss ls vs m.f0 m.f1 m.f2 m.f3 m.f4 m.f5 m.f6) (goodLetter ss m) := by
  unfold spec_l9Letter.f goodLetter
  refine cm_bind (cm_now fun _ => there_f _ _ _ _) (cm_if (fun c => cm_bind (cm_now fun _ => there_f _ _ _ _) (cm_if (fun c2 => cm_if (fun c3 => cm_val (let_j0 _ _ _ _ _ _ _ _) ?_) (fun c3 => ?_)) (fun c2 => cm_val (let_j0 _ _ _ _ _ _ _ _) ?_))) (fun c => cm_val (let_j0 _ _ _ _ _ _ _ _) ?_))
  · rw [decide_eq_false (fun z => z.2.2.1 c3)]; rfl
  · simp only [decide_eq_true_eq] at c c2
    refine cm_yes c2.1 (cm_yes c2.2 (cm_bind (cm_now fun _ => l1In_f _ _ _) (cm_val (let_j0 _ _ _ _ _ _ _ _) ?_)))
    rw [Bool.not_not]
    congr 1
    rw [decide_eq_decide]
    exact ⟨fun z => ⟨c, c2, c3, z⟩, fun z => z.2.2.2⟩
  · simp only [decide_eq_true_eq] at c2
    rw [decide_eq_false (fun z => c2 z.2.1)]; rfl
  · simp only [decide_eq_true_eq] at c
    rw [decide_eq_false (fun z => c z.1)]; rfl
theorem spec_f (x : S54) (h : smElection x) : Cm (fun k => spec_GoodElection.f k x.f0 x.f1 x.f2) (good x) := by
  obtain ⟨⟨h0, h1⟩, ⟨h2, h3⟩, ⟨h4, h5⟩⟩ := h
  unfold spec_GoodElection.f
  have hv : Cm (fun k => spec_GoodElection.l2 k x.f2 (x.f2.length : Int) 0 x.f0 x.f1 x.f2) (sizesOk x && x.f2.all (goodVote x.f0.length)) := by
    refine cm_val (every_cm (L := fun k i => spec_GoodElection.l2 k x.f2 (x.f2.length : Int) i x.f0 x.f1 x.f2) x.f2 (goodVote x.f0.length) (fin := sizesOk x) (no := false) ?_ ?_ ?_) ?_
    · intro pre h t e hlt hp v hv
      simp only [goodVote, decide_eq_true_eq] at hp
      refine cm_step (fun k => by rw [spec_GoodElection.l2]) ?_
      simp only [rdT114_at e, wrap_len hlt h4]
      exact cm_yes (by omega) (cm_yes (by omega) (cm_yes (by omega) (cm_bind (cm_now fun _ => l1In_f _ _ _) (cm_yes (by simp [hp.1]) (cm_bind (cm_now fun _ => there_f _ _ _ _) (cm_yes (by simp [hp.2]) hv))))))
    · intro pre h t e hlt hp
      simp only [goodVote, decide_eq_false_iff_not] at hp
      refine cm_step (fun k => by rw [spec_GoodElection.l2]) ?_
      simp only [rdT114_at e, wrap_len hlt h4]
      refine cm_yes (by omega) (cm_yes (by omega) (cm_yes (by omega) (cm_bind (cm_now fun _ => l1In_f _ _ _) (cm_if (fun c => cm_bind (cm_now fun _ => there_f _ _ _ _) (cm_no ?_ (cm_now fun _ => rfl))) (fun _ => cm_now fun _ => rfl)))))
      simp only [decide_eq_true_eq] at c ⊢
      exact fun z => hp ⟨c, z⟩
    · intro _
      refine cm_step (fun k => by rw [spec_GoodElection.l2]) ?_
      unfold sizesOk
      refine cm_no (by omega) (cm_bind (cm_now fun _ => l1In_f _ _ _) (cm_if (fun c => cm_if (fun c2 => cm_now fun _ => ?_) (fun c2 => cm_now fun _ => ?_)) (fun c => cm_now fun _ => ?_)))
      · simp only [decide_eq_true_eq] at c
        congr 1
        rw [decide_eq_decide]
        omega
      · congr 1
        symm
        rw [decide_eq_false_iff_not]
        omega
      · simp only [decide_eq_true_eq] at c
        congr 1
        symm
        rw [decide_eq_false_iff_not]
        omega
    · cases x.f2.all (goodVote x.f0.length) <;> simp
  have hl : Cm (fun k => spec_GoodElection.l1 k x.f1 (x.f1.length : Int) 0 x.f0 x.f1 x.f2) (sizesOk x && x.f2.all (goodVote x.f0.length) && x.f1.all (goodLetter x.f0)) := by
    refine cm_val (every_cm (L := fun k i => spec_GoodElection.l1 k x.f1 (x.f1.length : Int) i x.f0 x.f1 x.f2) x.f1 (goodLetter x.f0) (fin := sizesOk x && x.f2.all (goodVote x.f0.length)) (no := false) ?_ ?_ ?_) ?_
    · intro pre h t e hlt hp v hv
      refine cm_step (fun k => by rw [spec_GoodElection.l1]) ?_
      simp only [rdT111_at e, wrap_len hlt h2]
      exact cm_yes (by omega) (cm_yes (by omega) (cm_yes (by omega) (cm_bind (letter_f x.f0 x.f1 x.f2 h) (cm_yes hp hv))))
    · intro pre h t e hlt hp
      refine cm_step (fun k => by rw [spec_GoodElection.l1]) ?_
      simp only [rdT111_at e, wrap_len hlt h2]
      exact cm_yes (by omega) (cm_yes (by omega) (cm_yes (by omega) (cm_bind (letter_f x.f0 x.f1 x.f2 h) (cm_no (by simp [hp]) (cm_now fun _ => rfl)))))
    · intro _
      refine cm_step (fun k => by rw [spec_GoodElection.l1]) ?_
      exact cm_no (by omega) hv
    · cases x.f1.all (goodLetter x.f0) <;> simp
  refine cm_val (every_cm (L := fun k i => spec_GoodElection.l0 k x.f0 (x.f0.length : Int) i x.f0 x.f1 x.f2) x.f0 (goodServer x.f0.length) (fin := sizesOk x && x.f2.all (goodVote x.f0.length) && x.f1.all (goodLetter x.f0)) (no := false) ?_ ?_ ?_) ?_
  · intro pre h t e hlt hp v hv
    have hh := h1 h (by rw [← e]; simp)
    refine cm_step (fun k => by rw [spec_GoodElection.l0]) ?_
    simp only [rdT108_at e, wrap_len hlt h0]
    exact cm_yes (by omega) (cm_yes (by omega) (cm_yes (by omega) (cm_bind (server_f x.f0 x.f1 x.f2 h hh) (cm_yes hp hv))))
  · intro pre h t e hlt hp
    have hh := h1 h (by rw [← e]; simp)
    refine cm_step (fun k => by rw [spec_GoodElection.l0]) ?_
    simp only [rdT108_at e, wrap_len hlt h0]
    exact cm_yes (by omega) (cm_yes (by omega) (cm_yes (by omega) (cm_bind (server_f x.f0 x.f1 x.f2 h hh) (cm_no (by simp [hp]) (cm_now fun _ => rfl)))))
  · intro _
    refine cm_step (fun k => by rw [spec_GoodElection.l0]) ?_
    exact cm_no (by omega) hl
  · unfold good
    cases x.f0.all (goodServer x.f0.length) <;> cases x.f1.all (goodLetter x.f0) <;> simp
theorem badVote_f (n : Nat) (hn : 1 ≤ n ∧ n ≤ 5) (v : S114) : impl_isElection_1.f v.f0 v.f1 (n : Int) = some (!goodVote n v) := by
  have hw : wrap64 ((n : Int) - 1) = (n : Int) - 1 := wrap_in (by omega) (by omega)
  unfold impl_isElection_1.f goodVote
  rw [in_f, hw, in_f]
  simp only [Option.bind_some]
  by_cases c : 0 ≤ v.f0 ∧ v.f0 ≤ 100
  · rw [if_pos (by simpa using c)]
    congr 2
    rw [decide_eq_decide]
    omega
  · rw [if_neg (by simpa using c), decide_eq_false (fun z => c z.1)]; rfl
theorem anyVote_f (n : Nat) (hn : 1 ≤ n ∧ n ≤ 5) (l : List S114) (hl : l.length ≤ 4611686018427387904) : Cm (fun k => impl_Vote_of_impl_isElection_1.f k l (n : Int)) (!l.all (goodVote n)) := by
  unfold impl_Vote_of_impl_isElection_1.f impl_Vote_of_impl_isElection_1_100001.f
  refine cm_bind (t := foundAt (fun e => !goodVote n e) (fun i _ => (i : Int)) (-1) 0 l) ?_ (cm_now fun _ => ?_)
  · refine find_cm (L := fun k i => impl_Vote_of_impl_isElection_1_100001.l0 k l (l.length : Int) i (n : Int)) l (fun e => !goodVote n e) (fun i _ => (i : Int)) (none_ := (-1 : Int)) ?_ ?_ ?_
    · intro pre h t e hlt hp v hv
      refine cm_step (fun k => by rw [impl_Vote_of_impl_isElection_1_100001.l0]) ?_
      simp only [rdT114_at e, wrap_len hlt hl]
      exact cm_yes (by omega) (cm_yes (by omega) (cm_yes (by omega) (cm_bind (cm_now fun _ => badVote_f n hn h) (cm_no (by simp [hp]) hv))))
    · intro pre h t e hlt hp
      refine cm_step (fun k => by rw [impl_Vote_of_impl_isElection_1_100001.l0]) ?_
      simp only [rdT114_at e, wrap_len hlt hl]
      exact cm_yes (by omega) (cm_yes (by omega) (cm_yes (by omega) (cm_bind (cm_now fun _ => badVote_f n hn h) (cm_yes hp (cm_now fun _ => rfl)))))
    · refine cm_step (fun k => by rw [impl_Vote_of_impl_isElection_1_100001.l0]) ?_
      exact cm_no (by omega) (cm_now fun _ => rfl)
  · rw [found_any, ← not_any (fun e => !goodVote n e) (goodVote n) l (fun _ _ => rfl), Bool.not_not]
theorem impl_letters (ss : List S108) (ls : List S111) (vs : List S114) (hn : 1 ≤ ss.length ∧ ss.length ≤ 5) (hl : ls.length ≤ 4611686018427387904) (hl2 : vs.length ≤ 4611686018427387904) : Cm (fun k => impl_isElection.l1 k ls (ls.length : Int) 0 ss ls vs (ss.length : Int)) (ls.all (goodLetter ss) && vs.all (goodVote ss.length)) := by
  have hw : wrap64 ((ss.length : Int) - 1) = (ss.length : Int) - 1 := wrap_in (by omega) (by omega)
  have key : ∀ (pre : List S111) (h : S111) (t : List S111), pre ++ h :: t = ls → pre.length < ls.length → ∀ v : Bool, (goodLetter ss h = true → Cm (fun k => impl_isElection.l1 k ls (ls.length : Int) ((pre.length + 1 : Nat) : Int) ss ls vs (ss.length : Int)) v) → (goodLetter ss h = false → v = false) →
      Cm (fun k => impl_isElection.l1 k ls (ls.length : Int) (pre.length : Int) ss ls vs (ss.length : Int)) v := by
    intro pre h t e hlt v hv hno
    have hj : ∀ q : Bool, goodLetter ss h = (!q && said h.f3 h.f4 h.f5 h.f6) → Cm (fun k => impl_isElection.j3 k ls (ls.length : Int) (pre.length : Int) q ss ls vs (ss.length : Int) h.f0 h.f1 h.f2 h.f3 h.f4 h.f5 h.f6) v := by
      intro q hq
      rw [hq] at hv hno
      unfold said at hv hno
      refine cm_step (fun k => by rw [impl_isElection.j3]) ?_
      simp only [wrap_len hlt hl]
      refine cm_if (fun c => cm_now fun _ => ?_) (fun c => cm_if (fun c2 => cm_if (fun c3 => cm_now fun _ => ?_) (fun c3 => cm_bind (cm_now fun _ => in_f _ _ _) (cm_if (fun c4 => cm_bind (cm_now fun _ => in_f _ _ _) (cm_if (fun c5 => hv ?_) (fun c5 => cm_now fun _ => ?_))) (fun c4 => cm_now fun _ => ?_)))) (fun c2 => cm_if (fun c3 => cm_if (fun c4 => hv ?_) (fun c4 => cm_now fun _ => ?_)) (fun c3 => cm_now fun _ => ?_)))
      · rw [hno (by simp [c])]
      · rw [hno (by simp [c2, c3])]
      · simp only [decide_eq_true_eq] at c4 c5
        simp [c, c2, c3, c4, c5]
      · simp only [decide_eq_true_eq] at c4 c5
        rw [hno (by simp [c2, c3, c4, c5])]
      · simp only [decide_eq_true_eq] at c4
        rw [hno (by simp [c2, c3, c4])]
      · simp [c, c2, c3, c4]
      · rw [hno (by simp [c2, c3, c4])]
      · rw [hno (by simp [c2, c3])]
    refine cm_step (fun k => by rw [impl_isElection.l1]) ?_
    simp only [rdT111_at e, hw]
    refine cm_yes (by omega) (cm_yes (by omega) (cm_yes (by omega) (cm_bind (cm_now fun _ => in_f _ _ _) (cm_if (fun c => cm_bind (cm_now fun _ => in_f _ _ _) (cm_if (fun c2 => cm_if (fun c3 => hj _ ?_) (fun c3 => ?_)) (fun c2 => hj _ ?_))) (fun c => hj _ ?_)))))
    · unfold goodLetter
      rw [decide_eq_false (fun z => z.2.2.1 c3)]; rfl
    · simp only [decide_eq_true_eq] at c c2
      refine cm_yes c2.1 (cm_yes (by omega) (cm_bind (cm_now fun _ => in_f _ _ _) (hj _ ?_)))
      unfold goodLetter
      rw [Bool.not_not]
      congr 1
      rw [decide_eq_decide]
      exact ⟨fun z => z.2.2.2, fun z => ⟨by omega, by omega, c3, z⟩⟩
    · simp only [decide_eq_true_eq] at c2
      unfold goodLetter
      rw [decide_eq_false (fun z => c2 (by omega))]; rfl
    · simp only [decide_eq_true_eq] at c
      unfold goodLetter
      rw [decide_eq_false (fun z => c (by omega))]; rfl
  refine cm_val (every_cm (L := fun k i => impl_isElection.l1 k ls (ls.length : Int) i ss ls vs (ss.length : Int)) ls (goodLetter ss) (fin := vs.all (goodVote ss.length)) (no := false) ?_ ?_ ?_) ?_
  · intro pre h t e hlt hp v hv
    exact key pre h t e hlt v (fun _ => hv) (by rw [hp]; simp)
  · intro pre h t e hlt hp
    exact key pre h t e hlt false (by rw [hp]; simp) (fun _ => rfl)
  · intro _
    refine cm_step (fun k => by rw [impl_isElection.l1]) ?_
    exact cm_no (by omega) (cm_bind (anyVote_f ss.length hn vs hl2) (cm_now fun _ => by rw [Bool.not_not]))
  · cases ls.all (goodLetter ss) <;> simp
theorem impl_servers (ss : List S108) (ls : List S111) (vs : List S114) (hn : 1 ≤ ss.length ∧ ss.length ≤ 5) (hs : ∀ y ∈ ss, smServer y) (hl : ls.length ≤ 4611686018427387904) (hl2 : vs.length ≤ 4611686018427387904) : Cm (fun k => impl_isElection.l0 k ss (ss.length : Int) 0 ss ls vs (ss.length : Int)) (ss.all (goodServer ss.length) && (ls.all (goodLetter ss) && vs.all (goodVote ss.length))) := by
  have h0 : ss.length ≤ 4611686018427387904 := by omega
  have hw : wrap64 ((ss.length : Int) - 1) = (ss.length : Int) - 1 := wrap_in (by omega) (by omega)
  have key : ∀ (pre : List S108) (h : S108) (t : List S108), pre ++ h :: t = ss → pre.length < ss.length → ∀ v : Bool, (goodServer ss.length h = true → Cm (fun k => impl_isElection.l0 k ss (ss.length : Int) ((pre.length + 1 : Nat) : Int) ss ls vs (ss.length : Int)) v) → (goodServer ss.length h = false → v = false) →
      Cm (fun k => impl_isElection.l0 k ss (ss.length : Int) (pre.length : Int) ss ls vs (ss.length : Int)) v := by
    intro pre h t e hlt v hv hno
    have hh := hs h (by rw [← e]; simp)
    have h4 := hh.2.2.2.2.1
    have h5 := hh.2.2.2.2.2
    have hE : ∀ g : Bool, goodServer ss.length h = (g && goodEntries h.f5) → g = true → Cm (fun k => (impl_areEntries.f k h.f5).bind fun t109 => (if t109 = true then (impl_isElection.l0 k ss (ss.length : Int) ((pre.length + 1 : Nat) : Int) ss ls vs (ss.length : Int)) else (some false))) v := by
      intro g hg hg2
      rw [hg, hg2, Bool.true_and] at hv hno
      refine cm_bind (areEntries_f h.f5 h5) (cm_if (fun c => hv c) (fun c => cm_now fun _ => ?_))
      rw [hno (by simpa using c)]
    refine cm_step (fun k => by rw [impl_isElection.l0]) ?_
    simp only [rdT108_at e, hw, wrap_len hlt h0]
    refine cm_yes (by omega) (cm_yes (by omega) (cm_yes (by omega) (cm_bind (cm_now fun _ => in_f _ _ _) (cm_if (fun c => cm_bind (cm_now fun _ => in_f _ _ _) (cm_if (fun d => ?_) (fun d => cm_now fun _ => ?_))) (fun c => cm_now fun _ => ?_)))))
    · simp only [decide_eq_true_eq] at c d
      have e1 : decide ((0 ≤ h.f0 ∧ h.f0 ≤ 100) ∧ (-1 ≤ h.f1 ∧ h.f1 < (ss.length : Int))) = true := decide_eq_true ⟨c, by omega⟩
      have hg : goodServer ss.length h = ((!(h.f2 && h.f3) && heard ss.length h.f2 h.f3 h.f4) && goodEntries h.f5) := by
        unfold goodServer
        rw [e1, Bool.true_and, Bool.and_assoc, Bool.and_assoc, Bool.and_comm (goodEntries h.f5)]
      refine cm_if (fun b2 => cm_if (fun b3 => cm_now fun _ => ?_) (fun b3 => cm_bind (areMembers_f h.f4 _ h4 (by omega)) (cm_if (fun m => cm_yes b2 (hE _ hg ?_)) (fun m => cm_now fun _ => ?_)))) (fun b2 => cm_bind (areMembers_f h.f4 _ h4 (by omega)) (cm_if (fun m => cm_no b2 (cm_if (fun b3 => hE _ hg ?_) (fun b3 => cm_if (fun z => cm_now fun _ => ?_) (fun z => hE _ hg ?_)))) (fun m => cm_now fun _ => ?_)))
      · rw [hno (by rw [hg]; simp [b2, b3])]
      · simp [heard, b2, b3, m]
      · rw [hno (by rw [hg]; simp [heard, b2, b3, m])]
      · simp [heard, b2, b3, m]
      · have : ¬ h.f4.length = 0 := by omega
        rw [hno (by rw [hg]; simp only [heard, b2, b3, Bool.or_self]; simp; intro w; rw [w] at this; simp at this)]
      · have : h.f4.length = 0 := by omega
        simp [heard, b2, b3, this]
      · have m' : members (ss.length : Int) h.f4 = false := by simpa using m
        have b2' : h.f2 = false := by simpa using b2
        have hz : h.f4.length ≠ 0 := by
          intro z
          have : h.f4 = [] := List.length_eq_zero_iff.1 z
          rw [this] at m'
          simp [members, okFrom] at m'
        rw [hno (by rw [hg]; unfold heard; rw [b2', m', decide_eq_false hz]; cases h.f3 <;> rfl)]
    · simp only [decide_eq_true_eq] at d
      rw [hno (by unfold goodServer; rw [decide_eq_false (fun z => d (by omega))]; rfl)]
    · simp only [decide_eq_true_eq] at c
      rw [hno (by unfold goodServer; rw [decide_eq_false (fun z => c z.1)]; rfl)]
  refine cm_val (every_cm (L := fun k i => impl_isElection.l0 k ss (ss.length : Int) i ss ls vs (ss.length : Int)) ss (goodServer ss.length) (fin := ls.all (goodLetter ss) && vs.all (goodVote ss.length)) (no := false) ?_ ?_ ?_) ?_
  · intro pre h t e hlt hp v hv
    exact key pre h t e hlt v (fun _ => hv) (by rw [hp]; simp)
  · intro pre h t e hlt hp
    exact key pre h t e hlt false (by rw [hp]; simp) (fun _ => rfl)
  · intro _
    refine cm_step (fun k => by rw [impl_isElection.l0]) ?_
    exact cm_no (by omega) (impl_letters ss ls vs hn hl hl2)
  · cases ss.all (goodServer ss.length) <;> simp
theorem isElection_f (x : S54) (h : smElection x) : Cm (fun k => impl_isElection.f k x.f0 x.f1 x.f2) (good x) := by
  obtain ⟨⟨h0, h1⟩, ⟨h2, h3⟩, ⟨h4, h5⟩⟩ := h
  unfold impl_isElection.f
  have hno : sizesOk x = false → Cm (fun k => impl_isElection.j0 k true x.f0 x.f1 x.f2 (x.f0.length : Int)) (good x) := by
    intro z
    refine cm_step (fun k => by rw [impl_isElection.j0]) ?_
    refine cm_yes rfl (cm_now fun _ => ?_)
    unfold good
    rw [z]; rfl
  refine cm_bind (cm_now fun _ => in_f _ _ _) (cm_if (fun c => cm_if (fun c2 => hno ?_) (fun c2 => ?_)) (fun c => hno ?_))
  · simp only [sizesOk, decide_eq_false_iff_not]
    omega
  · simp only [decide_eq_true_eq] at c
    by_cases c3 : x.f2.length ≤ 80
    · have e1 : decide ((x.f2.length : Int) > 80) = false := by rw [decide_eq_false_iff_not]; omega
      have e2 : sizesOk x = true := by simp only [sizesOk, decide_eq_true_eq]; omega
      rw [e1]
      refine cm_step (fun k => by rw [impl_isElection.j0]) ?_
      refine cm_no (by simp) (cm_val (impl_servers x.f0 x.f1 x.f2 (by omega) h1 h2 h4) ?_)
      unfold good
      rw [e2, Bool.true_and, Bool.and_assoc]
    · have e1 : decide ((x.f2.length : Int) > 80) = true := by rw [decide_eq_true_eq]; omega
      rw [e1]
      exact hno (by simp only [sizesOk, decide_eq_false_iff_not]; omega)
  · simp only [decide_eq_true_eq] at c
    simp only [sizesOk, decide_eq_false_iff_not]
    omega
end Go.Proofs.Ytomdjipejoafgaa.Elect
end
section
namespace Go.Proofs.Ytomdjipejoafgaa.Last
open Go.RowKit Go.Proofs.Ytomdjipejoafgaa.P Go.Proofs.YtomdjipejoafgaaW.PrintWords Go.Proofs.YtomdjipejoafgaaW.PrintLast Go.Proofs.YtomdjipejoafgaaW.PrintMore
open Go.Proofs.Ytomdjipejoafgaa.Pl Go.Proofs.Ytomdjipejoafgaa.EvN Go.Proofs.Ytomdjipejoafgaa.Lp Go.Proofs.Ytomdjipejoafgaa.Hg Go.Proofs.Ytomdjipejoafgaa.Mem Go.Proofs.Ytomdjipejoafgaa.Elect
set_option linter.unusedVariables false
set_option linter.unusedSimpArgs false
def lastv (l : List Int) : Int := if l = [] then -1 else rd l ((l.length : Int) - 1)
theorem last_eq (l : List Int) (hl : l.length ≤ 4611686018427387904) : wrap64 ((l.length : Int) - 1) = (l.length : Int) - 1 := wrap_in (by omega) (by omega)
theorem lastOf_f (l : List Int) (hl : l.length ≤ 4611686018427387904) : impl_lastOf.f l = some (lastv l) := by
  unfold impl_lastOf.f lastv
  rw [last_eq l hl]
  by_cases c : l = []
  · subst c
    rfl
  · have : 0 < l.length := List.length_pos_iff.2 c
    rw [if_neg (by omega), if_pos (by omega), if_pos (by omega), if_neg c]
theorem l9Last_f (l : List Int) (hl : l.length ≤ 4611686018427387904) : spec_l9Last.f l = some (lastv l) := by
  unfold spec_l9Last.f lastv
  rw [last_eq l hl]
  by_cases c : l = []
  · subst c
    rfl
  · have : 0 < l.length := List.length_pos_iff.2 c
    rw [if_neg (by omega), if_pos (by omega), if_pos (by omega), if_neg c]
end Go.Proofs.Ytomdjipejoafgaa.Last
end
section
namespace Go.Proofs.Ytomdjipejoafgaa.Pure
open Go.RowKit Go.Proofs.Ytomdjipejoafgaa.P Go.Proofs.YtomdjipejoafgaaW.PrintWords Go.Proofs.YtomdjipejoafgaaW.PrintLast Go.Proofs.YtomdjipejoafgaaW.PrintMore
open Go.Proofs.Ytomdjipejoafgaa.Pl Go.Proofs.Ytomdjipejoafgaa.EvN Go.Proofs.Ytomdjipejoafgaa.Lp Go.Proofs.Ytomdjipejoafgaa.Hg Go.Proofs.Ytomdjipejoafgaa.Mem Go.Proofs.Ytomdjipejoafgaa.Elect Go.Proofs.Ytomdjipejoafgaa.Last
set_option linter.unusedVariables false
set_option linter.unusedSimpArgs false
def up (a b : Int) (l : List Int) : Bool := decide (a > lastv l) || (decide (a = lastv l) && decide (b ≥ (l.length : Int)))
theorem up_val (a b : Int) (l : List Int) : (if a > lastv l then some true else if a = lastv l then some (decide (b ≥ (l.length : Int))) else some false) = some (up a b l) := by
  unfold up
  by_cases c : a > lastv l
  · rw [if_pos c]; simp [c]
  · rw [if_neg c]
    by_cases d : a = lastv l
    · rw [if_pos d]; simp [d]
    · rw [if_neg d]; simp [c, d]
theorem specUp_f (a b : Int) (l : List Int) (hl : l.length ≤ 4611686018427387904) : spec_l9Up.f a b l = some (up a b l) := by
  unfold spec_l9Up.f
  rw [l9Last_f l hl, Option.bind_some, Option.bind_some]
  exact up_val a b l
theorem implUp_f (a b : Int) (l : List Int) (hl : l.length ≤ 4611686018427387904) : impl_upToDate.f a b l = some (up a b l) := by
  unfold impl_upToDate.f
  rw [lastOf_f l hl, Option.bind_some, Option.bind_some]
  exact up_val a b l
def step (own : List Int) (n : Int) (s : S108) : Int := if up (lastv own) (own.length : Int) s.f5 = true then n + 1 else n
def may (x : S54) (a : Int) : Bool × Bool := if good x = true ∧ 0 ≤ a ∧ a < (x.f0.length : Int) then (decide (wrap64 (2 * x.f0.foldl (step ((rd_T108 x.f0 a).f5)) 0) > (x.f0.length : Int)), true) else (false, false)
theorem rd108_in {rs : List S108} {i : Int} (h : 0 ≤ i ∧ i < (rs.length : Int)) : rd_T108 rs i ∈ rs := by
  unfold rd_T108
  rw [List.getD_eq_getElem?_getD, List.getElem?_eq_getElem (by omega), Option.getD_some]
  exact List.getElem_mem _
theorem spec_l (x : S54) (h : smElection x) (a : Int) (ha : 0 ≤ a ∧ a < (x.f0.length : Int)) : Cm (fun k => spec_MayLead.l0 k a 0 x.f0 (x.f0.length : Int) 0 x.f0 x.f1 x.f2) (decide (wrap64 (2 * x.f0.foldl (step ((rd_T108 x.f0 a).f5)) 0) > (x.f0.length : Int)), true) := by
  have hl := h.1.1
  have ho := (h.1.2 _ (rd108_in ha)).2.2.2.2.2
  refine fold_cm (L := fun k i s => spec_MayLead.l0 k a s x.f0 (x.f0.length : Int) i x.f0 x.f1 x.f2) x.f0 (step ((rd_T108 x.f0 a).f5)) (fun pre s => 0 ≤ s ∧ s ≤ (pre.length : Int)) 0 ⟨by omega, by simp⟩ ?_ ?_
  · intro pre y t s e hlt hs
    have hy := (h.1.2 y (by rw [← e]; simp)).2.2.2.2.2
    refine ⟨by unfold step; rw [List.length_append, List.length_singleton]; split <;> omega, fun u hu => ?_⟩
    refine cm_step (fun k => by rw [spec_MayLead.l0]) ?_
    simp only [rdT108_at e, wrap_len hlt hl]
    refine cm_yes (by omega) (cm_yes (by omega) (cm_yes (by omega) (cm_yes (by omega) (cm_yes (by omega) (cm_bind (cm_now fun _ => l9Last_f _ ho) (cm_bind (cm_now fun _ => specUp_f _ _ _ hy) (cm_if (fun c => ?_) (fun c => ?_))))))))
    · unfold step at hu
      rw [if_pos c] at hu
      rw [show wrap64 (s + 1) = s + 1 from wrap_in (by omega) (by omega)]
      exact hu
    · unfold step at hu
      rw [if_neg c] at hu
      exact hu
  · intro hs
    refine cm_step (fun k => by rw [spec_MayLead.l0]) ?_
    exact cm_no (by omega) (cm_now fun _ => rfl)
theorem impl_l (x : S54) (h : smElection x) (own : List Int) (ho : own.length ≤ 4611686018427387904) : Cm (fun k => impl_MayLead.l0 k own 0 x.f0 (x.f0.length : Int) 0 x.f0 x.f1 x.f2) (decide (wrap64 (2 * x.f0.foldl (step own) 0) > (x.f0.length : Int)), true) := by
  have hl := h.1.1
  refine fold_cm (L := fun k i s => impl_MayLead.l0 k own s x.f0 (x.f0.length : Int) i x.f0 x.f1 x.f2) x.f0 (step own) (fun pre s => 0 ≤ s ∧ s ≤ (pre.length : Int)) 0 ⟨by omega, by simp⟩ ?_ ?_
  · intro pre y t s e hlt hs
    have hy := (h.1.2 y (by rw [← e]; simp)).2.2.2.2.2
    refine ⟨by unfold step; rw [List.length_append, List.length_singleton]; split <;> omega, fun u hu => ?_⟩
    refine cm_step (fun k => by rw [impl_MayLead.l0]) ?_
    simp only [rdT108_at e, wrap_len hlt hl]
    refine cm_yes (by omega) (cm_yes (by omega) (cm_yes (by omega) (cm_bind (cm_now fun _ => lastOf_f _ ho) (cm_bind (cm_now fun _ => implUp_f _ _ _ hy) (cm_if (fun c => ?_) (fun c => ?_))))))
    · unfold step at hu
      rw [if_pos c] at hu
      rw [show wrap64 (s + 1) = s + 1 from wrap_in (by omega) (by omega)]
      exact hu
    · unfold step at hu
      rw [if_neg c] at hu
      exact hu
  · intro hs
    refine cm_step (fun k => by rw [impl_MayLead.l0]) ?_
    exact cm_no (by omega) (cm_now fun _ => rfl)
theorem specMay_f (x : S54) (h : smElection x) (a : Int) : Cm (fun k => spec_MayLead.f k x.f0 x.f1 x.f2 a) (may x a) := by
  unfold spec_MayLead.f may
  refine cm_bind (spec_f x h) (cm_if (fun c => cm_bind (cm_now fun _ => there_f _ _ _ _) ?_) (fun c => ?_))
  · by_cases d : 0 ≤ a ∧ a < (x.f0.length : Int)
    · rw [if_pos ⟨c, d⟩]
      refine cm_step (fun k => by rw [spec_MayLead.j0]) ?_
      exact cm_no (by simpa using d) (spec_l x h a d)
    · rw [if_neg (fun z => d z.2)]
      refine cm_step (fun k => by rw [spec_MayLead.j0]) ?_
      exact cm_yes (by simp; omega) (cm_now fun _ => rfl)
  · rw [if_neg (fun z => c z.1)]
    refine cm_step (fun k => by rw [spec_MayLead.j0]) ?_
    exact cm_yes rfl (cm_now fun _ => rfl)
theorem implMay_f (x : S54) (h : smElection x) (a : Int) : Cm (fun k => impl_MayLead.f k x.f0 x.f1 x.f2 a) (may x a) := by
  have hl := h.1.1
  unfold impl_MayLead.f may
  rw [show wrap64 ((x.f0.length : Int) - 1) = (x.f0.length : Int) - 1 from wrap_in (by omega) (by omega)]
  refine cm_bind (isElection_f x h) (cm_if (fun c => cm_bind (cm_now fun _ => in_f _ _ _) ?_) (fun c => ?_))
  · by_cases d : 0 ≤ a ∧ a < (x.f0.length : Int)
    · rw [if_pos ⟨c, d⟩]
      refine cm_step (fun k => by rw [impl_MayLead.j0]) ?_
      exact cm_no (by simp; omega) (cm_yes d.1 (cm_yes d.2 (impl_l x h _ (h.1.2 _ (rd108_in d)).2.2.2.2.2)))
    · rw [if_neg (fun z => d z.2)]
      refine cm_step (fun k => by rw [impl_MayLead.j0]) ?_
      exact cm_yes (by simp; omega) (cm_now fun _ => rfl)
  · rw [if_neg (fun z => c z.1)]
    refine cm_step (fun k => by rw [impl_MayLead.j0]) ?_
    exact cm_yes rfl (cm_now fun _ => rfl)
theorem FnExactMayLead : laws_FnExactMayLead.Pure := by
  intro x a1 h h1
  obtain ⟨v, hv⟩ := szElection_ex x h 1048576
  have hs := sm_cElection x h
  refine cm_ex (v := true) ?_
  unfold laws_FnExactMayLead.f
  refine cm_bind hv (cm_if (fun _ => cm_now fun _ => rfl) (fun _ => ?_))
  refine cm_bind (toElection_f x h) (cm_bind (specMay_f _ hs a1) (cm_bind (toElection_f x h) (cm_bind (implMay_f _ hs a1) (cm_no (by simp) ?_))))
  simp only [bne_self_eq_false]
  refine cm_step (fun k => by rw [laws_FnExactMayLead.j0]) ?_
  exact cm_no (by simp) (cm_bind (toElection_f x h) (cm_bind (eqElection_same _ hs) (cm_yes rfl (cm_now fun _ => rfl))))
end Go.Proofs.Ytomdjipejoafgaa.Pure
end
