-- Written by programs of this session (wip/prune.py, wip/xp.py), out of the translation and the printed words; what the law does not reach is left out. Not trusted: Lean checks it.
import Derived.Test.YtomdjipejoafgaaZXEntryAtW0
import Derived.Test.YtomdjipejoafgaaZXEntryAtPx3
import Derived.Test.YtomdjipejoafgaaZXEntryAtPx5
import Derived.Test.YtomdjipejoafgaaZXEntryAtPx0
import Derived.Test.YtomdjipejoafgaaZXEntryAtPx2
import Derived.Test.YtomdjipejoafgaaZXEntryAtPx6
import Derived.Test.YtomdjipejoafgaaZXEntryAtPx1
import Derived.Test.YtomdjipejoafgaaZXEntryAtPx23
import Derived.Test.YtomdjipejoafgaaZXEntryAtPx24
import Derived.Test.YtomdjipejoafgaaZXEntryAtPx25
import Derived.Test.YtomdjipejoafgaaZXEntryAtPxok
import Derived.Laws.BitsAllLaws
import Derived.Test.YtomdjipejoafgaaZXEntryAtPx10
import Derived.Test.YtomdjipejoafgaaZXEntryAtPx4
import Derived.Test.YtomdjipejoafgaaZXEntryAtPx7
import Derived.Test.YtomdjipejoafgaaZXEntryAtPx8
import Derived.Test.YtomdjipejoafgaaZXEntryAtPx9
section
namespace Go.Proofs.Ytomdjipejoafgaa.Pl
open Go.RowKit Go.Proofs.YtomdjipejoafgaaW.PrintWords Go.Proofs.YtomdjipejoafgaaW.PrintLast Go.Proofs.YtomdjipejoafgaaW.PrintMore
theorem wrap_in {x : Int} (h0 : -9223372036854775808 ≤ x) (h1 : x ≤ 9223372036854775807) : wrap64 x = x := by
  unfold wrap64
  omega
theorem wrap_len {n m : Nat} (h : n < m) (hm : m ≤ 4611686018427387904) : wrap64 ((n : Int) + 1) = ((n + 1 : Nat) : Int) := by
  rw [wrap_in (by omega) (by omega)]
  omega
theorem round {k d : Nat} (h : d < k) : ∃ m, k = m + 1 := ⟨k - 1, by omega⟩
theorem rd_mid (pre : List Int) (h : Int) (t : List Int) : rd (pre ++ h :: t) (pre.length : Int) = h := by
  simp [rd]
theorem rd_at {pre t l : List Int} {h : Int} (e : pre ++ h :: t = l) : rd l (pre.length : Int) = h := by
  rw [← e]; exact rd_mid pre h t
theorem len_mid {α : Type} {pre t : List α} {h : α} {l : List α} (e : pre ++ h :: t = l) : pre.length < l.length := by
  rw [← e]; simp
theorem len_end {α : Type} {pre l : List α} (e : pre ++ [] = l) : pre.length = l.length := by
  rw [← e]; simp
theorem app_mid {α : Type} {pre t : List α} {h : α} {l : List α} (e : pre ++ h :: t = l) : (pre ++ [h]) ++ t = l := by
  rw [← e]; simp
theorem len_one {α : Type} (pre : List α) (h : α) : (pre ++ [h]).length = pre.length + 1 := by simp
theorem no_last {α : Type} {pre : List α} (h : pre.getLast? = none) : pre = [] := by
  simpa using h
end Go.Proofs.Ytomdjipejoafgaa.Pl
end
section
namespace Go.Proofs.Ytomdjipejoafgaa.EvN
def Cm {α : Type} (f : Nat → Option α) (v : α) : Prop := ∃ K, ∀ k, K ≤ k → f k = some v
theorem cm_now {α : Type} {f : Nat → Option α} {v : α} (h : ∀ k, f k = some v) : Cm f v := ⟨0, fun k _ => h k⟩
theorem cm_step {α : Type} {f g : Nat → Option α} {v : α} (h : ∀ k, f (k + 1) = g k) (hg : Cm g v) : Cm f v := by
  obtain ⟨K, hK⟩ := hg
  refine ⟨K + 1, fun k hk => ?_⟩
  obtain ⟨m, rfl⟩ : ∃ m, k = m + 1 := ⟨k - 1, by omega⟩
  rw [h, hK m (by omega)]
theorem cm_same {α : Type} {f g : Nat → Option α} {v : α} (h : ∀ k, f k = g k) (hg : Cm g v) : Cm f v := by
  obtain ⟨K, hK⟩ := hg
  exact ⟨K, fun k hk => by rw [h, hK k hk]⟩
theorem cm_bind {α β : Type} {a : Nat → Option α} {t : α} {g : Nat → α → Option β} {v : β} (ha : Cm a t) (hg : Cm (fun k => g k t) v) : Cm (fun k => (a k).bind (g k)) v := by
  obtain ⟨K, hK⟩ := ha
  obtain ⟨M, hM⟩ := hg
  exact ⟨K + M, fun k hk => by simp only [hK k (by omega)]; exact hM k (by omega)⟩
theorem cm_yes {α : Type} {c : Prop} [Decidable c] {x y : Nat → Option α} {v : α} (h : c) (h2 : Cm x v) : Cm (fun k => if c then x k else y k) v :=
  cm_same (fun _ => if_pos h) h2
theorem cm_no {α : Type} {c : Prop} [Decidable c] {x y : Nat → Option α} {v : α} (h : ¬ c) (h2 : Cm y v) : Cm (fun k => if c then x k else y k) v :=
  cm_same (fun _ => if_neg h) h2
theorem cm_ex {α : Type} {f : Nat → Option α} {v : α} (h : Cm f v) : ∃ k, f k = some v := by
  obtain ⟨K, hK⟩ := h
  exact ⟨K, hK K (Nat.le_refl _)⟩
end Go.Proofs.Ytomdjipejoafgaa.EvN
end
section
namespace Go.Proofs.Ytomdjipejoafgaa.Lp
open Go.RowKit Go.Proofs.YtomdjipejoafgaaW.PrintWords
open Go.Proofs.Ytomdjipejoafgaa.Pl Go.Proofs.Ytomdjipejoafgaa.EvN
def okFrom {α : Type} (p : List α → α → Bool) : List α → List α → Bool
  | _, [] => true
  | pre, h :: t => p pre h && okFrom p (pre ++ [h]) t
theorem all_cm {α ρ : Type} {L : Nat → Int → Option ρ} (xs : List α) (p : List α → α → Bool) {fin no : ρ}
    (hstep : ∀ pre h t, pre ++ h :: t = xs → pre.length < xs.length → p pre h = true → ∀ v, Cm (fun k => L k ((pre.length + 1 : Nat) : Int)) v → Cm (fun k => L k (pre.length : Int)) v)
    (hno : ∀ pre h t, pre ++ h :: t = xs → pre.length < xs.length → p pre h = false → Cm (fun k => L k (pre.length : Int)) no)
    (hend : okFrom p [] xs = true → Cm (fun k => L k (xs.length : Int)) fin) : Cm (fun k => L k 0) (if okFrom p [] xs = true then fin else no) := by
  have key : ∀ (rest pre : List α), pre ++ rest = xs → (okFrom p pre rest = okFrom p [] xs) → Cm (fun k => L k (pre.length : Int)) (if okFrom p pre rest = true then fin else no) := by
    intro rest
    induction rest with
    | nil =>
      intro pre e h
      rw [List.append_nil] at e
      subst e
      simp only [okFrom, if_true] at h ⊢
      exact hend h.symm
    | cons x t ih =>
      intro pre e h
      by_cases c : p pre x = true
      · have h2 : okFrom p pre (x :: t) = okFrom p (pre ++ [x]) t := by simp only [okFrom, c, Bool.true_and]
        rw [h2] at h ⊢
        have h3 := ih (pre ++ [x]) (app_mid e) h
        rw [len_one] at h3
        exact hstep pre x t e (len_mid e) c _ h3
      · have c2 : p pre x = false := by simpa using c
        have h2 : okFrom p pre (x :: t) = false := by simp only [okFrom, c2, Bool.false_and]
        rw [h2]
        simpa using hno pre x t e (len_mid e) c2
  exact key xs [] rfl rfl
theorem okFrom_all {α : Type} (p : α → Bool) : ∀ (rest pre : List α), okFrom (fun _ h => p h) pre rest = rest.all p
  | [], _ => rfl
  | x :: t, pre => by simp only [okFrom, List.all_cons, okFrom_all p t]
theorem every_cm {α ρ : Type} {L : Nat → Int → Option ρ} (xs : List α) (p : α → Bool) {fin no : ρ}
    (hstep : ∀ pre h t, pre ++ h :: t = xs → pre.length < xs.length → p h = true → ∀ v, Cm (fun k => L k ((pre.length + 1 : Nat) : Int)) v → Cm (fun k => L k (pre.length : Int)) v)
    (hno : ∀ pre h t, pre ++ h :: t = xs → pre.length < xs.length → p h = false → Cm (fun k => L k (pre.length : Int)) no)
    (hend : xs.all p = true → Cm (fun k => L k (xs.length : Int)) fin) : Cm (fun k => L k 0) (if xs.all p = true then fin else no) := by
  have := all_cm (L := L) xs (fun _ h => p h) hstep hno (by rw [okFrom_all]; exact hend)
  rw [okFrom_all] at this
  exact this
def foundAt {α ρ : Type} (p : α → Bool) (found : Nat → α → ρ) (none_ : ρ) : Nat → List α → ρ
  | _, [] => none_
  | i, h :: t => if p h = true then found i h else foundAt p found none_ (i + 1) t
theorem find_cm {α ρ : Type} {L : Nat → Int → Option ρ} (xs : List α) (p : α → Bool) (found : Nat → α → ρ) {none_ : ρ}
    (hstep : ∀ pre h t, pre ++ h :: t = xs → pre.length < xs.length → p h = false → ∀ v, Cm (fun k => L k ((pre.length + 1 : Nat) : Int)) v → Cm (fun k => L k (pre.length : Int)) v)
    (hyes : ∀ pre h t, pre ++ h :: t = xs → pre.length < xs.length → p h = true → Cm (fun k => L k (pre.length : Int)) (found pre.length h))
    (hend : Cm (fun k => L k (xs.length : Int)) none_) : Cm (fun k => L k 0) (foundAt p found none_ 0 xs) := by
  have key : ∀ (rest pre : List α), pre ++ rest = xs → Cm (fun k => L k (pre.length : Int)) (foundAt p found none_ pre.length rest) := by
    intro rest
    induction rest with
    | nil =>
      intro pre e
      rw [List.append_nil] at e
      subst e
      exact hend
    | cons x t ih =>
      intro pre e
      unfold foundAt
      by_cases c : p x = true
      · rw [if_pos c]
        exact hyes pre x t e (len_mid e) c
      · rw [if_neg c]
        have h3 := ih (pre ++ [x]) (app_mid e)
        rw [len_one] at h3
        exact hstep pre x t e (len_mid e) (by simpa using c) _ h3
  exact key xs [] rfl
theorem found_any {α : Type} (p : α → Bool) : ∀ (l : List α) (i : Nat), decide (foundAt p (fun i _ => (i : Int)) (-1) i l ≥ 0) = l.any p
  | [], _ => by simp [foundAt]
  | h :: t, i => by
    unfold foundAt
    by_cases c : p h = true
    · rw [if_pos c]; simp [c]
    · rw [if_neg c, found_any p t (i + 1)]; simp [c]
theorem not_any {α : Type} (p q : α → Bool) (l : List α) (h : ∀ x ∈ l, p x = !q x) : (!l.any p) = l.all q := by
  induction l with
  | nil => rfl
  | cons x t ih => rw [List.any_cons, List.all_cons, h x (by simp), ← ih (fun y hy => h y (by simp [hy]))]; cases q x <;> simp
theorem same_cm {α ρ : Type} {L : Nat → Int → Option ρ} (xs : List α) {fin : ρ}
    (hstep : ∀ pre h t, pre ++ h :: t = xs → pre.length < xs.length → ∀ v, Cm (fun k => L k ((pre.length + 1 : Nat) : Int)) v → Cm (fun k => L k (pre.length : Int)) v)
    (hend : Cm (fun k => L k (xs.length : Int)) fin) : Cm (fun k => L k 0) fin := by
  have := every_cm (L := L) xs (fun _ => true) (fin := fin) (no := fin) (fun pre h t e hl _ => hstep pre h t e hl) (fun _ _ _ _ _ hp => by cases hp) (fun _ => hend)
  have h : (xs.all fun _ => true) = true := by simp
  rw [if_pos h] at this
  exact this
theorem map_cm {α β : Type} {L : Nat → Int → List β → Option (List β)} (xs : List α) (c : α → β) (z : β)
    (hstep : ∀ pre h t acc, pre ++ h :: t = xs → pre.length < xs.length → acc.length = xs.length → ∀ u, Cm (fun k => L k ((pre.length + 1 : Nat) : Int) (acc.set pre.length (c h))) u → Cm (fun k => L k (pre.length : Int) acc) u)
    (hend : ∀ acc, acc.length = xs.length → Cm (fun k => L k (xs.length : Int) acc) acc) : Cm (fun k => L k 0 (List.replicate xs.length z)) (xs.map c) := by
  have key : ∀ (rest pre : List α) (tl : List β), pre ++ rest = xs → tl.length = rest.length → Cm (fun k => L k (pre.length : Int) (pre.map c ++ tl)) (xs.map c) := by
    intro rest
    induction rest with
    | nil =>
      intro pre tl e ht
      have ht2 : tl = [] := List.length_eq_zero_iff.1 ht
      rw [List.append_nil] at e
      subst ht2 e
      rw [List.append_nil]
      exact hend _ (by simp)
    | cons h t ih =>
      intro pre tl e ht
      match tl, ht with
      | y :: tl, ht =>
        refine hstep pre h t _ e (len_mid e) (by rw [← e]; simp at ht ⊢; omega) _ ?_
        have e2 : (pre.map c ++ y :: tl).set pre.length (c h) = (pre ++ [h]).map c ++ tl := by
          have : pre.length = (pre.map c).length := by simp
          rw [this]
          simp
        rw [e2]
        have := ih (pre ++ [h]) tl (app_mid e) (by simpa using ht)
        rw [len_one] at this
        exact this
  have := key xs [] (List.replicate xs.length z) rfl (by simp)
  simpa using this
theorem ex_cm {α σ ρ : Type} {L : Nat → Int → σ → Option ρ} (xs : List α)
    (hstep : ∀ pre h t s, pre ++ h :: t = xs → pre.length < xs.length → (∃ v, Cm (fun k => L k (pre.length : Int) s) v) ∨ ∃ s', ∀ u, Cm (fun k => L k ((pre.length + 1 : Nat) : Int) s') u → Cm (fun k => L k (pre.length : Int) s) u)
    (hend : ∀ s, ∃ v, Cm (fun k => L k (xs.length : Int) s) v) (s0 : σ) : ∃ v, Cm (fun k => L k 0 s0) v := by
  have key : ∀ (rest pre : List α) (s : σ), pre ++ rest = xs → ∃ v, Cm (fun k => L k (pre.length : Int) s) v := by
    intro rest
    induction rest with
    | nil =>
      intro pre s e
      rw [List.append_nil] at e
      subst e
      exact hend s
    | cons h t ih =>
      intro pre s e
      rcases hstep pre h t s e (len_mid e) with h1 | ⟨s', h1⟩
      · exact h1
      · obtain ⟨v, hv⟩ := ih (pre ++ [h]) s' (app_mid e)
        rw [len_one] at hv
        exact ⟨v, h1 v hv⟩
  exact key xs [] s0 rfl
theorem cm_if {α : Type} {c : Prop} [Decidable c] {x y : Nat → Option α} {v : α} (h : c → Cm x v) (h2 : ¬ c → Cm y v) : Cm (fun k => if c then x k else y k) v := by
  by_cases hc : c
  · exact cm_yes hc (h hc)
  · exact cm_no hc (h2 hc)
theorem getD_at {α : Type} {pre t l : List α} {h : α} (e : pre ++ h :: t = l) (d : α) : l.getD ((pre.length : Int)).toNat d = h := by
  rw [← e]; simp
theorem getLast_at {α : Type} {pre rest l : List α} (e : pre ++ rest = l) (d : α) {q : α} (h : pre.getLast? = some q) : 0 < pre.length ∧ l.getD ((pre.length : Int) - 1).toNat d = q := by
  obtain ⟨z, rfl⟩ := List.getLast?_eq_some_iff.1 h
  refine ⟨by simp, ?_⟩
  have h3 : ((((z ++ [q]).length : Nat) : Int) - 1).toNat = z.length := by simp
  rw [← e, h3]
  simp
theorem wrap_less {n : Nat} (h : 0 < n) (hm : n ≤ 4611686018427387904) : wrap64 ((n : Int) - 1) = (n : Int) - 1 := wrap_in (by omega) (by omega)
theorem cm_val {α : Type} {f : Nat → Option α} {u v : α} (h : Cm f u) (e : u = v) : Cm f v := e ▸ h
end Go.Proofs.Ytomdjipejoafgaa.Lp
end
section
namespace Go.Proofs.Ytomdjipejoafgaa.Hs
open Go.RowKit Go.Proofs.Ytomdjipejoafgaa.P Go.Proofs.YtomdjipejoafgaaW.PrintWords Go.Proofs.YtomdjipejoafgaaW.PrintLast Go.Proofs.YtomdjipejoafgaaW.PrintMore
open Go.Proofs.Ytomdjipejoafgaa.Pl Go.Proofs.Ytomdjipejoafgaa.EvN Go.Proofs.Ytomdjipejoafgaa.Lp
set_option linter.unusedSimpArgs false
set_option linter.unusedVariables false
theorem toIntS_f (l : List Int) (h : l.length * 8 ≤ 140737488351232) : Cm (fun k => laws_toIntS.f k l) l := by
  unfold laws_toIntS.f
  refine cm_yes (by omega) (cm_yes (by omega) ?_)
  have := map_cm (L := fun k i s => laws_toIntS.l0 k l s i) l (fun x => x) 0 ?_ ?_
  · simpa using this
  · intro pre x t acc e hlt ha u hu
    refine cm_step (fun k => by rw [laws_toIntS.l0]) ?_
    simp only [rd_at e, wrap_len hlt (show l.length ≤ 4611686018427387904 by omega), Int.toNat_natCast]
    repeat (first | assumption | exact cm_now (fun _ => rfl) | refine cm_yes (by first | omega | assumption | (simp; done) | (simp; omega)) ?_ | refine cm_no (by first | omega | assumption | (simp; done) | (simp; omega)) ?_)
  · intro acc ha
    refine cm_step (fun k => by rw [laws_toIntS.l0]) ?_
    repeat (first | assumption | exact cm_now (fun _ => rfl) | refine cm_yes (by first | omega | assumption | (simp; done) | (simp; omega)) ?_ | refine cm_no (by first | omega | assumption | (simp; done) | (simp; omega)) ?_)
theorem eqIntS_same (l : List Int) (h : l.length ≤ 4611686018427387904) : Cm (fun k => laws_eqIntS.f k l l) true := by
  unfold laws_eqIntS.f
  refine cm_yes rfl ?_
  refine same_cm (L := fun k i => laws_eqIntS.l0 k l l i) l ?_ ?_
  · intro pre x t e hlt v hv
    refine cm_step (fun k => by rw [laws_eqIntS.l0]) ?_
    simp only [rd_at e, wrap_len hlt h]
    repeat (first | assumption | exact cm_now (fun _ => rfl) | refine cm_yes (by first | omega | assumption | (simp; done) | (simp; omega) | exact rfl) ?_ | refine cm_no (by first | omega | assumption | (simp; done) | (simp; omega) | exact rfl) ?_)
  · refine cm_step (fun k => by rw [laws_eqIntS.l0]) ?_
    repeat (first | assumption | exact cm_now (fun _ => rfl) | refine cm_yes (by first | omega | assumption | (simp; done) | (simp; omega)) ?_ | refine cm_no (by first | omega | assumption | (simp; done) | (simp; omega)) ?_)
theorem szIntS_f (l : List Int) (m : Int) : ∃ v, Cm (fun _ => laws_szIntS.f l m) v := by
  unfold laws_szIntS.f
  by_cases c : wrap64 (m - (l.length : Int)) < 0
  · exact ⟨_, cm_yes c (cm_now fun _ => rfl)⟩
  · exact ⟨_, cm_no c (cm_now fun _ => rfl)⟩
end Go.Proofs.Ytomdjipejoafgaa.Hs
end
section
namespace Go.Proofs.Ytomdjipejoafgaa.Hg
open Go.RowKit Go.Proofs.Ytomdjipejoafgaa.P Go.Proofs.YtomdjipejoafgaaW.PrintWords Go.Proofs.YtomdjipejoafgaaW.PrintLast Go.Proofs.YtomdjipejoafgaaW.PrintMore
open Go.Proofs.Ytomdjipejoafgaa.Pl Go.Proofs.Ytomdjipejoafgaa.EvN Go.Proofs.Ytomdjipejoafgaa.Lp Go.Proofs.Ytomdjipejoafgaa.Hs
set_option linter.unusedSimpArgs false
set_option linter.unusedVariables false
theorem rdT95_at {pre t l : List S95} {h : S95} (e : pre ++ h :: t = l) : rd_T95 l (pre.length : Int) = h := getD_at e _
theorem rdT67_at {pre t l : List S67} {h : S67} (e : pre ++ h :: t = l) : rd_T67 l (pre.length : Int) = h := getD_at e _
def cEntry (x : S95) : S67 := ⟨x.f0, x.f1⟩
def smEntry (x : S67) : Prop := (True) ∧ (True)
theorem sm_cEntry (x : S95) (h : ok95 x) : smEntry (cEntry x) := by
  obtain ⟨h0, h1⟩ := h
  exact ⟨trivial, trivial⟩
theorem toEntry_f (x : S95) (h : ok95 x) : Cm (fun k => laws_toEntry.f x.f0 x.f1) ((cEntry x).f0, (cEntry x).f1) := by
  obtain ⟨h0, h1⟩ := h
  unfold laws_toEntry.f
  exact cm_now fun _ => rfl
theorem toEntryS_f (l : List S95) (h : l.length ≤ maxLen ∧ l.length * 16 ≤ 140737488351232 ∧ ∀ x_ ∈ l, ok95 x_) : Cm (fun k => laws_toEntryS.f k l) (l.map cEntry) := by
  have hl := h.2.1
  unfold laws_toEntryS.f
  refine cm_yes (by omega) (cm_yes (by omega) ?_)
  rw [Int.toNat_natCast]
  refine map_cm (L := fun k i s => laws_toEntryS.l0 k l s i) l cEntry z67 ?_ ?_
  · intro pre x t acc e hlt ha u hu
    have hx := h.2.2 x (by rw [← e]; simp)
    refine cm_step (fun k => by rw [laws_toEntryS.l0]) ?_
    simp only [rdT95_at e, wrap_len hlt (show l.length ≤ 4611686018427387904 by omega), Int.toNat_natCast]
    refine cm_yes (by omega) (cm_yes (by omega) (cm_bind (toEntry_f x hx) (cm_yes (by omega) ?_)))
    exact hu
  · intro acc ha
    refine cm_step (fun k => by rw [laws_toEntryS.l0]) ?_
    exact cm_no (by omega) (cm_now fun _ => rfl)
theorem eqEntry_same (x : S67) (h : smEntry x) : Cm (fun k => laws_eqEntry.f x.f0 x.f1 x.f0 x.f1) true := by
  obtain ⟨h0, h1⟩ := h
  unfold laws_eqEntry.f
  exact cm_yes rfl (cm_yes rfl (cm_now fun _ => rfl))
theorem eqEntryS_same (l : List S67) (h : l.length ≤ 4611686018427387904 ∧ ∀ y ∈ l, smEntry y) : Cm (fun k => laws_eqEntryS.f k l l) true := by
  unfold laws_eqEntryS.f
  refine cm_yes rfl ?_
  refine same_cm (L := fun k i => laws_eqEntryS.l0 k l l i) l ?_ ?_
  · intro pre x t e hlt v hv
    have hx := h.2 x (by rw [← e]; simp)
    refine cm_step (fun k => by rw [laws_eqEntryS.l0]) ?_
    simp only [rdT67_at e, wrap_len hlt h.1]
    exact cm_yes (by omega) (cm_yes (by omega) (cm_yes (by omega) (cm_bind (eqEntry_same x hx) (cm_yes rfl hv))))
  · refine cm_step (fun k => by rw [laws_eqEntryS.l0]) ?_
    exact cm_no (by omega) (cm_now fun _ => rfl)
theorem szEntryS_ex (l : List S95) (h : l.length ≤ maxLen ∧ l.length * 16 ≤ 140737488351232 ∧ ∀ x_ ∈ l, ok95 x_) (m : Int) : ∃ v, Cm (fun k => laws_szEntryS.f l m) v := by
  have hl := h.2.1
  unfold laws_szEntryS.f
  by_cases c : wrap64 (m - (l.length : Int)) < 0
  · exact ⟨_, cm_yes c (cm_now fun _ => rfl)⟩
  · exact ⟨_, cm_no c (cm_now fun _ => rfl)⟩
theorem rdT155_at {pre t l : List S155} {h : S155} (e : pre ++ h :: t = l) : rd_T155 l (pre.length : Int) = h := getD_at e _
theorem rdT126_at {pre t l : List S126} {h : S126} (e : pre ++ h :: t = l) : rd_T126 l (pre.length : Int) = h := getD_at e _
def cMail (x : S155) : S126 := ⟨x.f0, x.f1, x.f2, x.f3, x.f4, x.f5, x.f6.map cEntry, x.f7, x.f8⟩
def smMail (x : S126) : Prop := (True) ∧ (True) ∧ (True) ∧ (True) ∧ (True) ∧ (True) ∧ (x.f6.length ≤ 4611686018427387904 ∧ ∀ y ∈ x.f6, smEntry y) ∧ (True) ∧ (True)
theorem sm_cMail (x : S155) (h : ok155 x) : smMail (cMail x) := by
  obtain ⟨h0, h1, h2, h3, h4, h5, h6, h7, h8⟩ := h
  exact ⟨trivial, trivial, trivial, trivial, trivial, trivial, ⟨by have := h6.2.1; simp only [cMail, List.length_map]; omega, fun y hy => by obtain ⟨z, hz, rfl⟩ := List.mem_map.1 hy; exact sm_cEntry z (h6.2.2 z hz)⟩, trivial, trivial⟩
theorem toMail_f (x : S155) (h : ok155 x) : Cm (fun k => laws_toMail.f k x.f0 x.f1 x.f2 x.f3 x.f4 x.f5 x.f6 x.f7 x.f8) ((cMail x).f0, (cMail x).f1, (cMail x).f2, (cMail x).f3, (cMail x).f4, (cMail x).f5, (cMail x).f6, (cMail x).f7, (cMail x).f8) := by
  obtain ⟨h0, h1, h2, h3, h4, h5, h6, h7, h8⟩ := h
  unfold laws_toMail.f
  exact cm_bind (toEntryS_f _ h6) (cm_now fun _ => rfl)
theorem toMailS_f (l : List S155) (h : l.length ≤ maxLen ∧ l.length * 88 ≤ 140737488351232 ∧ ∀ x_ ∈ l, ok155 x_) : Cm (fun k => laws_toMailS.f k l) (l.map cMail) := by
  have hl := h.2.1
  unfold laws_toMailS.f
  refine cm_yes (by omega) (cm_yes (by omega) ?_)
  rw [Int.toNat_natCast]
  refine map_cm (L := fun k i s => laws_toMailS.l0 k l s i) l cMail z126 ?_ ?_
  · intro pre x t acc e hlt ha u hu
    have hx := h.2.2 x (by rw [← e]; simp)
    refine cm_step (fun k => by rw [laws_toMailS.l0]) ?_
    simp only [rdT155_at e, wrap_len hlt (show l.length ≤ 4611686018427387904 by omega), Int.toNat_natCast]
    refine cm_yes (by omega) (cm_yes (by omega) (cm_bind (toMail_f x hx) (cm_yes (by omega) ?_)))
    exact hu
  · intro acc ha
    refine cm_step (fun k => by rw [laws_toMailS.l0]) ?_
    exact cm_no (by omega) (cm_now fun _ => rfl)
theorem eqMail_same (x : S126) (h : smMail x) : Cm (fun k => laws_eqMail.f k x.f0 x.f1 x.f2 x.f3 x.f4 x.f5 x.f6 x.f7 x.f8 x.f0 x.f1 x.f2 x.f3 x.f4 x.f5 x.f6 x.f7 x.f8) true := by
  obtain ⟨h0, h1, h2, h3, h4, h5, h6, h7, h8⟩ := h
  unfold laws_eqMail.f
  exact cm_no (by simp) (cm_yes rfl (cm_yes rfl (cm_yes rfl (cm_yes rfl (cm_yes rfl (cm_bind (eqEntryS_same _ h6) (cm_yes rfl (cm_yes rfl (cm_yes rfl (cm_now fun _ => rfl))))))))))
theorem eqMailS_same (l : List S126) (h : l.length ≤ 4611686018427387904 ∧ ∀ y ∈ l, smMail y) : Cm (fun k => laws_eqMailS.f k l l) true := by
  unfold laws_eqMailS.f
  refine cm_yes rfl ?_
  refine same_cm (L := fun k i => laws_eqMailS.l0 k l l i) l ?_ ?_
  · intro pre x t e hlt v hv
    have hx := h.2 x (by rw [← e]; simp)
    refine cm_step (fun k => by rw [laws_eqMailS.l0]) ?_
    simp only [rdT126_at e, wrap_len hlt h.1]
    exact cm_yes (by omega) (cm_yes (by omega) (cm_yes (by omega) (cm_bind (eqMail_same x hx) (cm_yes rfl hv))))
  · refine cm_step (fun k => by rw [laws_eqMailS.l0]) ?_
    exact cm_no (by omega) (cm_now fun _ => rfl)
theorem szMail_ex (x : S155) (h : ok155 x) (m : Int) : ∃ v, Cm (fun k => laws_szMail.f x.f0 x.f1 x.f2 x.f3 x.f4 x.f5 x.f6 x.f7 x.f8 m) v := by
  obtain ⟨h0, h1, h2, h3, h4, h5, h6, h7, h8⟩ := h
  unfold laws_szMail.f
  obtain ⟨v0, w0⟩ := szEntryS_ex x.f6 h6 m
  by_cases c0 : v0 < 0
  · exact ⟨-1, cm_bind w0 (cm_yes c0 (cm_now fun _ => rfl))⟩
  exact ⟨v0, cm_bind w0 (cm_no c0 (cm_now fun _ => rfl))⟩
theorem szMailS_ex (l : List S155) (h : l.length ≤ maxLen ∧ l.length * 88 ≤ 140737488351232 ∧ ∀ x_ ∈ l, ok155 x_) (m : Int) : ∃ v, Cm (fun k => laws_szMailS.f k l m) v := by
  have hl := h.2.1
  unfold laws_szMailS.f
  by_cases c : wrap64 (m - (l.length : Int)) < 0
  · exact ⟨_, cm_yes c (cm_now fun _ => rfl)⟩
  · obtain ⟨v, hv⟩ : ∃ v, Cm (fun k => laws_szMailS.l0 k l (wrap64 (m - (l.length : Int))) 0) v := by
      refine ex_cm (L := fun k i s => laws_szMailS.l0 k l s i) l ?_ ?_ _
      · intro pre x t s e hlt
        obtain ⟨v, hv⟩ := szMail_ex x (h.2.2 x (by rw [← e]; simp)) s
        by_cases c2 : v < 0
        · refine .inl ⟨-1, ?_⟩
          refine cm_step (fun k => by rw [laws_szMailS.l0]) ?_
          simp only [rdT155_at e, wrap_len hlt (show l.length ≤ 4611686018427387904 by omega)]
          exact cm_yes (by omega) (cm_yes (by omega) (cm_bind hv (cm_yes c2 (cm_now fun _ => rfl))))
        · refine .inr ⟨v, fun u hu => ?_⟩
          refine cm_step (fun k => by rw [laws_szMailS.l0]) ?_
          simp only [rdT155_at e, wrap_len hlt (show l.length ≤ 4611686018427387904 by omega)]
          exact cm_yes (by omega) (cm_yes (by omega) (cm_bind hv (cm_no c2 hu)))
      · intro s
        refine ⟨s, ?_⟩
        refine cm_step (fun k => by rw [laws_szMailS.l0]) ?_
        exact cm_no (by omega) (cm_now fun _ => rfl)
    exact ⟨v, cm_no c hv⟩
theorem rdT152_at {pre t l : List S152} {h : S152} (e : pre ++ h :: t = l) : rd_T152 l (pre.length : Int) = h := getD_at e _
theorem rdT98_at {pre t l : List S98} {h : S98} (e : pre ++ h :: t = l) : rd_T98 l (pre.length : Int) = h := getD_at e _
def cPeer (x : S152) : S98 := ⟨x.f0, x.f1, x.f2.map cEntry, x.f3, x.f4⟩
def smPeer (x : S98) : Prop := (True) ∧ (True) ∧ (x.f2.length ≤ 4611686018427387904 ∧ ∀ y ∈ x.f2, smEntry y) ∧ (True) ∧ (x.f4.length ≤ 4611686018427387904)
theorem sm_cPeer (x : S152) (h : ok152 x) : smPeer (cPeer x) := by
  obtain ⟨h0, h1, h2, h3, h4⟩ := h
  exact ⟨trivial, trivial, ⟨by have := h2.2.1; simp only [cPeer, List.length_map]; omega, fun y hy => by obtain ⟨z, hz, rfl⟩ := List.mem_map.1 hy; exact sm_cEntry z (h2.2.2 z hz)⟩, trivial, by have := h4.2.1; simp only [cPeer]; omega⟩
theorem toPeer_f (x : S152) (h : ok152 x) : Cm (fun k => laws_toPeer.f k x.f0 x.f1 x.f2 x.f3 x.f4) ((cPeer x).f0, (cPeer x).f1, (cPeer x).f2, (cPeer x).f3, (cPeer x).f4) := by
  obtain ⟨h0, h1, h2, h3, h4⟩ := h
  unfold laws_toPeer.f
  exact cm_bind (toEntryS_f _ h2) (cm_bind (toIntS_f _ h4.2.1) (cm_now fun _ => rfl))
theorem toPeerS_f (l : List S152) (h : l.length ≤ maxLen ∧ l.length * 72 ≤ 140737488351232 ∧ ∀ x_ ∈ l, ok152 x_) : Cm (fun k => laws_toPeerS.f k l) (l.map cPeer) := by
  have hl := h.2.1
  unfold laws_toPeerS.f
  refine cm_yes (by omega) (cm_yes (by omega) ?_)
  rw [Int.toNat_natCast]
  refine map_cm (L := fun k i s => laws_toPeerS.l0 k l s i) l cPeer z98 ?_ ?_
  · intro pre x t acc e hlt ha u hu
    have hx := h.2.2 x (by rw [← e]; simp)
    refine cm_step (fun k => by rw [laws_toPeerS.l0]) ?_
    simp only [rdT152_at e, wrap_len hlt (show l.length ≤ 4611686018427387904 by omega), Int.toNat_natCast]
    refine cm_yes (by omega) (cm_yes (by omega) (cm_bind (toPeer_f x hx) (cm_yes (by omega) ?_)))
    exact hu
  · intro acc ha
    refine cm_step (fun k => by rw [laws_toPeerS.l0]) ?_
    exact cm_no (by omega) (cm_now fun _ => rfl)
theorem eqPeer_same (x : S98) (h : smPeer x) : Cm (fun k => laws_eqPeer.f k x.f0 x.f1 x.f2 x.f3 x.f4 x.f0 x.f1 x.f2 x.f3 x.f4) true := by
  obtain ⟨h0, h1, h2, h3, h4⟩ := h
  unfold laws_eqPeer.f
  exact cm_yes rfl (cm_no (by simp) (cm_bind (eqEntryS_same _ h2) (cm_yes rfl (cm_yes rfl (cm_bind (eqIntS_same _ h4) (cm_yes rfl (cm_now fun _ => rfl)))))))
theorem eqPeerS_same (l : List S98) (h : l.length ≤ 4611686018427387904 ∧ ∀ y ∈ l, smPeer y) : Cm (fun k => laws_eqPeerS.f k l l) true := by
  unfold laws_eqPeerS.f
  refine cm_yes rfl ?_
  refine same_cm (L := fun k i => laws_eqPeerS.l0 k l l i) l ?_ ?_
  · intro pre x t e hlt v hv
    have hx := h.2 x (by rw [← e]; simp)
    refine cm_step (fun k => by rw [laws_eqPeerS.l0]) ?_
    simp only [rdT98_at e, wrap_len hlt h.1]
    exact cm_yes (by omega) (cm_yes (by omega) (cm_yes (by omega) (cm_bind (eqPeer_same x hx) (cm_yes rfl hv))))
  · refine cm_step (fun k => by rw [laws_eqPeerS.l0]) ?_
    exact cm_no (by omega) (cm_now fun _ => rfl)
theorem szPeer_ex (x : S152) (h : ok152 x) (m : Int) : ∃ v, Cm (fun k => laws_szPeer.f x.f0 x.f1 x.f2 x.f3 x.f4 m) v := by
  obtain ⟨h0, h1, h2, h3, h4⟩ := h
  unfold laws_szPeer.f
  obtain ⟨v0, w0⟩ := szEntryS_ex x.f2 h2 m
  by_cases c0 : v0 < 0
  · exact ⟨-1, cm_bind w0 (cm_yes c0 (cm_now fun _ => rfl))⟩
  obtain ⟨v1, w1⟩ := szIntS_f x.f4 v0
  by_cases c1 : v1 < 0
  · exact ⟨-1, cm_bind w0 (cm_no c0 (cm_bind w1 (cm_yes c1 (cm_now fun _ => rfl))))⟩
  exact ⟨v1, cm_bind w0 (cm_no c0 (cm_bind w1 (cm_no c1 (cm_now fun _ => rfl))))⟩
theorem szPeerS_ex (l : List S152) (h : l.length ≤ maxLen ∧ l.length * 72 ≤ 140737488351232 ∧ ∀ x_ ∈ l, ok152 x_) (m : Int) : ∃ v, Cm (fun k => laws_szPeerS.f k l m) v := by
  have hl := h.2.1
  unfold laws_szPeerS.f
  by_cases c : wrap64 (m - (l.length : Int)) < 0
  · exact ⟨_, cm_yes c (cm_now fun _ => rfl)⟩
  · obtain ⟨v, hv⟩ : ∃ v, Cm (fun k => laws_szPeerS.l0 k l (wrap64 (m - (l.length : Int))) 0) v := by
      refine ex_cm (L := fun k i s => laws_szPeerS.l0 k l s i) l ?_ ?_ _
      · intro pre x t s e hlt
        obtain ⟨v, hv⟩ := szPeer_ex x (h.2.2 x (by rw [← e]; simp)) s
        by_cases c2 : v < 0
        · refine .inl ⟨-1, ?_⟩
          refine cm_step (fun k => by rw [laws_szPeerS.l0]) ?_
          simp only [rdT152_at e, wrap_len hlt (show l.length ≤ 4611686018427387904 by omega)]
          exact cm_yes (by omega) (cm_yes (by omega) (cm_bind hv (cm_yes c2 (cm_now fun _ => rfl))))
        · refine .inr ⟨v, fun u hu => ?_⟩
          refine cm_step (fun k => by rw [laws_szPeerS.l0]) ?_
          simp only [rdT152_at e, wrap_len hlt (show l.length ≤ 4611686018427387904 by omega)]
          exact cm_yes (by omega) (cm_yes (by omega) (cm_bind hv (cm_no c2 hu)))
      · intro s
        refine ⟨s, ?_⟩
        refine cm_step (fun k => by rw [laws_szPeerS.l0]) ?_
        exact cm_no (by omega) (cm_now fun _ => rfl)
    exact ⟨v, cm_no c hv⟩
def cRaft (x : S61) : S37 := ⟨x.f0.map cPeer, x.f1.map cMail⟩
def smRaft (x : S37) : Prop := (x.f0.length ≤ 4611686018427387904 ∧ ∀ y ∈ x.f0, smPeer y) ∧ (x.f1.length ≤ 4611686018427387904 ∧ ∀ y ∈ x.f1, smMail y)
theorem sm_cRaft (x : S61) (h : ok61 x) : smRaft (cRaft x) := by
  obtain ⟨h0, h1⟩ := h
  exact ⟨⟨by have := h0.2.1; simp only [cRaft, List.length_map]; omega, fun y hy => by obtain ⟨z, hz, rfl⟩ := List.mem_map.1 hy; exact sm_cPeer z (h0.2.2 z hz)⟩, ⟨by have := h1.2.1; simp only [cRaft, List.length_map]; omega, fun y hy => by obtain ⟨z, hz, rfl⟩ := List.mem_map.1 hy; exact sm_cMail z (h1.2.2 z hz)⟩⟩
theorem toRaft_f (x : S61) (h : ok61 x) : Cm (fun k => laws_toRaft.f k x.f0 x.f1) ((cRaft x).f0, (cRaft x).f1) := by
  obtain ⟨h0, h1⟩ := h
  unfold laws_toRaft.f
  exact cm_bind (toPeerS_f _ h0) (cm_bind (toMailS_f _ h1) (cm_now fun _ => rfl))
theorem eqRaft_same (x : S37) (h : smRaft x) : Cm (fun k => laws_eqRaft.f k x.f0 x.f1 x.f0 x.f1) true := by
  obtain ⟨h0, h1⟩ := h
  unfold laws_eqRaft.f
  exact cm_bind (eqPeerS_same _ h0) (cm_yes rfl (cm_bind (eqMailS_same _ h1) (cm_yes rfl (cm_now fun _ => rfl))))
theorem szRaft_ex (x : S61) (h : ok61 x) (m : Int) : ∃ v, Cm (fun k => laws_szRaft.f k x.f0 x.f1 m) v := by
  obtain ⟨h0, h1⟩ := h
  unfold laws_szRaft.f
  obtain ⟨v0, w0⟩ := szPeerS_ex x.f0 h0 m
  by_cases c0 : v0 < 0
  · exact ⟨-1, cm_bind w0 (cm_yes c0 (cm_now fun _ => rfl))⟩
  obtain ⟨v1, w1⟩ := szMailS_ex x.f1 h1 v0
  by_cases c1 : v1 < 0
  · exact ⟨-1, cm_bind w0 (cm_no c0 (cm_bind w1 (cm_yes c1 (cm_now fun _ => rfl))))⟩
  exact ⟨v1, cm_bind w0 (cm_no c0 (cm_bind w1 (cm_no c1 (cm_now fun _ => rfl))))⟩
end Go.Proofs.Ytomdjipejoafgaa.Hg
end
section
namespace Go.Proofs.Ytomdjipejoafgaa.Sets
open Go.RowKit Go.Proofs.YtomdjipejoafgaaW.PrintWords Go.Proofs.YtomdjipejoafgaaW.PrintLast Go.Proofs.YtomdjipejoafgaaW.PrintMore
open Go.Proofs.Ytomdjipejoafgaa.Pl Go.Proofs.Ytomdjipejoafgaa.EvN Go.Proofs.Ytomdjipejoafgaa.Lp
set_option linter.unusedSimpArgs false
set_option linter.unusedVariables false
theorem and_self (a b : Nat) : a &&& b = b ↔ ∀ i, b.testBit i = true → a.testBit i = true := by
  constructor
  · intro h i h2
    have : (a &&& b).testBit i = true := by rw [h]; exact h2
    rw [Nat.testBit_and] at this
    simp_all
  · intro h
    apply Nat.eq_of_testBit_eq
    intro i
    rw [Nat.testBit_and]
    have := h i
    cases h1 : a.testBit i <;> cases h2 : b.testBit i <;> simp_all
end Go.Proofs.Ytomdjipejoafgaa.Sets
end
section
namespace Go.Proofs.Ytomdjipejoafgaa.Mem
open Go.RowKit Go.Proofs.Ytomdjipejoafgaa.P Go.Proofs.YtomdjipejoafgaaW.PrintWords Go.Proofs.YtomdjipejoafgaaW.PrintLast Go.Proofs.YtomdjipejoafgaaW.PrintMore
open Go.Proofs.Ytomdjipejoafgaa.Pl Go.Proofs.Ytomdjipejoafgaa.EvN Go.Proofs.Ytomdjipejoafgaa.Lp Go.Proofs.Ytomdjipejoafgaa.Sets
set_option linter.unusedSimpArgs false
set_option linter.unusedVariables false
theorem in_f (a b c : Int) : impl_in.f a b c = some (decide (b ≤ a ∧ a ≤ c)) := by
  unfold impl_in.f
  by_cases h : a ≥ b
  · rw [if_pos h]; congr 1; rw [decide_eq_decide]; omega
  · rw [if_neg h]; congr 1; symm; rw [decide_eq_false_iff_not]; omega
theorem l1In_f (a b c : Int) : spec_l1In.f a b c = some (decide (b ≤ a ∧ a ≤ c)) := by
  unfold spec_l1In.f
  by_cases h : a ≥ b
  · rw [if_pos h]; congr 1; rw [decide_eq_decide]; omega
  · rw [if_neg h]; congr 1; symm; rw [decide_eq_false_iff_not]; omega
theorem if_self (b : Bool) : (if b = true then true else false) = b := by cases b <;> rfl
theorem last_cases {α : Type} (pre : List α) : pre = [] ∨ ∃ q, pre.getLast? = some q := by
  cases e : pre.getLast? with
  | none => exact .inl (no_last e)
  | some q => exact .inr ⟨q, rfl⟩
end Go.Proofs.Ytomdjipejoafgaa.Mem
end
section
namespace Go.Proofs.Ytomdjipejoafgaa.Logs
open Go.RowKit Go.Proofs.Ytomdjipejoafgaa.P Go.Proofs.YtomdjipejoafgaaW.PrintWords Go.Proofs.YtomdjipejoafgaaW.PrintLast Go.Proofs.YtomdjipejoafgaaW.PrintMore
open Go.Proofs.Ytomdjipejoafgaa.Pl Go.Proofs.Ytomdjipejoafgaa.EvN Go.Proofs.Ytomdjipejoafgaa.Lp Go.Proofs.Ytomdjipejoafgaa.Mem Go.Proofs.Ytomdjipejoafgaa.Hg
set_option linter.unusedSimpArgs false
set_option linter.unusedVariables false
def goodLog1 (m : Int) (pre : List S67) (h : S67) : Bool := decide ((0 ≤ h.f0 ∧ h.f0 ≤ m) ∧ (0 ≤ h.f1 ∧ h.f1 ≤ 99)) && (match pre.getLast? with | some q => decide (q.f0 ≤ h.f0) | none => true)
def goodLog (m : Int) (l : List S67) : Bool := okFrom (goodLog1 m) [] l && decide (l.length ≤ 30)
theorem log_yes {m : Int} {pre : List S67} {h : S67} (hp : goodLog1 m pre h = true) : (0 ≤ h.f0 ∧ h.f0 ≤ m) ∧ (0 ≤ h.f1 ∧ h.f1 ≤ 99) ∧ ∀ q, pre.getLast? = some q → q.f0 ≤ h.f0 := by
  unfold goodLog1 at hp
  simp only [Bool.and_eq_true, decide_eq_true_eq] at hp
  refine ⟨hp.1.1, hp.1.2, fun q e => ?_⟩
  have h2 := hp.2
  rw [e] at h2
  simpa using h2
theorem log_no {m : Int} {pre : List S67} {h : S67} (hp : goodLog1 m pre h = false) (h0 : 0 ≤ h.f0 ∧ h.f0 ≤ m) (h1 : 0 ≤ h.f1 ∧ h.f1 ≤ 99) : ∃ q, pre.getLast? = some q ∧ h.f0 < q.f0 := by
  unfold goodLog1 at hp
  cases e : pre.getLast? with
  | none => rw [e] at hp; simp at hp; omega
  | some q =>
    rw [e] at hp
    simp at hp
    exact ⟨q, rfl, by omega⟩
theorem rd67_last {pre rest l : List S67} (e : pre ++ rest = l) {q : S67} (h : pre.getLast? = some q) : 0 < pre.length ∧ rd_T67 l ((pre.length : Int) - 1) = q := getLast_at e _ h
theorem l10Log_f (l : List S67) (m : Int) (hl : l.length ≤ 4611686018427387904) : Cm (fun k => spec_l10Log.f k l m) (goodLog m l) := by
  unfold spec_l10Log.f
  refine cm_val (all_cm (L := fun k i => spec_l10Log.l0 k l m l (l.length : Int) i) l (goodLog1 m) (fin := decide (l.length ≤ 30)) (no := false) ?_ ?_ ?_) ?_
  · intro pre h t e hlt hp v hv
    obtain ⟨h0, h1, h2⟩ := log_yes hp
    refine cm_step (fun k => by rw [spec_l10Log.l0]) ?_
    simp only [rdT67_at e, wrap_len hlt hl]
    refine cm_yes (by omega) (cm_yes (by omega) (cm_yes (by omega) (cm_bind (cm_now fun _ => l1In_f _ _ _) (cm_yes (by simp [h0]) (cm_bind (cm_now fun _ => l1In_f _ _ _) (cm_yes (by simp [h1]) ?_))))))
    rcases last_cases pre with rfl | ⟨q, hq⟩
    · exact cm_no (by simp) hv
    · obtain ⟨h3, h4⟩ := rd67_last e hq
      have h5 := h2 q hq
      rw [wrap_less h3 (by omega), h4]
      exact cm_yes (by omega) (cm_yes (by omega) (cm_yes (by omega) (cm_no (by omega) hv)))
  · intro pre h t e hlt hp
    refine cm_step (fun k => by rw [spec_l10Log.l0]) ?_
    simp only [rdT67_at e, wrap_len hlt hl]
    refine cm_yes (by omega) (cm_yes (by omega) (cm_yes (by omega) (cm_bind (cm_now fun _ => l1In_f _ _ _) (cm_if (fun c0 => cm_bind (cm_now fun _ => l1In_f _ _ _) (cm_if (fun c1 => ?_) (fun _ => cm_now fun _ => rfl))) (fun _ => cm_now fun _ => rfl)))))
    simp only [decide_eq_true_eq] at c0 c1
    obtain ⟨q, hq, h5⟩ := log_no hp c0 c1
    obtain ⟨h3, h4⟩ := rd67_last e hq
    rw [wrap_less h3 (by omega), h4]
    exact cm_yes (by omega) (cm_yes (by omega) (cm_yes (by omega) (cm_yes (by omega) (cm_now fun _ => rfl))))
  · intro _
    refine cm_step (fun k => by rw [spec_l10Log.l0]) ?_
    exact cm_no (by omega) (cm_now fun _ => by congr 1; rw [decide_eq_decide]; omega)
  · unfold goodLog
    cases okFrom (goodLog1 m) [] l <;> simp
def lastTerm (pre : List S67) : Int := match pre.getLast? with | some q => q.f0 | none => 0
theorem raftLog_l0 (l : List S67) (m : Int) (hl : l.length ≤ 4611686018427387904) : ∀ (rest pre : List S67), pre ++ rest = l → 0 ≤ lastTerm pre →
    Cm (fun k => impl_isRaftLog.l0 k l m (lastTerm pre) l (l.length : Int) (pre.length : Int)) (okFrom (goodLog1 m) pre rest && decide (l.length ≤ 30))
  | [], pre, e, _ => by
    have := len_end e
    refine cm_step (fun k => by rw [impl_isRaftLog.l0]) ?_
    refine cm_no (by omega) (cm_now fun _ => ?_)
    simp only [okFrom, Bool.true_and]
    congr 1
    rw [decide_eq_decide]
    omega
  | h :: t, pre, e, h0 => by
    have hlt := len_mid e
    refine cm_step (fun k => by rw [impl_isRaftLog.l0]) ?_
    simp only [rdT67_at e, wrap_len hlt hl]
    refine cm_yes (by omega) (cm_yes (by omega) (cm_yes (by omega) (cm_bind (cm_now fun _ => in_f _ _ _) ?_)))
    have hlast : lastTerm (pre ++ [h]) = h.f0 := by simp [lastTerm]
    have hg : goodLog1 m pre h = decide ((lastTerm pre ≤ h.f0 ∧ h.f0 ≤ m) ∧ (0 ≤ h.f1 ∧ h.f1 ≤ 99)) := by
      unfold goodLog1
      unfold lastTerm at h0 ⊢
      cases e2 : pre.getLast? with
      | none => simp
      | some q =>
        rw [e2] at h0
        simp only at h0 ⊢
        rw [← Bool.decide_and, decide_eq_decide]
        omega
    refine cm_if (fun c => cm_bind (cm_now fun _ => in_f _ _ _) (cm_if (fun c2 => ?_) (fun c2 => cm_now fun _ => ?_))) (fun c => cm_now fun _ => ?_)
    · simp only [decide_eq_true_eq] at c c2
      have ih := raftLog_l0 l m hl t (pre ++ [h]) (app_mid e) (by rw [hlast]; omega)
      rw [hlast, len_one] at ih
      refine cm_val ih ?_
      simp only [okFrom, hg, c, c2, and_self, decide_true, Bool.true_and]
    · simp only [decide_eq_true_eq] at c c2
      simp only [okFrom, hg, c2, and_false, decide_false, Bool.false_and]
    · simp only [decide_eq_true_eq] at c
      simp only [okFrom, hg, c, false_and, decide_false, Bool.false_and]
theorem raftLog_f (l : List S67) (m : Int) (hl : l.length ≤ 4611686018427387904) : Cm (fun k => impl_isRaftLog.f k l m) (goodLog m l) := by
  unfold impl_isRaftLog.f
  exact raftLog_l0 l m hl l [] rfl (by simp [lastTerm])
def down (x y : List S67) : Nat → Nat
  | 0 => 0
  | n + 1 => if (rd_T67 x (n : Int)).f0 = (rd_T67 y (n : Int)).f0 then n + 1 else down x y n
theorem down_le (x y : List S67) : ∀ n, down x y n ≤ n
  | 0 => Nat.le_refl _
  | n + 1 => by
    unfold down
    split
    · exact Nat.le_refl _
    · exact Nat.le_succ_of_le (down_le x y n)
def likeTo (x y : List S67) (n : Nat) : Bool := (List.range n).all (fun i => decide ((rd_T67 x (i : Int)).f0 = (rd_T67 y (i : Int)).f0 ∧ (rd_T67 x (i : Int)).f1 = (rd_T67 y (i : Int)).f1))
theorem range_at {n : Nat} {pre t : List Nat} {h : Nat} (e : pre ++ h :: t = List.range n) : h = pre.length ∧ h < n := by
  have h1 : (List.range n)[pre.length]? = some h := by rw [← e]; simp
  rw [List.getElem?_eq_some_iff] at h1
  obtain ⟨h2, h3⟩ := h1
  rw [List.getElem_range] at h3
  rw [List.length_range] at h2
  omega
theorem spec_like (x y : List S67) (n : Nat) (hx : n ≤ x.length) (hy : n ≤ y.length) (hn : n ≤ 4611686018427387904) : Cm (fun k => spec_LogsMatch.l1 k x y (n : Int) 0) (likeTo x y n, true) := by
  have hr : (List.range n).length = n := List.length_range
  refine cm_val (every_cm (L := fun k i => spec_LogsMatch.l1 k x y (n : Int) i) (List.range n) (fun i => decide ((rd_T67 x (i : Int)).f0 = (rd_T67 y (i : Int)).f0 ∧ (rd_T67 x (i : Int)).f1 = (rd_T67 y (i : Int)).f1)) (fin := (true, true)) (no := (false, true)) ?_ ?_ ?_) ?_
  · intro pre h t e hlt hp v hv
    obtain ⟨e1, e2⟩ := range_at e
    rw [hr] at hlt
    simp only [decide_eq_true_eq] at hp
    rw [e1] at hp
    refine cm_step (fun k => by rw [spec_LogsMatch.l1]) ?_
    simp only [wrap_len hlt hn]
    exact cm_yes (by omega) (cm_yes (by omega) (cm_yes (by omega) (cm_yes (by omega) (cm_no (by simp [hp]) hv))))
  · intro pre h t e hlt hp
    obtain ⟨e1, e2⟩ := range_at e
    simp only [decide_eq_false_iff_not] at hp
    rw [e1] at hp
    rw [hr] at hlt
    refine cm_step (fun k => by rw [spec_LogsMatch.l1]) ?_
    refine cm_yes (by omega) (cm_yes (by omega) (cm_yes (by omega) (cm_yes (by omega) (cm_yes ?_ (cm_now fun _ => rfl)))))
    by_cases c : (rd_T67 x (pre.length : Int)).f0 = (rd_T67 y (pre.length : Int)).f0
    · have : ¬ (rd_T67 x (pre.length : Int)).f1 = (rd_T67 y (pre.length : Int)).f1 := fun c2 => hp ⟨c, c2⟩
      simp [c, this]
    · simp [c]
  · intro _
    rw [hr]
    refine cm_step (fun k => by rw [spec_LogsMatch.l1]) ?_
    exact cm_no (by omega) (cm_now fun _ => rfl)
  · change (if likeTo x y n = true then (true, true) else (false, true)) = _
    cases likeTo x y n <;> rfl
theorem spec_up (x y : List S67) (hx : x.length ≤ 4611686018427387904) : Cm (fun k => spec_LogsMatch.l0 k x y 0 (x.length : Int) 0) (likeTo x y (down x y (min x.length y.length)), true) := by
  have key := same_cm (L := fun k i => spec_LogsMatch.l0 k x y ((down x y (min i.toNat y.length) : Nat) : Int) (x.length : Int) i) x (fin := (likeTo x y (down x y (min x.length y.length)), true)) ?_ ?_
  · simpa [down] using key
  · intro pre h t e hlt v hv
    simp only [Int.toNat_natCast] at hv ⊢
    refine cm_step (fun k => by rw [spec_LogsMatch.l0]) ?_
    simp only [wrap_len hlt hx]
    refine cm_yes (by omega) (cm_if (fun c => cm_yes (by omega) (cm_yes (by omega) ?_)) (fun c => ?_))
    · have e1 : min pre.length y.length = pre.length := by omega
      have e2 : min (pre.length + 1) y.length = pre.length + 1 := by omega
      rw [e2] at hv
      rw [e1]
      refine cm_if (fun c2 => ?_) (fun c2 => ?_)
      · rw [down, if_pos c2] at hv
        exact hv
      · rw [down, if_neg c2] at hv
        exact hv
    · have e1 : min pre.length y.length = y.length := by omega
      have e2 : min (pre.length + 1) y.length = y.length := by omega
      rw [e2] at hv
      rw [e1]
      exact hv
  · simp only [Int.toNat_natCast]
    have := down_le x y (min x.length y.length)
    refine cm_step (fun k => by rw [spec_LogsMatch.l0]) ?_
    exact cm_no (by omega) (spec_like x y _ (by omega) (by omega) (by omega))
def matched (x y : List S67) : Bool × Bool := if (goodLog 100 x && goodLog 100 y) = true then (likeTo x y (down x y (min x.length y.length)), true) else (false, false)
theorem spec_f (x y : List S67) (hx : x.length ≤ 4611686018427387904) (hy : y.length ≤ 4611686018427387904) : Cm (fun k => spec_LogsMatch.f k x y) (matched x y) := by
  unfold spec_LogsMatch.f matched
  have hj : ∀ q : Bool, Cm (fun k => spec_LogsMatch.j0 k x y q) (if q = true then (false, false) else (likeTo x y (down x y (min x.length y.length)), true)) := by
    intro q
    refine cm_step (fun k => by rw [spec_LogsMatch.j0]) ?_
    cases q
    · exact cm_no (by simp) (spec_up x y hx)
    · exact cm_yes rfl (cm_now fun _ => rfl)
  refine cm_bind (l10Log_f x 100 hx) (cm_if (fun c => cm_bind (l10Log_f y 100 hy) (cm_val (hj _) ?_)) (fun c => cm_val (hj _) ?_))
  · rw [c]; cases goodLog 100 y <;> rfl
  · have c2 : goodLog 100 x = false := by simpa using c
    rw [c2]; rfl
end Go.Proofs.Ytomdjipejoafgaa.Logs
end
section
namespace Go.Proofs.Ytomdjipejoafgaa.Raft
open Go.RowKit Go.Proofs.Ytomdjipejoafgaa.P Go.Proofs.YtomdjipejoafgaaW.PrintWords Go.Proofs.YtomdjipejoafgaaW.PrintLast Go.Proofs.YtomdjipejoafgaaW.PrintMore
open Go.Proofs.Ytomdjipejoafgaa.Pl Go.Proofs.Ytomdjipejoafgaa.EvN Go.Proofs.Ytomdjipejoafgaa.Lp Go.Proofs.Ytomdjipejoafgaa.Mem Go.Proofs.Ytomdjipejoafgaa.Hg Go.Proofs.Ytomdjipejoafgaa.Logs
set_option linter.unusedSimpArgs false
set_option linter.unusedVariables false
def mark1 (p1 : Bool) (n : Nat) (x : Int) : Bool := decide ((0 ≤ x ∧ x ≤ (n : Int)) ∧ (p1 = true ∨ x = 0))
def goodPeer (n : Nat) (p : S98) : Bool := decide (0 ≤ p.f0 ∧ p.f0 ≤ 100) && goodLog p.f0 p.f2 && decide ((0 ≤ p.f3 ∧ p.f3 ≤ (p.f2.length : Int)) ∧ p.f4.length = n) && p.f4.all (mark1 p.f1 p.f2.length)
def headOk (n : Nat) (m : S126) : Bool := decide ((0 ≤ m.f1 ∧ m.f1 < (n : Int)) ∧ (0 ≤ m.f2 ∧ m.f2 < (n : Int)) ∧ m.f1 ≠ m.f2 ∧ (0 ≤ m.f3 ∧ m.f3 ≤ 100))
def entryOk (lo hi : Int) (e : S67) : Bool := decide ((lo ≤ e.f0 ∧ 0 ≤ e.f0 ∧ e.f0 ≤ hi) ∧ (0 ≤ e.f1 ∧ e.f1 ≤ 99))
def tailOk (m : S126) : Bool := if m.f0 = true then decide (m.f4 = 0 ∧ m.f5 = 0 ∧ m.f6.length = 0 ∧ m.f7 = 0 ∧ (0 ≤ m.f8 ∧ m.f8 ≤ 30))
  else decide ((0 ≤ m.f4 ∧ m.f4 ≤ 30) ∧ (-1 ≤ m.f5 ∧ m.f5 ≤ m.f3) ∧ ((m.f4 = 0) ↔ (m.f5 = -1)) ∧ (0 ≤ m.f7 ∧ m.f7 ≤ 30) ∧ m.f8 = 0 ∧ m.f6.length ≤ 1) && m.f6.all (entryOk m.f5 m.f3)
def goodMail (n : Nat) (m : S126) : Bool := headOk n m && tailOk m
def sizesOk (x : S37) : Bool := decide ((1 ≤ x.f0.length ∧ x.f0.length ≤ 5) ∧ x.f1.length ≤ 20)
def good (x : S37) : Bool := sizesOk x && x.f0.all (goodPeer x.f0.length) && x.f1.all (goodMail x.f0.length)
theorem no_of {p : Prop} [Decidable p] {q : Bool} (h : ¬ p) : (some false : Option Bool) = some (decide p && q) := by simp [h]
theorem no_dec {p : Prop} [Decidable p] (h : ¬ p) : (some false : Option Bool) = some (decide p) := by simp [h]
theorem same_none {a b : Int} : (((a == 0) != (b == (-1))) = true) ↔ ¬ ((a = 0) ↔ (b = -1)) := by
  have e1 : (a == 0) = decide (a = 0) := by by_cases h : a = 0 <;> simp [h]
  have e2 : (b == (-1)) = decide (b = -1) := by by_cases h : b = -1 <;> simp [h]
  rw [e1, e2]
  by_cases h1 : a = 0 <;> by_cases h2 : b = -1 <;> simp [h1, h2]
theorem same_none2 {a b : Int} : (((b == (-1)) != (a == 0)) = true) ↔ ¬ ((a = 0) ↔ (b = -1)) := by
  have e1 : (a == 0) = decide (a = 0) := by by_cases h : a = 0 <;> simp [h]
  have e2 : (b == (-1)) = decide (b = -1) := by by_cases h : b = -1 <;> simp [h]
  rw [e1, e2]
  by_cases h1 : a = 0 <;> by_cases h2 : b = -1 <;> simp [h1, h2]
theorem peer_l0 (q : Bool) (l : List Int) (t : Int) (log : List S67) (c : Int) (hl : l.length ≤ 4611686018427387904) : Cm (fun k => spec_l10Peer.l0 k l (l.length : Int) 0 t q log c l) (l.all (mark1 q log.length)) := by
  refine cm_val (every_cm (L := fun k i => spec_l10Peer.l0 k l (l.length : Int) i t q log c l) l (mark1 q log.length) (fin := true) (no := false) ?_ ?_ ?_) (if_self _)
  · intro pre h t' e hlt hp v hv
    simp only [mark1, decide_eq_true_eq] at hp
    refine cm_step (fun k => by rw [spec_l10Peer.l0]) ?_
    simp only [rd_at e, wrap_len hlt hl]
    refine cm_yes (by omega) (cm_yes (by omega) (cm_yes (by omega) (cm_no (by omega) (cm_no (by omega) ?_))))
    refine cm_if (fun _ => hv) (fun c => cm_yes ?_ hv)
    rcases hp.2 with h2 | h2
    · exact absurd h2 c
    · exact h2
  · intro pre h t' e hlt hp
    simp only [mark1, decide_eq_false_iff_not] at hp
    refine cm_step (fun k => by rw [spec_l10Peer.l0]) ?_
    simp only [rd_at e, wrap_len hlt hl]
    refine cm_yes (by omega) (cm_yes (by omega) (cm_yes (by omega) (cm_if (fun _ => cm_now fun _ => rfl) (fun c1 => cm_if (fun _ => cm_now fun _ => rfl) (fun c2 => ?_)))))
    refine cm_no (fun c => hp ⟨⟨by omega, by omega⟩, .inl c⟩) (cm_no (fun c => hp ⟨⟨by omega, by omega⟩, .inr c⟩) (cm_now fun _ => rfl))
  · intro _
    refine cm_step (fun k => by rw [spec_l10Peer.l0]) ?_
    exact cm_no (by omega) (cm_now fun _ => rfl)
theorem peer_f (ps : List S98) (ms : List S126) (p : S98) (h : smPeer p) : Cm (fun k => spec_l10Peer.f k ps ms p.f0 p.f1 p.f2 p.f3 p.f4) (goodPeer ps.length p) := by
  have h2 := h.2.2.1.1
  have h4 := h.2.2.2.2
  unfold spec_l10Peer.f goodPeer
  have hj : ∀ q : Bool, Cm (fun k => spec_l10Peer.j0 k q p.f0 p.f1 p.f2 p.f3 p.f4) (!q && p.f4.all (mark1 p.f1 p.f2.length)) := by
    intro q
    refine cm_step (fun k => by rw [spec_l10Peer.j0]) ?_
    cases q
    · exact cm_no (by simp) (cm_val (peer_l0 p.f1 p.f4 p.f0 p.f2 p.f3 h4) (by simp))
    · exact cm_yes rfl (cm_now fun _ => rfl)
  refine cm_bind (cm_now fun _ => l1In_f _ _ _) (cm_if (fun c => cm_bind (l10Log_f p.f2 p.f0 h2) (cm_if (fun c2 => cm_if (fun c3 => cm_val (hj _) ?_) (fun c3 => cm_if (fun c4 => cm_val (hj _) ?_) (fun c4 => cm_val (hj _) ?_))) (fun c2 => cm_val (hj _) ?_))) (fun c => cm_val (hj _) ?_))
  · have : ¬ ((0 ≤ p.f3 ∧ p.f3 ≤ (p.f2.length : Int)) ∧ p.f4.length = ps.length) := by omega
    simp [this]
  · have : ¬ ((0 ≤ p.f3 ∧ p.f3 ≤ (p.f2.length : Int)) ∧ p.f4.length = ps.length) := by omega
    simp [this]
  · rw [c, c2]
    by_cases c5 : p.f4.length = ps.length
    · have : (0 ≤ p.f3 ∧ p.f3 ≤ (p.f2.length : Int)) ∧ p.f4.length = ps.length := by omega
      simp only [this, c5, bne_self_eq_false, Bool.not_false, Bool.true_and, decide_true, _root_.and_self]
    · have e : (((p.f4.length : Int)) != ((ps.length : Int))) = true := by simp; omega
      simp [e, c5]
  · simp [c2]
  · have : decide (0 ≤ p.f0 ∧ p.f0 ≤ 100) = false := by simpa using c
    rw [this]; rfl
theorem mail_j0 (m : S126) (hl : m.f6.length ≤ 4611686018427387904) : Cm (fun k => spec_l10Mail.j0 k false m.f0 m.f1 m.f2 m.f3 m.f4 m.f5 m.f6 m.f7 m.f8) (tailOk m) := by
  refine cm_step (fun k => by rw [spec_l10Mail.j0]) ?_
  refine cm_no (by simp) ?_
  unfold tailOk
  refine cm_if (fun c => ?_) (fun c => ?_)
  · rw [if_pos c]
    refine cm_if (fun c1 => cm_if (fun c2 => cm_if (fun c3 => cm_if (fun c4 => cm_bind (cm_now fun _ => l1In_f _ _ _) (cm_now fun _ => ?_)) (fun c4 => cm_now fun _ => no_dec (by omega))) (fun c3 => cm_now fun _ => no_dec (by omega))) (fun c2 => cm_now fun _ => no_dec (by omega))) (fun c1 => cm_now fun _ => no_dec (by omega))
    congr 1
    rw [decide_eq_decide]
    omega
  · rw [if_neg c]
    refine cm_bind (cm_now fun _ => l1In_f _ _ _) (cm_if (fun c1 => cm_bind (cm_now fun _ => l1In_f _ _ _) (cm_if (fun c2 => cm_if (fun c3 => cm_now fun _ => ?_) (fun c3 => cm_bind (cm_now fun _ => l1In_f _ _ _) (cm_if (fun c4 => cm_if (fun c5 => cm_if (fun c6 => cm_now fun _ => ?_) (fun c6 => cm_bind (l10Log_f m.f6 m.f3 hl) ?_)) (fun c5 => cm_now fun _ => ?_)) (fun c4 => cm_now fun _ => ?_)))) (fun c2 => cm_now fun _ => ?_))) (fun c1 => cm_now fun _ => ?_))
    · rw [same_none] at c3
      exact no_of (fun h => c3 h.2.2.1)
    · exact no_of (fun h => by have := h.2.2.2.2.2; omega)
    · rw [same_none] at c3
      simp only [decide_eq_true_eq] at c1 c2 c4
      have c3' : (m.f4 = 0) ↔ (m.f5 = -1) := by
        by_cases z : (m.f4 = 0) ↔ (m.f5 = -1)
        · exact z
        · exact absurd z c3
      have e1 : decide ((0 ≤ m.f4 ∧ m.f4 ≤ 30) ∧ (-1 ≤ m.f5 ∧ m.f5 ≤ m.f3) ∧ ((m.f4 = 0) ↔ (m.f5 = -1)) ∧ (0 ≤ m.f7 ∧ m.f7 ≤ 30) ∧ m.f8 = 0 ∧ m.f6.length ≤ 1) = true := by
        rw [decide_eq_true_eq]
        exact ⟨c1, c2, c3', c4, c5, by omega⟩
      rw [e1, Bool.true_and]
      match e6 : m.f6, c6 with
      | [], _ => exact cm_yes (by simp [goodLog, okFrom]) (cm_yes (by simp) (cm_now fun _ => rfl))
      | [e], _ =>
        have eg : goodLog m.f3 [e] = decide ((0 ≤ e.f0 ∧ e.f0 ≤ m.f3) ∧ (0 ≤ e.f1 ∧ e.f1 ≤ 99)) := by simp [goodLog, okFrom, goodLog1]
        rw [eg]
        refine cm_if (fun c7 => cm_no (by simp) (cm_yes (by simp) (cm_now fun _ => ?_))) (fun c7 => cm_now fun _ => ?_)
        · simp only [decide_eq_true_eq] at c7
          have er : rd_T67 [e] 0 = e := rfl
          simp only [List.all_cons, List.all_nil, Bool.and_true, entryOk, er]
          congr 1
          rw [decide_eq_decide]
          omega
        · simp only [decide_eq_true_eq] at c7
          simp only [List.all_cons, List.all_nil, Bool.and_true, entryOk]
          exact no_dec (by omega)
      | e :: e2 :: t, c6 => exact absurd (show ((e :: e2 :: t).length : Int) > 1 by simp only [List.length_cons]; omega) c6
    · exact no_of (fun h => c5 h.2.2.2.2.1)
    · exact no_of (fun h => c4 (by simpa using h.2.2.2.1))
    · exact no_of (fun h => c2 (by simpa using h.2.1))
    · exact no_of (fun h => c1 (by simpa using h.1))
theorem mail_no (m : S126) : Cm (fun k => spec_l10Mail.j0 k true m.f0 m.f1 m.f2 m.f3 m.f4 m.f5 m.f6 m.f7 m.f8) false := by
  refine cm_step (fun k => by rw [spec_l10Mail.j0]) ?_
  exact cm_yes rfl (cm_now fun _ => rfl)
theorem there_f (ps : List S98) (ms : List S126) (i : Int) : spec_l10There.f ps ms i = some (decide (0 ≤ i ∧ i < (ps.length : Int))) := by
  unfold spec_l10There.f
  by_cases h : i ≥ 0
  · rw [if_pos h]; congr 1; rw [decide_eq_decide]; omega
  · rw [if_neg h]; congr 1; symm; rw [decide_eq_false_iff_not]; omega
theorem mail_f (ps : List S98) (ms : List S126) (m : S126) (h : smMail m) : Cm (fun k => spec_l10Mail.f k ps ms m.f0 m.f1 m.f2 m.f3 m.f4 m.f5 m.f6 m.f7 m.f8) (goodMail ps.length m) := by
  have hl := h.2.2.2.2.2.2.1.1
  unfold spec_l10Mail.f goodMail headOk
  refine cm_bind (cm_now fun _ => there_f _ _ _) (cm_if (fun c => cm_bind (cm_now fun _ => there_f _ _ _) (cm_if (fun c2 => cm_if (fun c3 => cm_val (mail_no m) ?_) (fun c3 => cm_bind (cm_now fun _ => l1In_f _ _ _) ?_)) (fun c2 => cm_val (mail_no m) ?_))) (fun c => cm_val (mail_no m) ?_))
  · simp [c3]
  · simp only [decide_eq_true_eq] at c c2
    by_cases c4 : 0 ≤ m.f3 ∧ m.f3 ≤ 100
    · have e1 : decide ((0 ≤ m.f1 ∧ m.f1 < (ps.length : Int)) ∧ (0 ≤ m.f2 ∧ m.f2 < (ps.length : Int)) ∧ m.f1 ≠ m.f2 ∧ (0 ≤ m.f3 ∧ m.f3 ≤ 100)) = true := by
        rw [decide_eq_true_eq]; exact ⟨c, c2, c3, c4⟩
      rw [e1, Bool.true_and]
      simp only [c4, _root_.and_self, decide_true, Bool.not_true]
      exact mail_j0 m hl
    · have e1 : decide ((0 ≤ m.f1 ∧ m.f1 < (ps.length : Int)) ∧ (0 ≤ m.f2 ∧ m.f2 < (ps.length : Int)) ∧ m.f1 ≠ m.f2 ∧ (0 ≤ m.f3 ∧ m.f3 ≤ 100)) = false := by
        rw [decide_eq_false_iff_not]; exact fun z => c4 z.2.2.2
      rw [e1, Bool.false_and]
      simp only [c4, decide_false, Bool.not_false]
      exact mail_no m
  · simp only [decide_eq_true_eq] at c2
    simp [c2]
  · simp only [decide_eq_true_eq] at c
    simp [c]
theorem spec_f (x : S37) (h : smRaft x) : Cm (fun k => spec_GoodRaft.f k x.f0 x.f1) (good x) := by
  obtain ⟨⟨h0, h1⟩, ⟨h2, h3⟩⟩ := h
  unfold spec_GoodRaft.f
  have hm : Cm (fun k => spec_GoodRaft.l1 k x.f1 (x.f1.length : Int) 0 x.f0 x.f1) (sizesOk x && x.f1.all (goodMail x.f0.length)) := by
    refine cm_val (every_cm (L := fun k i => spec_GoodRaft.l1 k x.f1 (x.f1.length : Int) i x.f0 x.f1) x.f1 (goodMail x.f0.length) (fin := sizesOk x) (no := false) ?_ ?_ ?_) ?_
    · intro pre h t e hlt hp v hv
      have hh := h3 h (by rw [← e]; simp)
      refine cm_step (fun k => by rw [spec_GoodRaft.l1]) ?_
      simp only [rdT126_at e, wrap_len hlt h2]
      exact cm_yes (by omega) (cm_yes (by omega) (cm_yes (by omega) (cm_bind (mail_f x.f0 x.f1 h hh) (cm_yes hp hv))))
    · intro pre h t e hlt hp
      have hh := h3 h (by rw [← e]; simp)
      refine cm_step (fun k => by rw [spec_GoodRaft.l1]) ?_
      simp only [rdT126_at e, wrap_len hlt h2]
      exact cm_yes (by omega) (cm_yes (by omega) (cm_yes (by omega) (cm_bind (mail_f x.f0 x.f1 h hh) (cm_no (by simp [hp]) (cm_now fun _ => rfl)))))
    · intro _
      refine cm_step (fun k => by rw [spec_GoodRaft.l1]) ?_
      unfold sizesOk
      refine cm_no (by omega) (cm_bind (cm_now fun _ => l1In_f _ _ _) (cm_if (fun c => cm_now fun _ => ?_) (fun c => cm_now fun _ => ?_)))
      · simp only [decide_eq_true_eq] at c
        congr 1
        rw [decide_eq_decide]
        omega
      · simp only [decide_eq_true_eq] at c
        exact no_dec (by omega)
    · cases x.f1.all (goodMail x.f0.length) <;> simp
  refine cm_val (every_cm (L := fun k i => spec_GoodRaft.l0 k x.f0 (x.f0.length : Int) i x.f0 x.f1) x.f0 (goodPeer x.f0.length) (fin := sizesOk x && x.f1.all (goodMail x.f0.length)) (no := false) ?_ ?_ ?_) ?_
  · intro pre h t e hlt hp v hv
    have hh := h1 h (by rw [← e]; simp)
    refine cm_step (fun k => by rw [spec_GoodRaft.l0]) ?_
    simp only [rdT98_at e, wrap_len hlt h0]
    exact cm_yes (by omega) (cm_yes (by omega) (cm_yes (by omega) (cm_bind (peer_f x.f0 x.f1 h hh) (cm_yes hp hv))))
  · intro pre h t e hlt hp
    have hh := h1 h (by rw [← e]; simp)
    refine cm_step (fun k => by rw [spec_GoodRaft.l0]) ?_
    simp only [rdT98_at e, wrap_len hlt h0]
    exact cm_yes (by omega) (cm_yes (by omega) (cm_yes (by omega) (cm_bind (peer_f x.f0 x.f1 h hh) (cm_no (by simp [hp]) (cm_now fun _ => rfl)))))
  · intro _
    refine cm_step (fun k => by rw [spec_GoodRaft.l0]) ?_
    exact cm_no (by omega) hm
  · unfold good
    cases x.f0.all (goodPeer x.f0.length) <;> simp
theorem mx_in (a lo hi : Int) : (mx lo 0 ≤ a ∧ a ≤ hi) ↔ (lo ≤ a ∧ 0 ≤ a ∧ a ≤ hi) := by
  unfold mx
  split <;> omega
theorem badEntry_f (e : S67) (m : S126) : impl_isMail_1.f e.f0 e.f1 m.f0 m.f1 m.f2 m.f3 m.f4 m.f5 m.f6 m.f7 m.f8 = some (!entryOk m.f5 m.f3 e) := by
  unfold impl_isMail_1.f entryOk
  rw [in_f, in_f]
  simp only [Option.bind_some, mx_in]
  by_cases c : m.f5 ≤ e.f0 ∧ 0 ≤ e.f0 ∧ e.f0 ≤ m.f3
  · rw [if_pos (by simpa using c)]
    simp [c]
  · rw [if_neg (by simpa using c)]
    simp [c]
theorem anyBad_f (m : S126) (l : List S67) (hl : l.length ≤ 4611686018427387904) : Cm (fun k => impl_Entry_of_impl_isMail_1.f k l m.f0 m.f1 m.f2 m.f3 m.f4 m.f5 m.f6 m.f7 m.f8) (!l.all (entryOk m.f5 m.f3)) := by
  unfold impl_Entry_of_impl_isMail_1.f impl_Entry_of_impl_isMail_1_100003.f
  refine cm_bind (t := foundAt (fun e => !entryOk m.f5 m.f3 e) (fun i _ => (i : Int)) (-1) 0 l) ?_ (cm_now fun _ => ?_)
  · refine find_cm (L := fun k i => impl_Entry_of_impl_isMail_1_100003.l0 k l (l.length : Int) i m.f0 m.f1 m.f2 m.f3 m.f4 m.f5 m.f6 m.f7 m.f8) l (fun e => !entryOk m.f5 m.f3 e) (fun i _ => (i : Int)) (none_ := (-1 : Int)) ?_ ?_ ?_
    · intro pre h t e hlt hp v hv
      refine cm_step (fun k => by rw [impl_Entry_of_impl_isMail_1_100003.l0]) ?_
      simp only [rdT67_at e, wrap_len hlt hl]
      exact cm_yes (by omega) (cm_yes (by omega) (cm_yes (by omega) (cm_bind (cm_now fun _ => badEntry_f h m) (cm_no (by simp [hp]) hv))))
    · intro pre h t e hlt hp
      refine cm_step (fun k => by rw [impl_Entry_of_impl_isMail_1_100003.l0]) ?_
      simp only [rdT67_at e, wrap_len hlt hl]
      exact cm_yes (by omega) (cm_yes (by omega) (cm_yes (by omega) (cm_bind (cm_now fun _ => badEntry_f h m) (cm_yes hp (cm_now fun _ => rfl)))))
    · refine cm_step (fun k => by rw [impl_Entry_of_impl_isMail_1_100003.l0]) ?_
      exact cm_no (by omega) (cm_now fun _ => rfl)
  · rw [found_any, ← not_any (fun e => !entryOk m.f5 m.f3 e) (entryOk m.f5 m.f3) l (fun _ _ => rfl), Bool.not_not]
theorem impl_mail_no (m : S126) : Cm (fun k => impl_isMail.j0 k true m.f0 m.f1 m.f2 m.f3 m.f4 m.f5 m.f6 m.f7 m.f8) false := by
  refine cm_step (fun k => by rw [impl_isMail.j0]) ?_
  exact cm_yes rfl (cm_now fun _ => rfl)
theorem impl_mail_j0 (m : S126) (hl : m.f6.length ≤ 4611686018427387904) : Cm (fun k => impl_isMail.j0 k false m.f0 m.f1 m.f2 m.f3 m.f4 m.f5 m.f6 m.f7 m.f8) (tailOk m) := by
  refine cm_step (fun k => by rw [impl_isMail.j0]) ?_
  refine cm_no (by simp) ?_
  unfold tailOk
  refine cm_if (fun c => ?_) (fun c => ?_)
  · rw [if_pos c]
    refine cm_if (fun c1 => cm_if (fun c2 => cm_if (fun c3 => cm_if (fun c4 => cm_bind (cm_now fun _ => in_f _ _ _) (cm_now fun _ => ?_)) (fun c4 => cm_now fun _ => no_dec (by omega))) (fun c3 => cm_now fun _ => no_dec (by omega))) (fun c2 => cm_now fun _ => no_dec (by omega))) (fun c1 => cm_now fun _ => no_dec (by omega))
    congr 1
    rw [decide_eq_decide]
    omega
  · rw [if_neg c]
    refine cm_if (fun c5 => cm_bind (cm_now fun _ => in_f _ _ _) (cm_if (fun c1 => cm_bind (cm_now fun _ => in_f _ _ _) (cm_if (fun c4 => cm_bind (cm_now fun _ => in_f _ _ _) (cm_if (fun c2 => cm_if (fun c3 => cm_now fun _ => ?_) (fun c3 => cm_if (fun c6 => cm_now fun _ => ?_) (fun c6 => cm_bind (anyBad_f m m.f6 hl) (cm_now fun _ => ?_)))) (fun c2 => cm_now fun _ => ?_))) (fun c4 => cm_now fun _ => ?_))) (fun c1 => cm_now fun _ => ?_))) (fun c5 => cm_now fun _ => ?_)
    · rw [same_none2] at c3
      exact no_of (fun h => c3 h.2.2.1)
    · exact no_of (fun h => by have := h.2.2.2.2.2; omega)
    · rw [same_none2] at c3
      simp only [decide_eq_true_eq] at c1 c2 c4
      have c3' : (m.f4 = 0) ↔ (m.f5 = -1) := by
        by_cases z : (m.f4 = 0) ↔ (m.f5 = -1)
        · exact z
        · exact absurd z c3
      have e1 : decide ((0 ≤ m.f4 ∧ m.f4 ≤ 30) ∧ (-1 ≤ m.f5 ∧ m.f5 ≤ m.f3) ∧ ((m.f4 = 0) ↔ (m.f5 = -1)) ∧ (0 ≤ m.f7 ∧ m.f7 ≤ 30) ∧ m.f8 = 0 ∧ m.f6.length ≤ 1) = true := by
        rw [decide_eq_true_eq]
        exact ⟨c1, c2, c3', c4, c5, by omega⟩
      rw [e1, Bool.true_and, Bool.not_not]
    · exact no_of (fun h => c2 (by simpa using h.2.1))
    · exact no_of (fun h => c4 (by simpa using h.2.2.2.1))
    · exact no_of (fun h => c1 (by simpa using h.1))
    · exact no_of (fun h => c5 h.2.2.2.2.1)
theorem isMail_f (n : Nat) (hn : 1 ≤ n ∧ n ≤ 5) (m : S126) (h : smMail m) : Cm (fun k => impl_isMail.f k m.f0 m.f1 m.f2 m.f3 m.f4 m.f5 m.f6 m.f7 m.f8 (n : Int)) (goodMail n m) := by
  have hl := h.2.2.2.2.2.2.1.1
  have hw : wrap64 ((n : Int) - 1) = (n : Int) - 1 := wrap_in (by omega) (by omega)
  unfold impl_isMail.f goodMail headOk
  rw [hw]
  refine cm_bind (cm_now fun _ => in_f _ _ _) (cm_if (fun c => cm_bind (cm_now fun _ => in_f _ _ _) (cm_if (fun c2 => cm_if (fun c3 => cm_val (impl_mail_no m) ?_) (fun c3 => cm_bind (cm_now fun _ => in_f _ _ _) ?_)) (fun c2 => cm_val (impl_mail_no m) ?_))) (fun c => cm_val (impl_mail_no m) ?_))
  · simp [c3]
  · simp only [decide_eq_true_eq] at c c2
    by_cases c4 : 0 ≤ m.f3 ∧ m.f3 ≤ 100
    · have e1 : decide ((0 ≤ m.f1 ∧ m.f1 < (n : Int)) ∧ (0 ≤ m.f2 ∧ m.f2 < (n : Int)) ∧ m.f1 ≠ m.f2 ∧ (0 ≤ m.f3 ∧ m.f3 ≤ 100)) = true := by
        rw [decide_eq_true_eq]; exact ⟨by omega, by omega, c3, c4⟩
      rw [e1, Bool.true_and]
      simp only [c4, _root_.and_self, decide_true, Bool.not_true]
      exact impl_mail_j0 m hl
    · have e1 : decide ((0 ≤ m.f1 ∧ m.f1 < (n : Int)) ∧ (0 ≤ m.f2 ∧ m.f2 < (n : Int)) ∧ m.f1 ≠ m.f2 ∧ (0 ≤ m.f3 ∧ m.f3 ≤ 100)) = false := by
        rw [decide_eq_false_iff_not]; exact fun z => c4 z.2.2.2
      rw [e1, Bool.false_and]
      simp only [c4, decide_false, Bool.not_false]
      exact impl_mail_no m
  · simp only [decide_eq_true_eq] at c2
    have e1 : decide ((0 ≤ m.f1 ∧ m.f1 < (n : Int)) ∧ (0 ≤ m.f2 ∧ m.f2 < (n : Int)) ∧ m.f1 ≠ m.f2 ∧ (0 ≤ m.f3 ∧ m.f3 ≤ 100)) = false := by
      rw [decide_eq_false_iff_not]; exact fun z => c2 ⟨z.2.1.1, by omega⟩
    rw [e1]; rfl
  · simp only [decide_eq_true_eq] at c
    have e1 : decide ((0 ≤ m.f1 ∧ m.f1 < (n : Int)) ∧ (0 ≤ m.f2 ∧ m.f2 < (n : Int)) ∧ m.f1 ≠ m.f2 ∧ (0 ≤ m.f3 ∧ m.f3 ≤ 100)) = false := by
      rw [decide_eq_false_iff_not]; exact fun z => c ⟨z.1.1, by omega⟩
    rw [e1]; rfl
theorem anyMail_f (n : Nat) (hn : 1 ≤ n ∧ n ≤ 5) (l : List S126) (hl : l.length ≤ 4611686018427387904) (hs : ∀ y ∈ l, smMail y) : Cm (fun k => impl_Mail_of_impl_isRaft_1.f k l (n : Int)) (!l.all (goodMail n)) := by
  unfold impl_Mail_of_impl_isRaft_1.f impl_Mail_of_impl_isRaft_1_100005.f
  refine cm_bind (t := foundAt (fun e => !goodMail n e) (fun i _ => (i : Int)) (-1) 0 l) ?_ (cm_now fun _ => ?_)
  · have hc : ∀ h ∈ l, Cm (fun k => impl_isRaft_1.f k h.f0 h.f1 h.f2 h.f3 h.f4 h.f5 h.f6 h.f7 h.f8 (n : Int)) (!goodMail n h) := by
      intro h hh
      unfold impl_isRaft_1.f
      exact cm_bind (isMail_f n hn h (hs h hh)) (cm_now fun _ => rfl)
    refine find_cm (L := fun k i => impl_Mail_of_impl_isRaft_1_100005.l0 k l (l.length : Int) i (n : Int)) l (fun e => !goodMail n e) (fun i _ => (i : Int)) (none_ := (-1 : Int)) ?_ ?_ ?_
    · intro pre h t e hlt hp v hv
      refine cm_step (fun k => by rw [impl_Mail_of_impl_isRaft_1_100005.l0]) ?_
      simp only [rdT126_at e, wrap_len hlt hl]
      exact cm_yes (by omega) (cm_yes (by omega) (cm_yes (by omega) (cm_bind (hc h (by rw [← e]; simp)) (cm_no (by simp [hp]) hv))))
    · intro pre h t e hlt hp
      refine cm_step (fun k => by rw [impl_Mail_of_impl_isRaft_1_100005.l0]) ?_
      simp only [rdT126_at e, wrap_len hlt hl]
      exact cm_yes (by omega) (cm_yes (by omega) (cm_yes (by omega) (cm_bind (hc h (by rw [← e]; simp)) (cm_yes hp (cm_now fun _ => rfl)))))
    · refine cm_step (fun k => by rw [impl_Mail_of_impl_isRaft_1_100005.l0]) ?_
      exact cm_no (by omega) (cm_now fun _ => rfl)
  · rw [found_any, ← not_any (fun e => !goodMail n e) (goodMail n) l (fun _ _ => rfl), Bool.not_not]
theorem impl_marks (ps : List S98) (ms : List S126) (i : Nat) (p : S98) (h4 : p.f4.length ≤ 4611686018427387904) (v : Bool) (hv : p.f4.all (mark1 p.f1 p.f2.length) = true → Cm (fun k => impl_isRaft.l0 k ps (ps.length : Int) (wrap64 ((i : Int) + 1)) ps ms (ps.length : Int)) v) (hn : p.f4.all (mark1 p.f1 p.f2.length) = false → v = false) :
    Cm (fun k => impl_isRaft.l1 k ps (ps.length : Int) (i : Int) p.f4 (p.f4.length : Int) 0 ps ms (ps.length : Int) p.f0 p.f1 p.f2 p.f3 p.f4) v := by
  have key := every_cm (L := fun k j => impl_isRaft.l1 k ps (ps.length : Int) (i : Int) p.f4 (p.f4.length : Int) j ps ms (ps.length : Int) p.f0 p.f1 p.f2 p.f3 p.f4) p.f4 (mark1 p.f1 p.f2.length) (fin := v) (no := false) ?_ ?_ ?_
  · refine cm_val key ?_
    cases e : p.f4.all (mark1 p.f1 p.f2.length)
    · rw [hn e]; rfl
    · rfl
  · intro pre h t' e hlt hp u hu
    simp only [mark1, decide_eq_true_eq] at hp
    refine cm_step (fun k => by rw [impl_isRaft.l1]) ?_
    simp only [rd_at e, wrap_len hlt h4]
    refine cm_yes (by omega) (cm_yes (by omega) (cm_yes (by omega) (cm_bind (cm_now fun _ => in_f _ _ _) (cm_yes (by simpa using hp.1) ?_))))
    refine cm_if (fun _ => hu) (fun c => cm_yes ?_ hu)
    rcases hp.2 with h2 | h2
    · exact absurd h2 c
    · exact h2
  · intro pre h t' e hlt hp
    simp only [mark1, decide_eq_false_iff_not] at hp
    refine cm_step (fun k => by rw [impl_isRaft.l1]) ?_
    simp only [rd_at e, wrap_len hlt h4]
    refine cm_yes (by omega) (cm_yes (by omega) (cm_yes (by omega) (cm_bind (cm_now fun _ => in_f _ _ _) (cm_if (fun c => ?_) (fun _ => cm_now fun _ => rfl)))))
    simp only [decide_eq_true_eq] at c
    exact cm_no (fun c2 => hp ⟨c, .inl c2⟩) (cm_no (fun c2 => hp ⟨c, .inr c2⟩) (cm_now fun _ => rfl))
  · intro hall
    refine cm_step (fun k => by rw [impl_isRaft.l1]) ?_
    exact cm_no (by omega) (hv hall)
theorem impl_j2 (ps : List S98) (ms : List S126) (i : Nat) (p : S98) (q : Bool) (h4 : p.f4.length ≤ 4611686018427387904) (v : Bool) (hv : (!q && p.f4.all (mark1 p.f1 p.f2.length)) = true → Cm (fun k => impl_isRaft.l0 k ps (ps.length : Int) (wrap64 ((i : Int) + 1)) ps ms (ps.length : Int)) v) (hn : (!q && p.f4.all (mark1 p.f1 p.f2.length)) = false → v = false) :
    Cm (fun k => impl_isRaft.j2 k ps (ps.length : Int) (i : Int) q ps ms (ps.length : Int) p.f0 p.f1 p.f2 p.f3 p.f4) v := by
  refine cm_step (fun k => by rw [impl_isRaft.j2]) ?_
  cases q
  · exact cm_no (by simp) (impl_marks ps ms i p h4 v (fun h => hv (by simpa using h)) (fun h => hn (by rw [h]; rfl)))
  · refine cm_yes rfl (cm_now fun _ => ?_)
    rw [hn rfl]
theorem impl_peers (ps : List S98) (ms : List S126) (hn : 1 ≤ ps.length ∧ ps.length ≤ 5) (hs : ∀ y ∈ ps, smPeer y) (hl2 : ms.length ≤ 4611686018427387904) (hs2 : ∀ y ∈ ms, smMail y) : Cm (fun k => impl_isRaft.l0 k ps (ps.length : Int) 0 ps ms (ps.length : Int)) (ps.all (goodPeer ps.length) && ms.all (goodMail ps.length)) := by
  have hl : ps.length ≤ 4611686018427387904 := by omega
  have key : ∀ (pre : List S98) (h : S98) (t : List S98), pre ++ h :: t = ps → pre.length < ps.length → ∀ v : Bool, (goodPeer ps.length h = true → Cm (fun k => impl_isRaft.l0 k ps (ps.length : Int) ((pre.length + 1 : Nat) : Int) ps ms (ps.length : Int)) v) → (goodPeer ps.length h = false → v = false) →
      Cm (fun k => impl_isRaft.l0 k ps (ps.length : Int) (pre.length : Int) ps ms (ps.length : Int)) v := by
    intro pre h t e hlt v hv hno
    have hh := hs h (by rw [← e]; simp)
    have h2 := hh.2.2.1.1
    have h4 := hh.2.2.2.2
    have hj : ∀ q : Bool, goodPeer ps.length h = (!q && h.f4.all (mark1 h.f1 h.f2.length)) → Cm (fun k => impl_isRaft.j2 k ps (ps.length : Int) (pre.length : Int) q ps ms (ps.length : Int) h.f0 h.f1 h.f2 h.f3 h.f4) v := by
      intro q hq
      refine impl_j2 ps ms pre.length h q h4 v (fun z => ?_) (fun z => hno (by rw [hq]; exact z))
      rw [wrap_len hlt hl]
      exact hv (by rw [hq]; exact z)
    refine cm_step (fun k => by rw [impl_isRaft.l0]) ?_
    simp only [rdT98_at e]
    refine cm_yes (by omega) (cm_yes (by omega) (cm_yes (by omega) (cm_bind (cm_now fun _ => in_f _ _ _) (cm_if (fun c => cm_bind (raftLog_f h.f2 h.f0 h2) (cm_if (fun c2 => cm_bind (cm_now fun _ => in_f _ _ _) (cm_if (fun c3 => hj _ ?_) (fun c3 => hj _ ?_))) (fun c2 => hj _ ?_))) (fun c => hj _ ?_)))))
    · simp only [decide_eq_true_eq] at c3
      unfold goodPeer
      rw [c, c2]
      by_cases c5 : h.f4.length = ps.length
      · simp only [c3, c5, bne_self_eq_false, Bool.not_false, Bool.true_and, decide_true, _root_.and_self]
      · have e : (((h.f4.length : Int)) != ((ps.length : Int))) = true := by simp; omega
        simp [e, c5]
    · simp only [decide_eq_true_eq] at c3
      have : ¬ ((0 ≤ h.f3 ∧ h.f3 ≤ (h.f2.length : Int)) ∧ h.f4.length = ps.length) := fun z => c3 z.1
      unfold goodPeer
      simp [this]
    · unfold goodPeer
      simp [c2]
    · have : decide (0 ≤ h.f0 ∧ h.f0 ≤ 100) = false := by simpa using c
      unfold goodPeer
      rw [this]; rfl
  refine cm_val (every_cm (L := fun k i => impl_isRaft.l0 k ps (ps.length : Int) i ps ms (ps.length : Int)) ps (goodPeer ps.length) (fin := ms.all (goodMail ps.length)) (no := false) ?_ ?_ ?_) ?_
  · intro pre h t e hlt hp v hv
    exact key pre h t e hlt v (fun _ => hv) (by rw [hp]; simp)
  · intro pre h t e hlt hp
    exact key pre h t e hlt false (by rw [hp]; simp) (fun _ => rfl)
  · intro _
    refine cm_step (fun k => by rw [impl_isRaft.l0]) ?_
    exact cm_no (by omega) (cm_bind (anyMail_f ps.length hn ms hl2 hs2) (cm_now fun _ => by rw [Bool.not_not]))
  · cases ps.all (goodPeer ps.length) <;> simp
theorem isRaft_f (x : S37) (h : smRaft x) : Cm (fun k => impl_isRaft.f k x.f0 x.f1) (good x) := by
  obtain ⟨⟨h0, h1⟩, ⟨h2, h3⟩⟩ := h
  unfold impl_isRaft.f
  have hno : Cm (fun k => impl_isRaft.j0 k true x.f0 x.f1 (x.f0.length : Int)) false := by
    refine cm_step (fun k => by rw [impl_isRaft.j0]) ?_
    exact cm_yes rfl (cm_now fun _ => rfl)
  refine cm_bind (cm_now fun _ => in_f _ _ _) (cm_if (fun c => ?_) (fun c => cm_val hno ?_))
  · simp only [decide_eq_true_eq] at c
    by_cases c2 : x.f1.length ≤ 20
    · have e : decide ((x.f1.length : Int) > 20) = false := by rw [decide_eq_false_iff_not]; omega
      have e2 : sizesOk x = true := by simp only [sizesOk, decide_eq_true_eq]; omega
      rw [e]
      refine cm_step (fun k => by rw [impl_isRaft.j0]) ?_
      refine cm_no (by simp) (cm_val (impl_peers x.f0 x.f1 (by omega) h1 h2 h3) ?_)
      unfold good
      rw [e2, Bool.true_and]
    · have e : decide ((x.f1.length : Int) > 20) = true := by rw [decide_eq_true_eq]; omega
      have e2 : sizesOk x = false := by simp only [sizesOk, decide_eq_false_iff_not]; omega
      rw [e]
      refine cm_val hno ?_
      unfold good
      rw [e2]; rfl
  · simp only [decide_eq_true_eq] at c
    have e2 : sizesOk x = false := by simp only [sizesOk, decide_eq_false_iff_not]; omega
    unfold good
    rw [e2]; rfl
def entryAt (x : S37) (i j : Int) : Int × Int × Bool := if good x = true ∧ (0 ≤ i ∧ i < (x.f0.length : Int)) ∧ (0 ≤ j ∧ j < (((rd_T98 x.f0 i).f2).length : Int)) then ((rd_T67 ((rd_T98 x.f0 i).f2) j).f0, (rd_T67 ((rd_T98 x.f0 i).f2) j).f1, true) else (0, 0, false)
theorem specEntry_f (x : S37) (h : smRaft x) (i j : Int) : Cm (fun k => spec_EntryAt.f k x.f0 x.f1 i j) (entryAt x i j) := by
  unfold spec_EntryAt.f entryAt
  refine cm_bind (spec_f x h) (cm_if (fun c => cm_bind (cm_now fun _ => there_f _ _ _) (cm_if (fun c2 => ?_) (fun c2 => cm_now fun _ => ?_))) (fun c => cm_now fun _ => ?_))
  · simp only [decide_eq_true_eq] at c2
    refine cm_if (fun c3 => cm_now fun _ => ?_) (fun c3 => cm_yes c2.1 (cm_yes c2.2 (cm_if (fun c4 => cm_now fun _ => ?_) (fun c4 => cm_yes (by omega) (cm_yes (by omega) (cm_now fun _ => ?_))))))
    · rw [if_neg (fun z => by omega)]
    · rw [if_neg (fun z => by omega)]
    · rw [if_pos ⟨c, c2, by omega, by omega⟩]
  · simp only [decide_eq_true_eq] at c2
    rw [if_neg (fun z => c2 z.2.1)]
  · rw [if_neg (fun z => c z.1)]
theorem implEntry_f (x : S37) (h : smRaft x) (i j : Int) : Cm (fun k => impl_EntryAt.f k x.f0 x.f1 i j) (entryAt x i j) := by
  unfold impl_EntryAt.f entryAt
  have h0 := h.1.1
  have w1 : wrap64 ((x.f0.length : Int) - 1) = (x.f0.length : Int) - 1 := wrap_in (by omega) (by omega)
  refine cm_bind (isRaft_f x h) (cm_if (fun c => cm_bind (cm_now fun _ => in_f _ _ _) (cm_if (fun c2 => ?_) (fun c2 => cm_now fun _ => ?_))) (fun c => cm_now fun _ => ?_))
  · rw [w1] at c2
    simp only [decide_eq_true_eq] at c2
    have hm : rd_T98 x.f0 i ∈ x.f0 := by
      unfold rd_T98
      rw [List.getD_eq_getElem?_getD, List.getElem?_eq_getElem (by omega), Option.getD_some]
      exact List.getElem_mem _
    have h2 := (h.1.2 _ hm).2.2.1.1
    have w2 : wrap64 ((((rd_T98 x.f0 i).f2).length : Int) - 1) = (((rd_T98 x.f0 i).f2).length : Int) - 1 := wrap_in (by omega) (by omega)
    refine cm_yes c2.1 (cm_yes (by omega) (cm_bind (cm_now fun _ => in_f _ _ _) (cm_if (fun c3 => ?_) (fun c3 => cm_now fun _ => ?_))))
    · rw [w2] at c3
      simp only [decide_eq_true_eq] at c3
      refine cm_yes c3.1 (cm_yes (by omega) (cm_now fun _ => ?_))
      rw [if_pos ⟨c, ⟨c2.1, by omega⟩, c3.1, by omega⟩]
    · rw [w2] at c3
      simp only [decide_eq_true_eq] at c3
      rw [if_neg (fun z => c3 ⟨z.2.2.1, by omega⟩)]
  · rw [w1] at c2
    simp only [decide_eq_true_eq] at c2
    rw [if_neg (fun z => c2 ⟨z.2.1.1, by omega⟩)]
  · rw [if_neg (fun z => c z.1)]
end Go.Proofs.Ytomdjipejoafgaa.Raft
end
section
namespace Go.Proofs.Ytomdjipejoafgaa.Pure
open Go.RowKit Go.Proofs.Ytomdjipejoafgaa.P Go.Proofs.YtomdjipejoafgaaW.PrintWords Go.Proofs.YtomdjipejoafgaaW.PrintLast Go.Proofs.YtomdjipejoafgaaW.PrintMore
open Go.Proofs.Ytomdjipejoafgaa.Pl Go.Proofs.Ytomdjipejoafgaa.EvN Go.Proofs.Ytomdjipejoafgaa.Lp Go.Proofs.Ytomdjipejoafgaa.Hg Go.Proofs.Ytomdjipejoafgaa.Raft
theorem FnExactEntryAt : laws_FnExactEntryAt.Pure := by
  intro x a1 a2 h h1 h2
  obtain ⟨v, hv⟩ := szRaft_ex x h 1048576
  have hs := sm_cRaft x h
  refine cm_ex (v := true) ?_
  unfold laws_FnExactEntryAt.f
  refine cm_bind hv (cm_if (fun _ => cm_now fun _ => rfl) (fun _ => ?_))
  refine cm_bind (toRaft_f x h) (cm_bind (specEntry_f _ hs a1 a2) (cm_bind (toRaft_f x h) (cm_bind (implEntry_f _ hs a1 a2) ?_)))
  refine cm_bind (t := true) (cm_now fun _ => by unfold laws_eqEntry.f; rw [if_pos rfl, if_pos rfl]) (cm_yes rfl ?_)
  simp only [bne_self_eq_false]
  refine cm_step (fun k => by rw [laws_FnExactEntryAt.j0]) ?_
  exact cm_no (by simp) (cm_bind (toRaft_f x h) (cm_bind (eqRaft_same _ hs) (cm_yes rfl (cm_now fun _ => rfl))))
end Go.Proofs.Ytomdjipejoafgaa.Pure
end
