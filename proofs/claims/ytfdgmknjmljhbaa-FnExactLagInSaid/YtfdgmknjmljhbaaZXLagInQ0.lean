-- Written by programs of this session (wip/prune.py, wip/xp.py), out of the translation and the printed words; what the law does not reach is left out. Not trusted: Lean checks it.
import Derived.Test.YtfdgmknjmljhbaaZXLagInW0
import Derived.Test.YtfdgmknjmljhbaaZXLagInPx1
import Derived.Test.YtfdgmknjmljhbaaZXLagInPx0
import Derived.Test.YtfdgmknjmljhbaaZXLagInPx2
import Derived.Test.YtfdgmknjmljhbaaZXLagInPx4
import Derived.Test.YtfdgmknjmljhbaaZXLagInPx8
import Derived.Test.YtfdgmknjmljhbaaZXLagInPx18
import Derived.Test.YtfdgmknjmljhbaaZXLagInPxok
import Derived.Laws.BitsAllLaws
import Derived.Test.YtfdgmknjmljhbaaZXLagInPx6
import Derived.Test.YtfdgmknjmljhbaaZXLagInPx7
import Derived.Test.YtfdgmknjmljhbaaZXLagInPx9
import Derived.Test.YtfdgmknjmljhbaaZXLagInPx12
section
namespace Go.Proofs.Ytfdgmknjmljhbaa.Pl
open Go.RowKit Go.Proofs.YtfdgmknjmljhbaaW.PrintWords Go.Proofs.YtfdgmknjmljhbaaW.PrintLast Go.Proofs.YtfdgmknjmljhbaaW.PrintMore
theorem wrap_in {x : Int} (h0 : -9223372036854775808 ≤ x) (h1 : x ≤ 9223372036854775807) : wrap64 x = x := by
  unfold wrap64
  omega
theorem wrap_len {n m : Nat} (h : n < m) (hm : m ≤ 4611686018427387904) : wrap64 ((n : Int) + 1) = ((n + 1 : Nat) : Int) := by
  rw [wrap_in (by omega) (by omega)]
  omega
theorem round {k d : Nat} (h : d < k) : ∃ m, k = m + 1 := ⟨k - 1, by omega⟩
theorem rd_mid (pre : List Int) (h : Int) (t : List Int) : rd (pre ++ h :: t) (pre.length : Int) = h := by
  simp [rd]
theorem rd_at {pre t l : List Int} {h : Int} (e : pre ++ h :: t = l) : rd l (pre.length : Int) = h := by
  rw [← e]; exact rd_mid pre h t
theorem len_mid {α : Type} {pre t : List α} {h : α} {l : List α} (e : pre ++ h :: t = l) : pre.length < l.length := by
  rw [← e]; simp
theorem len_end {α : Type} {pre l : List α} (e : pre ++ [] = l) : pre.length = l.length := by
  rw [← e]; simp
theorem app_mid {α : Type} {pre t : List α} {h : α} {l : List α} (e : pre ++ h :: t = l) : (pre ++ [h]) ++ t = l := by
  rw [← e]; simp
theorem len_one {α : Type} (pre : List α) (h : α) : (pre ++ [h]).length = pre.length + 1 := by simp
theorem rd_last {pre rest l : List Int} {p : Int} (e : pre ++ rest = l) (h : pre.getLast? = some p) : 0 < pre.length ∧ rd l ((pre.length : Int) - 1) = p := by
  obtain ⟨q, rfl⟩ := List.getLast?_eq_some_iff.1 h
  refine ⟨by simp, ?_⟩
  have h2 : q ++ [p] ++ rest = q ++ p :: rest := by simp
  rw [← e, h2, len_one, show (((q.length + 1 : Nat) : Int) - 1) = (q.length : Int) by omega]
  exact rd_mid q p rest
theorem no_last {α : Type} {pre : List α} (h : pre.getLast? = none) : pre = [] := by
  simpa using h
end Go.Proofs.Ytfdgmknjmljhbaa.Pl
end
section
namespace Go.Proofs.Ytfdgmknjmljhbaa.EvN
def Cm {α : Type} (f : Nat → Option α) (v : α) : Prop := ∃ K, ∀ k, K ≤ k → f k = some v
theorem cm_now {α : Type} {f : Nat → Option α} {v : α} (h : ∀ k, f k = some v) : Cm f v := ⟨0, fun k _ => h k⟩
theorem cm_step {α : Type} {f g : Nat → Option α} {v : α} (h : ∀ k, f (k + 1) = g k) (hg : Cm g v) : Cm f v := by
  obtain ⟨K, hK⟩ := hg
  refine ⟨K + 1, fun k hk => ?_⟩
  obtain ⟨m, rfl⟩ : ∃ m, k = m + 1 := ⟨k - 1, by omega⟩
  rw [h, hK m (by omega)]
theorem cm_same {α : Type} {f g : Nat → Option α} {v : α} (h : ∀ k, f k = g k) (hg : Cm g v) : Cm f v := by
  obtain ⟨K, hK⟩ := hg
  exact ⟨K, fun k hk => by rw [h, hK k hk]⟩
theorem cm_bind {α β : Type} {a : Nat → Option α} {t : α} {g : Nat → α → Option β} {v : β} (ha : Cm a t) (hg : Cm (fun k => g k t) v) : Cm (fun k => (a k).bind (g k)) v := by
  obtain ⟨K, hK⟩ := ha
  obtain ⟨M, hM⟩ := hg
  exact ⟨K + M, fun k hk => by simp only [hK k (by omega)]; exact hM k (by omega)⟩
theorem cm_yes {α : Type} {c : Prop} [Decidable c] {x y : Nat → Option α} {v : α} (h : c) (h2 : Cm x v) : Cm (fun k => if c then x k else y k) v :=
  cm_same (fun _ => if_pos h) h2
theorem cm_no {α : Type} {c : Prop} [Decidable c] {x y : Nat → Option α} {v : α} (h : ¬ c) (h2 : Cm y v) : Cm (fun k => if c then x k else y k) v :=
  cm_same (fun _ => if_neg h) h2
theorem cm_ex {α : Type} {f : Nat → Option α} {v : α} (h : Cm f v) : ∃ k, f k = some v := by
  obtain ⟨K, hK⟩ := h
  exact ⟨K, hK K (Nat.le_refl _)⟩
end Go.Proofs.Ytfdgmknjmljhbaa.EvN
end
section
namespace Go.Proofs.Ytfdgmknjmljhbaa.Lp
open Go.RowKit Go.Proofs.YtfdgmknjmljhbaaW.PrintWords
open Go.Proofs.Ytfdgmknjmljhbaa.Pl Go.Proofs.Ytfdgmknjmljhbaa.EvN
def okFrom {α : Type} (p : List α → α → Bool) : List α → List α → Bool
  | _, [] => true
  | pre, h :: t => p pre h && okFrom p (pre ++ [h]) t
theorem okFrom_iff {α : Type} (p : List α → α → Bool) : ∀ (rest pre : List α), okFrom p pre rest = true ↔ ∀ a h t, a ++ h :: t = rest → p (pre ++ a) h = true
  | [], pre => by
    simp only [okFrom, true_iff]
    intro a h t e
    simp at e
  | x :: t, pre => by
    simp only [okFrom, Bool.and_eq_true]
    rw [okFrom_iff p t (pre ++ [x])]
    constructor
    · rintro ⟨h1, h2⟩ a h t' e
      cases a with
      | nil =>
        simp only [List.nil_append, List.cons.injEq] at e
        obtain ⟨rfl, rfl⟩ := e
        simpa using h1
      | cons y a =>
        simp only [List.cons_append, List.cons.injEq] at e
        obtain ⟨rfl, e⟩ := e
        have := h2 a h t' e
        simpa using this
    · intro h
      refine ⟨by simpa using h [] x t rfl, fun a h' t' e => ?_⟩
      have := h (x :: a) h' t' (by simp [e])
      simpa using this
theorem all_cm {α ρ : Type} {L : Nat → Int → Option ρ} (xs : List α) (p : List α → α → Bool) {fin no : ρ}
    (hstep : ∀ pre h t, pre ++ h :: t = xs → pre.length < xs.length → p pre h = true → ∀ v, Cm (fun k => L k ((pre.length + 1 : Nat) : Int)) v → Cm (fun k => L k (pre.length : Int)) v)
    (hno : ∀ pre h t, pre ++ h :: t = xs → pre.length < xs.length → p pre h = false → Cm (fun k => L k (pre.length : Int)) no)
    (hend : okFrom p [] xs = true → Cm (fun k => L k (xs.length : Int)) fin) : Cm (fun k => L k 0) (if okFrom p [] xs = true then fin else no) := by
  have key : ∀ (rest pre : List α), pre ++ rest = xs → (okFrom p pre rest = okFrom p [] xs) → Cm (fun k => L k (pre.length : Int)) (if okFrom p pre rest = true then fin else no) := by
    intro rest
    induction rest with
    | nil =>
      intro pre e h
      rw [List.append_nil] at e
      subst e
      simp only [okFrom, if_true] at h ⊢
      exact hend h.symm
    | cons x t ih =>
      intro pre e h
      by_cases c : p pre x = true
      · have h2 : okFrom p pre (x :: t) = okFrom p (pre ++ [x]) t := by simp only [okFrom, c, Bool.true_and]
        rw [h2] at h ⊢
        have h3 := ih (pre ++ [x]) (app_mid e) h
        rw [len_one] at h3
        exact hstep pre x t e (len_mid e) c _ h3
      · have c2 : p pre x = false := by simpa using c
        have h2 : okFrom p pre (x :: t) = false := by simp only [okFrom, c2, Bool.false_and]
        rw [h2]
        simpa using hno pre x t e (len_mid e) c2
  exact key xs [] rfl rfl
theorem okFrom_all {α : Type} (p : α → Bool) : ∀ (rest pre : List α), okFrom (fun _ h => p h) pre rest = rest.all p
  | [], _ => rfl
  | x :: t, pre => by simp only [okFrom, List.all_cons, okFrom_all p t]
theorem every_cm {α ρ : Type} {L : Nat → Int → Option ρ} (xs : List α) (p : α → Bool) {fin no : ρ}
    (hstep : ∀ pre h t, pre ++ h :: t = xs → pre.length < xs.length → p h = true → ∀ v, Cm (fun k => L k ((pre.length + 1 : Nat) : Int)) v → Cm (fun k => L k (pre.length : Int)) v)
    (hno : ∀ pre h t, pre ++ h :: t = xs → pre.length < xs.length → p h = false → Cm (fun k => L k (pre.length : Int)) no)
    (hend : xs.all p = true → Cm (fun k => L k (xs.length : Int)) fin) : Cm (fun k => L k 0) (if xs.all p = true then fin else no) := by
  have := all_cm (L := L) xs (fun _ h => p h) hstep hno (by rw [okFrom_all]; exact hend)
  rw [okFrom_all] at this
  exact this
def foundAt {α ρ : Type} (p : α → Bool) (found : Nat → α → ρ) (none_ : ρ) : Nat → List α → ρ
  | _, [] => none_
  | i, h :: t => if p h = true then found i h else foundAt p found none_ (i + 1) t
theorem find_cm {α ρ : Type} {L : Nat → Int → Option ρ} (xs : List α) (p : α → Bool) (found : Nat → α → ρ) {none_ : ρ}
    (hstep : ∀ pre h t, pre ++ h :: t = xs → pre.length < xs.length → p h = false → ∀ v, Cm (fun k => L k ((pre.length + 1 : Nat) : Int)) v → Cm (fun k => L k (pre.length : Int)) v)
    (hyes : ∀ pre h t, pre ++ h :: t = xs → pre.length < xs.length → p h = true → Cm (fun k => L k (pre.length : Int)) (found pre.length h))
    (hend : Cm (fun k => L k (xs.length : Int)) none_) : Cm (fun k => L k 0) (foundAt p found none_ 0 xs) := by
  have key : ∀ (rest pre : List α), pre ++ rest = xs → Cm (fun k => L k (pre.length : Int)) (foundAt p found none_ pre.length rest) := by
    intro rest
    induction rest with
    | nil =>
      intro pre e
      rw [List.append_nil] at e
      subst e
      exact hend
    | cons x t ih =>
      intro pre e
      unfold foundAt
      by_cases c : p x = true
      · rw [if_pos c]
        exact hyes pre x t e (len_mid e) c
      · rw [if_neg c]
        have h3 := ih (pre ++ [x]) (app_mid e)
        rw [len_one] at h3
        exact hstep pre x t e (len_mid e) (by simpa using c) _ h3
  exact key xs [] rfl
theorem found_any {α : Type} (p : α → Bool) : ∀ (l : List α) (i : Nat), decide (foundAt p (fun i _ => (i : Int)) (-1) i l ≥ 0) = l.any p
  | [], _ => by simp [foundAt]
  | h :: t, i => by
    unfold foundAt
    by_cases c : p h = true
    · rw [if_pos c]; simp [c]
    · rw [if_neg c, found_any p t (i + 1)]; simp [c]
theorem same_cm {α ρ : Type} {L : Nat → Int → Option ρ} (xs : List α) {fin : ρ}
    (hstep : ∀ pre h t, pre ++ h :: t = xs → pre.length < xs.length → ∀ v, Cm (fun k => L k ((pre.length + 1 : Nat) : Int)) v → Cm (fun k => L k (pre.length : Int)) v)
    (hend : Cm (fun k => L k (xs.length : Int)) fin) : Cm (fun k => L k 0) fin := by
  have := every_cm (L := L) xs (fun _ => true) (fin := fin) (no := fin) (fun pre h t e hl _ => hstep pre h t e hl) (fun _ _ _ _ _ hp => by cases hp) (fun _ => hend)
  have h : (xs.all fun _ => true) = true := by simp
  rw [if_pos h] at this
  exact this
theorem map_cm {α β : Type} {L : Nat → Int → List β → Option (List β)} (xs : List α) (c : α → β) (z : β)
    (hstep : ∀ pre h t acc, pre ++ h :: t = xs → pre.length < xs.length → acc.length = xs.length → ∀ u, Cm (fun k => L k ((pre.length + 1 : Nat) : Int) (acc.set pre.length (c h))) u → Cm (fun k => L k (pre.length : Int) acc) u)
    (hend : ∀ acc, acc.length = xs.length → Cm (fun k => L k (xs.length : Int) acc) acc) : Cm (fun k => L k 0 (List.replicate xs.length z)) (xs.map c) := by
  have key : ∀ (rest pre : List α) (tl : List β), pre ++ rest = xs → tl.length = rest.length → Cm (fun k => L k (pre.length : Int) (pre.map c ++ tl)) (xs.map c) := by
    intro rest
    induction rest with
    | nil =>
      intro pre tl e ht
      have ht2 : tl = [] := List.length_eq_zero_iff.1 ht
      rw [List.append_nil] at e
      subst ht2 e
      rw [List.append_nil]
      exact hend _ (by simp)
    | cons h t ih =>
      intro pre tl e ht
      match tl, ht with
      | y :: tl, ht =>
        refine hstep pre h t _ e (len_mid e) (by rw [← e]; simp at ht ⊢; omega) _ ?_
        have e2 : (pre.map c ++ y :: tl).set pre.length (c h) = (pre ++ [h]).map c ++ tl := by
          have : pre.length = (pre.map c).length := by simp
          rw [this]
          simp
        rw [e2]
        have := ih (pre ++ [h]) tl (app_mid e) (by simpa using ht)
        rw [len_one] at this
        exact this
  have := key xs [] (List.replicate xs.length z) rfl (by simp)
  simpa using this
theorem ex_cm {α σ ρ : Type} {L : Nat → Int → σ → Option ρ} (xs : List α)
    (hstep : ∀ pre h t s, pre ++ h :: t = xs → pre.length < xs.length → (∃ v, Cm (fun k => L k (pre.length : Int) s) v) ∨ ∃ s', ∀ u, Cm (fun k => L k ((pre.length + 1 : Nat) : Int) s') u → Cm (fun k => L k (pre.length : Int) s) u)
    (hend : ∀ s, ∃ v, Cm (fun k => L k (xs.length : Int) s) v) (s0 : σ) : ∃ v, Cm (fun k => L k 0 s0) v := by
  have key : ∀ (rest pre : List α) (s : σ), pre ++ rest = xs → ∃ v, Cm (fun k => L k (pre.length : Int) s) v := by
    intro rest
    induction rest with
    | nil =>
      intro pre s e
      rw [List.append_nil] at e
      subst e
      exact hend s
    | cons h t ih =>
      intro pre s e
      rcases hstep pre h t s e (len_mid e) with h1 | ⟨s', h1⟩
      · exact h1
      · obtain ⟨v, hv⟩ := ih (pre ++ [h]) s' (app_mid e)
        rw [len_one] at hv
        exact ⟨v, h1 v hv⟩
  exact key xs [] s0 rfl
theorem cm_if {α : Type} {c : Prop} [Decidable c] {x y : Nat → Option α} {v : α} (h : c → Cm x v) (h2 : ¬ c → Cm y v) : Cm (fun k => if c then x k else y k) v := by
  by_cases hc : c
  · exact cm_yes hc (h hc)
  · exact cm_no hc (h2 hc)
theorem getD_at {α : Type} {pre t l : List α} {h : α} (e : pre ++ h :: t = l) (d : α) : l.getD ((pre.length : Int)).toNat d = h := by
  rw [← e]; simp
theorem getLast_at {α : Type} {pre rest l : List α} (e : pre ++ rest = l) (d : α) {q : α} (h : pre.getLast? = some q) : 0 < pre.length ∧ l.getD ((pre.length : Int) - 1).toNat d = q := by
  obtain ⟨z, rfl⟩ := List.getLast?_eq_some_iff.1 h
  refine ⟨by simp, ?_⟩
  have h3 : ((((z ++ [q]).length : Nat) : Int) - 1).toNat = z.length := by simp
  rw [← e, h3]
  simp
theorem wrap_less {n : Nat} (h : 0 < n) (hm : n ≤ 4611686018427387904) : wrap64 ((n : Int) - 1) = (n : Int) - 1 := wrap_in (by omega) (by omega)
theorem cm_val {α : Type} {f : Nat → Option α} {u v : α} (h : Cm f u) (e : u = v) : Cm f v := e ▸ h
end Go.Proofs.Ytfdgmknjmljhbaa.Lp
end
section
namespace Go.Proofs.Ytfdgmknjmljhbaa.Hs
open Go.RowKit Go.Proofs.Ytfdgmknjmljhbaa.P Go.Proofs.YtfdgmknjmljhbaaW.PrintWords Go.Proofs.YtfdgmknjmljhbaaW.PrintLast Go.Proofs.YtfdgmknjmljhbaaW.PrintMore
open Go.Proofs.Ytfdgmknjmljhbaa.Pl Go.Proofs.Ytfdgmknjmljhbaa.EvN Go.Proofs.Ytfdgmknjmljhbaa.Lp
set_option linter.unusedSimpArgs false
set_option linter.unusedVariables false
theorem toIntS_f (l : List Int) (h : l.length * 8 ≤ 140737488351232) : Cm (fun k => laws_toIntS.f k l) l := by
  unfold laws_toIntS.f
  refine cm_yes (by omega) (cm_yes (by omega) ?_)
  have := map_cm (L := fun k i s => laws_toIntS.l0 k l s i) l (fun x => x) 0 ?_ ?_
  · simpa using this
  · intro pre x t acc e hlt ha u hu
    refine cm_step (fun k => by rw [laws_toIntS.l0]) ?_
    simp only [rd_at e, wrap_len hlt (show l.length ≤ 4611686018427387904 by omega), Int.toNat_natCast]
    repeat (first | assumption | exact cm_now (fun _ => rfl) | refine cm_yes (by first | omega | assumption | (simp; done) | (simp; omega)) ?_ | refine cm_no (by first | omega | assumption | (simp; done) | (simp; omega)) ?_)
  · intro acc ha
    refine cm_step (fun k => by rw [laws_toIntS.l0]) ?_
    repeat (first | assumption | exact cm_now (fun _ => rfl) | refine cm_yes (by first | omega | assumption | (simp; done) | (simp; omega)) ?_ | refine cm_no (by first | omega | assumption | (simp; done) | (simp; omega)) ?_)
theorem eqIntS_same (l : List Int) (h : l.length ≤ 4611686018427387904) : Cm (fun k => laws_eqIntS.f k l l) true := by
  unfold laws_eqIntS.f
  refine cm_yes rfl ?_
  refine same_cm (L := fun k i => laws_eqIntS.l0 k l l i) l ?_ ?_
  · intro pre x t e hlt v hv
    refine cm_step (fun k => by rw [laws_eqIntS.l0]) ?_
    simp only [rd_at e, wrap_len hlt h]
    repeat (first | assumption | exact cm_now (fun _ => rfl) | refine cm_yes (by first | omega | assumption | (simp; done) | (simp; omega) | exact rfl) ?_ | refine cm_no (by first | omega | assumption | (simp; done) | (simp; omega) | exact rfl) ?_)
  · refine cm_step (fun k => by rw [laws_eqIntS.l0]) ?_
    repeat (first | assumption | exact cm_now (fun _ => rfl) | refine cm_yes (by first | omega | assumption | (simp; done) | (simp; omega)) ?_ | refine cm_no (by first | omega | assumption | (simp; done) | (simp; omega)) ?_)
theorem szIntS_f (l : List Int) (m : Int) : ∃ v, Cm (fun _ => laws_szIntS.f l m) v := by
  unfold laws_szIntS.f
  by_cases c : wrap64 (m - (l.length : Int)) < 0
  · exact ⟨_, cm_yes c (cm_now fun _ => rfl)⟩
  · exact ⟨_, cm_no c (cm_now fun _ => rfl)⟩
end Go.Proofs.Ytfdgmknjmljhbaa.Hs
end
section
namespace Go.Proofs.Ytfdgmknjmljhbaa.Hg
open Go.RowKit Go.Proofs.Ytfdgmknjmljhbaa.P Go.Proofs.YtfdgmknjmljhbaaW.PrintWords Go.Proofs.YtfdgmknjmljhbaaW.PrintLast Go.Proofs.YtfdgmknjmljhbaaW.PrintMore
open Go.Proofs.Ytfdgmknjmljhbaa.Pl Go.Proofs.Ytfdgmknjmljhbaa.EvN Go.Proofs.Ytfdgmknjmljhbaa.Lp Go.Proofs.Ytfdgmknjmljhbaa.Hs
set_option linter.unusedSimpArgs false
set_option linter.unusedVariables false
theorem rdT110_at {pre t l : List S110} {h : S110} (e : pre ++ h :: t = l) : rd_T110 l (pre.length : Int) = h := getD_at e _
theorem rdT92_at {pre t l : List S92} {h : S92} (e : pre ++ h :: t = l) : rd_T92 l (pre.length : Int) = h := getD_at e _
def cRow (x : S110) : S92 := ⟨x.f0, x.f1⟩
def smRow (x : S92) : Prop := (True) ∧ (True)
theorem sm_cRow (x : S110) (h : ok110 x) : smRow (cRow x) := by
  obtain ⟨h0, h1⟩ := h
  exact ⟨trivial, trivial⟩
theorem toRow_f (x : S110) (h : ok110 x) : Cm (fun k => laws_toRow.f x.f0 x.f1) ((cRow x).f0, (cRow x).f1) := by
  obtain ⟨h0, h1⟩ := h
  unfold laws_toRow.f
  exact cm_now fun _ => rfl
theorem toRowS_f (l : List S110) (h : l.length ≤ maxLen ∧ l.length * 16 ≤ 140737488351232 ∧ ∀ x_ ∈ l, ok110 x_) : Cm (fun k => laws_toRowS.f k l) (l.map cRow) := by
  have hl := h.2.1
  unfold laws_toRowS.f
  refine cm_yes (by omega) (cm_yes (by omega) ?_)
  rw [Int.toNat_natCast]
  refine map_cm (L := fun k i s => laws_toRowS.l0 k l s i) l cRow z92 ?_ ?_
  · intro pre x t acc e hlt ha u hu
    have hx := h.2.2 x (by rw [← e]; simp)
    refine cm_step (fun k => by rw [laws_toRowS.l0]) ?_
    simp only [rdT110_at e, wrap_len hlt (show l.length ≤ 4611686018427387904 by omega), Int.toNat_natCast]
    refine cm_yes (by omega) (cm_yes (by omega) (cm_bind (toRow_f x hx) (cm_yes (by omega) ?_)))
    exact hu
  · intro acc ha
    refine cm_step (fun k => by rw [laws_toRowS.l0]) ?_
    exact cm_no (by omega) (cm_now fun _ => rfl)
theorem eqRow_same (x : S92) (h : smRow x) : Cm (fun k => laws_eqRow.f x.f0 x.f1 x.f0 x.f1) true := by
  obtain ⟨h0, h1⟩ := h
  unfold laws_eqRow.f
  exact cm_yes rfl (cm_yes rfl (cm_now fun _ => rfl))
theorem eqRowS_same (l : List S92) (h : l.length ≤ 4611686018427387904 ∧ ∀ y ∈ l, smRow y) : Cm (fun k => laws_eqRowS.f k l l) true := by
  unfold laws_eqRowS.f
  refine cm_yes rfl ?_
  refine same_cm (L := fun k i => laws_eqRowS.l0 k l l i) l ?_ ?_
  · intro pre x t e hlt v hv
    have hx := h.2 x (by rw [← e]; simp)
    refine cm_step (fun k => by rw [laws_eqRowS.l0]) ?_
    simp only [rdT92_at e, wrap_len hlt h.1]
    exact cm_yes (by omega) (cm_yes (by omega) (cm_yes (by omega) (cm_bind (eqRow_same x hx) (cm_yes rfl hv))))
  · refine cm_step (fun k => by rw [laws_eqRowS.l0]) ?_
    exact cm_no (by omega) (cm_now fun _ => rfl)
theorem szRowS_ex (l : List S110) (h : l.length ≤ maxLen ∧ l.length * 16 ≤ 140737488351232 ∧ ∀ x_ ∈ l, ok110 x_) (m : Int) : ∃ v, Cm (fun k => laws_szRowS.f l m) v := by
  have hl := h.2.1
  unfold laws_szRowS.f
  by_cases c : wrap64 (m - (l.length : Int)) < 0
  · exact ⟨_, cm_yes c (cm_now fun _ => rfl)⟩
  · exact ⟨_, cm_no c (cm_now fun _ => rfl)⟩
theorem rdT101_at {pre t l : List S101} {h : S101} (e : pre ++ h :: t = l) : rd_T101 l (pre.length : Int) = h := getD_at e _
theorem rdT80_at {pre t l : List S80} {h : S80} (e : pre ++ h :: t = l) : rd_T80 l (pre.length : Int) = h := getD_at e _
def cReplica (x : S101) : S80 := ⟨x.f0.map cRow, x.f1, x.f2⟩
def smReplica (x : S80) : Prop := (x.f0.length ≤ 4611686018427387904 ∧ ∀ y ∈ x.f0, smRow y) ∧ (True) ∧ (True)
theorem sm_cReplica (x : S101) (h : ok101 x) : smReplica (cReplica x) := by
  obtain ⟨h0, h1, h2⟩ := h
  exact ⟨⟨by have := h0.2.1; simp only [cReplica, List.length_map]; omega, fun y hy => by obtain ⟨z, hz, rfl⟩ := List.mem_map.1 hy; exact sm_cRow z (h0.2.2 z hz)⟩, trivial, trivial⟩
theorem toReplica_f (x : S101) (h : ok101 x) : Cm (fun k => laws_toReplica.f k x.f0 x.f1 x.f2) ((cReplica x).f0, (cReplica x).f1, (cReplica x).f2) := by
  obtain ⟨h0, h1, h2⟩ := h
  unfold laws_toReplica.f
  exact cm_bind (toRowS_f _ h0) (cm_now fun _ => rfl)
theorem toReplicaS_f (l : List S101) (h : l.length ≤ maxLen ∧ l.length * 40 ≤ 140737488351232 ∧ ∀ x_ ∈ l, ok101 x_) : Cm (fun k => laws_toReplicaS.f k l) (l.map cReplica) := by
  have hl := h.2.1
  unfold laws_toReplicaS.f
  refine cm_yes (by omega) (cm_yes (by omega) ?_)
  rw [Int.toNat_natCast]
  refine map_cm (L := fun k i s => laws_toReplicaS.l0 k l s i) l cReplica z80 ?_ ?_
  · intro pre x t acc e hlt ha u hu
    have hx := h.2.2 x (by rw [← e]; simp)
    refine cm_step (fun k => by rw [laws_toReplicaS.l0]) ?_
    simp only [rdT101_at e, wrap_len hlt (show l.length ≤ 4611686018427387904 by omega), Int.toNat_natCast]
    refine cm_yes (by omega) (cm_yes (by omega) (cm_bind (toReplica_f x hx) (cm_yes (by omega) ?_)))
    exact hu
  · intro acc ha
    refine cm_step (fun k => by rw [laws_toReplicaS.l0]) ?_
    exact cm_no (by omega) (cm_now fun _ => rfl)
theorem eqReplica_same (x : S80) (h : smReplica x) : Cm (fun k => laws_eqReplica.f k x.f0 x.f1 x.f2 x.f0 x.f1 x.f2) true := by
  obtain ⟨h0, h1, h2⟩ := h
  unfold laws_eqReplica.f
  exact cm_bind (eqRowS_same _ h0) (cm_yes rfl (cm_yes rfl (cm_yes rfl (cm_now fun _ => rfl))))
theorem eqReplicaS_same (l : List S80) (h : l.length ≤ 4611686018427387904 ∧ ∀ y ∈ l, smReplica y) : Cm (fun k => laws_eqReplicaS.f k l l) true := by
  unfold laws_eqReplicaS.f
  refine cm_yes rfl ?_
  refine same_cm (L := fun k i => laws_eqReplicaS.l0 k l l i) l ?_ ?_
  · intro pre x t e hlt v hv
    have hx := h.2 x (by rw [← e]; simp)
    refine cm_step (fun k => by rw [laws_eqReplicaS.l0]) ?_
    simp only [rdT80_at e, wrap_len hlt h.1]
    exact cm_yes (by omega) (cm_yes (by omega) (cm_yes (by omega) (cm_bind (eqReplica_same x hx) (cm_yes rfl hv))))
  · refine cm_step (fun k => by rw [laws_eqReplicaS.l0]) ?_
    exact cm_no (by omega) (cm_now fun _ => rfl)
theorem szReplica_ex (x : S101) (h : ok101 x) (m : Int) : ∃ v, Cm (fun k => laws_szReplica.f x.f0 x.f1 x.f2 m) v := by
  obtain ⟨h0, h1, h2⟩ := h
  unfold laws_szReplica.f
  obtain ⟨v0, w0⟩ := szRowS_ex x.f0 h0 m
  by_cases c0 : v0 < 0
  · exact ⟨-1, cm_bind w0 (cm_yes c0 (cm_now fun _ => rfl))⟩
  exact ⟨v0, cm_bind w0 (cm_no c0 (cm_now fun _ => rfl))⟩
theorem szReplicaS_ex (l : List S101) (h : l.length ≤ maxLen ∧ l.length * 40 ≤ 140737488351232 ∧ ∀ x_ ∈ l, ok101 x_) (m : Int) : ∃ v, Cm (fun k => laws_szReplicaS.f k l m) v := by
  have hl := h.2.1
  unfold laws_szReplicaS.f
  by_cases c : wrap64 (m - (l.length : Int)) < 0
  · exact ⟨_, cm_yes c (cm_now fun _ => rfl)⟩
  · obtain ⟨v, hv⟩ : ∃ v, Cm (fun k => laws_szReplicaS.l0 k l (wrap64 (m - (l.length : Int))) 0) v := by
      refine ex_cm (L := fun k i s => laws_szReplicaS.l0 k l s i) l ?_ ?_ _
      · intro pre x t s e hlt
        obtain ⟨v, hv⟩ := szReplica_ex x (h.2.2 x (by rw [← e]; simp)) s
        by_cases c2 : v < 0
        · refine .inl ⟨-1, ?_⟩
          refine cm_step (fun k => by rw [laws_szReplicaS.l0]) ?_
          simp only [rdT101_at e, wrap_len hlt (show l.length ≤ 4611686018427387904 by omega)]
          exact cm_yes (by omega) (cm_yes (by omega) (cm_bind hv (cm_yes c2 (cm_now fun _ => rfl))))
        · refine .inr ⟨v, fun u hu => ?_⟩
          refine cm_step (fun k => by rw [laws_szReplicaS.l0]) ?_
          simp only [rdT101_at e, wrap_len hlt (show l.length ≤ 4611686018427387904 by omega)]
          exact cm_yes (by omega) (cm_yes (by omega) (cm_bind hv (cm_no c2 hu)))
      · intro s
        refine ⟨s, ?_⟩
        refine cm_step (fun k => by rw [laws_szReplicaS.l0]) ?_
        exact cm_no (by omega) (cm_now fun _ => rfl)
    exact ⟨v, cm_no c hv⟩
def cGroup (x : S44) : S36 := ⟨x.f0, x.f1, x.f2, x.f3, x.f4.map cReplica⟩
def smGroup (x : S36) : Prop := (True) ∧ (True) ∧ (x.f2.length ≤ 4611686018427387904) ∧ (True) ∧ (x.f4.length ≤ 4611686018427387904 ∧ ∀ y ∈ x.f4, smReplica y)
theorem sm_cGroup (x : S44) (h : ok44 x) : smGroup (cGroup x) := by
  obtain ⟨h0, h1, h2, h3, h4⟩ := h
  exact ⟨trivial, trivial, by have := h2.2.1; simp only [cGroup]; omega, trivial, ⟨by have := h4.2.1; simp only [cGroup, List.length_map]; omega, fun y hy => by obtain ⟨z, hz, rfl⟩ := List.mem_map.1 hy; exact sm_cReplica z (h4.2.2 z hz)⟩⟩
theorem toGroup_f (x : S44) (h : ok44 x) : Cm (fun k => laws_toGroup.f k x.f0 x.f1 x.f2 x.f3 x.f4) ((cGroup x).f0, (cGroup x).f1, (cGroup x).f2, (cGroup x).f3, (cGroup x).f4) := by
  obtain ⟨h0, h1, h2, h3, h4⟩ := h
  unfold laws_toGroup.f
  exact cm_bind (toIntS_f _ h2.2.1) (cm_bind (toReplicaS_f _ h4) (cm_now fun _ => rfl))
theorem eqGroup_same (x : S36) (h : smGroup x) : Cm (fun k => laws_eqGroup.f k x.f0 x.f1 x.f2 x.f3 x.f4 x.f0 x.f1 x.f2 x.f3 x.f4) true := by
  obtain ⟨h0, h1, h2, h3, h4⟩ := h
  unfold laws_eqGroup.f
  exact cm_yes rfl (cm_yes rfl (cm_bind (eqIntS_same _ h2) (cm_yes rfl (cm_yes rfl (cm_bind (eqReplicaS_same _ h4) (cm_yes rfl (cm_now fun _ => rfl)))))))
theorem szGroup_ex (x : S44) (h : ok44 x) (m : Int) : ∃ v, Cm (fun k => laws_szGroup.f k x.f0 x.f1 x.f2 x.f3 x.f4 m) v := by
  obtain ⟨h0, h1, h2, h3, h4⟩ := h
  unfold laws_szGroup.f
  obtain ⟨v0, w0⟩ := szIntS_f x.f2 m
  by_cases c0 : v0 < 0
  · exact ⟨-1, cm_bind w0 (cm_yes c0 (cm_now fun _ => rfl))⟩
  obtain ⟨v1, w1⟩ := szReplicaS_ex x.f4 h4 v0
  by_cases c1 : v1 < 0
  · exact ⟨-1, cm_bind w0 (cm_no c0 (cm_bind w1 (cm_yes c1 (cm_now fun _ => rfl))))⟩
  exact ⟨v1, cm_bind w0 (cm_no c0 (cm_bind w1 (cm_no c1 (cm_now fun _ => rfl))))⟩
end Go.Proofs.Ytfdgmknjmljhbaa.Hg
end
section
namespace Go.Proofs.Ytfdgmknjmljhbaa.Sets
open Go.RowKit Go.Proofs.YtfdgmknjmljhbaaW.PrintWords Go.Proofs.YtfdgmknjmljhbaaW.PrintLast Go.Proofs.YtfdgmknjmljhbaaW.PrintMore
open Go.Proofs.Ytfdgmknjmljhbaa.Pl Go.Proofs.Ytfdgmknjmljhbaa.EvN Go.Proofs.Ytfdgmknjmljhbaa.Lp
set_option linter.unusedSimpArgs false
set_option linter.unusedVariables false
theorem and_self (a b : Nat) : a &&& b = b ↔ ∀ i, b.testBit i = true → a.testBit i = true := by
  constructor
  · intro h i h2
    have : (a &&& b).testBit i = true := by rw [h]; exact h2
    rw [Nat.testBit_and] at this
    simp_all
  · intro h
    apply Nat.eq_of_testBit_eq
    intro i
    rw [Nat.testBit_and]
    have := h i
    cases h1 : a.testBit i <;> cases h2 : b.testBit i <;> simp_all
def rises (many : Int) (pre : List Int) (h : Int) : Bool := decide (0 ≤ h ∧ h < many) && (match pre.getLast? with | some q => decide (q < h) | none => true)
def members (many : Int) (l : List Int) : Bool := okFrom (rises many) [] l
theorem members_in {many : Int} {l : List Int} (h : members many l = true) : ∀ x ∈ l, 0 ≤ x ∧ x < many := by
  intro x hx
  obtain ⟨a, t, e⟩ := List.append_of_mem hx
  have := (okFrom_iff (rises many) l []).1 h a x t e.symm
  simp only [rises, Bool.and_eq_true, decide_eq_true_eq] at this
  exact this.1
end Go.Proofs.Ytfdgmknjmljhbaa.Sets
end
section
namespace Go.Proofs.Ytfdgmknjmljhbaa.Mem
open Go.RowKit Go.Proofs.Ytfdgmknjmljhbaa.P Go.Proofs.YtfdgmknjmljhbaaW.PrintWords Go.Proofs.YtfdgmknjmljhbaaW.PrintLast Go.Proofs.YtfdgmknjmljhbaaW.PrintMore
open Go.Proofs.Ytfdgmknjmljhbaa.Pl Go.Proofs.Ytfdgmknjmljhbaa.EvN Go.Proofs.Ytfdgmknjmljhbaa.Lp Go.Proofs.Ytfdgmknjmljhbaa.Sets
set_option linter.unusedSimpArgs false
set_option linter.unusedVariables false
theorem in_f (a b c : Int) : impl_in.f a b c = some (decide (b ≤ a ∧ a ≤ c)) := by
  unfold impl_in.f
  by_cases h : a ≥ b
  · rw [if_pos h]; congr 1; rw [decide_eq_decide]; omega
  · rw [if_neg h]; congr 1; symm; rw [decide_eq_false_iff_not]; omega
theorem l1In_f (a b c : Int) : spec_l1In.f a b c = some (decide (b ≤ a ∧ a ≤ c)) := by
  unfold spec_l1In.f
  by_cases h : a ≥ b
  · rw [if_pos h]; congr 1; rw [decide_eq_decide]; omega
  · rw [if_neg h]; congr 1; symm; rw [decide_eq_false_iff_not]; omega
theorem if_self (b : Bool) : (if b = true then true else false) = b := by cases b <;> rfl
theorem rises_no {many : Int} {pre : List Int} {h : Int} (hp : rises many pre h = false) (h0 : 0 ≤ h) (h1 : h < many) : ∃ q, pre.getLast? = some q ∧ h ≤ q := by
  unfold rises at hp
  cases e : pre.getLast? with
  | none => rw [e] at hp; simp at hp; omega
  | some q =>
    rw [e] at hp
    simp at hp
    exact ⟨q, rfl, by omega⟩
theorem rises_yes {many : Int} {pre : List Int} {h : Int} (hp : rises many pre h = true) : (0 ≤ h ∧ h < many) ∧ ∀ q, pre.getLast? = some q → q < h := by
  unfold rises at hp
  simp only [Bool.and_eq_true, decide_eq_true_eq] at hp
  refine ⟨hp.1, fun q e => ?_⟩
  have h2 := hp.2
  rw [e] at h2
  simpa using h2
theorem last_cases {α : Type} (pre : List α) : pre = [] ∨ ∃ q, pre.getLast? = some q := by
  cases e : pre.getLast? with
  | none => exact .inl (no_last e)
  | some q => exact .inr ⟨q, rfl⟩
end Go.Proofs.Ytfdgmknjmljhbaa.Mem
end
section
namespace Go.Proofs.Ytfdgmknjmljhbaa.Mem
open Go.RowKit Go.Proofs.Ytfdgmknjmljhbaa.P Go.Proofs.YtfdgmknjmljhbaaW.PrintWords Go.Proofs.YtfdgmknjmljhbaaW.PrintLast Go.Proofs.YtfdgmknjmljhbaaW.PrintMore
open Go.Proofs.Ytfdgmknjmljhbaa.Pl Go.Proofs.Ytfdgmknjmljhbaa.EvN Go.Proofs.Ytfdgmknjmljhbaa.Lp Go.Proofs.Ytfdgmknjmljhbaa.Sets
set_option linter.unusedSimpArgs false
set_option linter.unusedVariables false
theorem has_f (l : List Int) (n : Int) (hl : l.length ≤ 4611686018427387904) : Cm (fun k => spec_l1Has.f k l n) (decide (n ∈ l)) := by
  unfold spec_l1Has.f
  have := every_cm (L := fun k i => spec_l1Has.l0 k n l (l.length : Int) i) l (fun x => decide (x ≠ n)) (fin := false) (no := true) ?_ ?_ ?_
  · refine cm_val this ?_
    by_cases c : n ∈ l
    · simp [c]
    · simp [c]
      intro x hx e
      subst e
      exact c hx
  · intro pre h t e hlt hp v hv
    simp only [decide_eq_true_eq] at hp
    refine cm_step (fun k => by rw [spec_l1Has.l0]) ?_
    simp only [rd_at e, wrap_len hlt hl]
    repeat (first | assumption | exact cm_now (fun _ => rfl) | refine cm_yes (by first | omega | assumption | (simp; done) | (simp; omega)) ?_ | refine cm_no (by first | omega | assumption | (simp; done) | (simp; omega)) ?_)
  · intro pre h t e hlt hp
    simp only [decide_eq_false_iff_not, ne_eq, Decidable.not_not] at hp
    refine cm_step (fun k => by rw [spec_l1Has.l0]) ?_
    simp only [rd_at e, wrap_len hlt hl]
    repeat (first | assumption | exact cm_now (fun _ => rfl) | refine cm_yes (by first | omega | assumption | (simp; done) | (simp; omega)) ?_ | refine cm_no (by first | omega | assumption | (simp; done) | (simp; omega)) ?_)
  · intro _
    refine cm_step (fun k => by rw [spec_l1Has.l0]) ?_
    repeat (first | assumption | exact cm_now (fun _ => rfl) | refine cm_yes (by first | omega | assumption | (simp; done) | (simp; omega)) ?_ | refine cm_no (by first | omega | assumption | (simp; done) | (simp; omega)) ?_)
theorem group_f (l : List Int) (many : Int) (hl : l.length ≤ 4611686018427387904) : Cm (fun k => spec_l6Group.f k l many) (members many l) := by
  unfold spec_l6Group.f
  have := all_cm (L := fun k i => spec_l6Group.l0 k l many l (l.length : Int) i) l (rises many) (fin := true) (no := false) ?_ ?_ ?_
  · exact cm_val this (if_self _)
  · intro pre h t e hlt hp v hv
    obtain ⟨⟨h0, h1⟩, h2⟩ := rises_yes hp
    refine cm_step (fun k => by rw [spec_l6Group.l0]) ?_
    simp only [rd_at e, wrap_len hlt hl]
    refine cm_yes (by omega) (cm_yes (by omega) (cm_yes (by omega) (cm_no (by omega) (cm_no (by omega) ?_))))
    rcases last_cases pre with rfl | ⟨q, hq⟩
    · exact cm_no (by simp) hv
    · obtain ⟨h3, h4⟩ := rd_last e hq
      have h5 := h2 q hq
      rw [wrap_less h3 (by omega), h4]
      repeat (first | assumption | exact cm_now (fun _ => rfl) | refine cm_yes (by first | omega | assumption | (simp; done) | (simp; omega)) ?_ | refine cm_no (by first | omega | assumption | (simp; done) | (simp; omega)) ?_)
  · intro pre h t e hlt hp
    refine cm_step (fun k => by rw [spec_l6Group.l0]) ?_
    simp only [rd_at e, wrap_len hlt hl]
    refine cm_yes (by omega) (cm_yes (by omega) (cm_yes (by omega) ?_))
    refine cm_if (fun _ => cm_now fun _ => rfl) (fun c0 => cm_if (fun _ => cm_now fun _ => rfl) (fun c1 => ?_))
    obtain ⟨q, hq, h5⟩ := rises_no hp (by omega) (by omega)
    obtain ⟨h3, h4⟩ := rd_last e hq
    rw [wrap_less h3 (by omega), h4]
    repeat (first | assumption | exact cm_now (fun _ => rfl) | refine cm_yes (by first | omega | assumption | (simp; done) | (simp; omega)) ?_ | refine cm_no (by first | omega | assumption | (simp; done) | (simp; omega)) ?_)
  · intro _
    refine cm_step (fun k => by rw [spec_l6Group.l0]) ?_
    repeat (first | assumption | exact cm_now (fun _ => rfl) | refine cm_yes (by first | omega | assumption | (simp; done) | (simp; omega)) ?_ | refine cm_no (by first | omega | assumption | (simp; done) | (simp; omega)) ?_)
theorem areMembers_f (l : List Int) (many : Int) (hl : l.length ≤ 4611686018427387904) (hm : 0 ≤ many ∧ many ≤ 4611686018427387904) : Cm (fun k => impl_areMembers.f k l many) (members many l) := by
  have hw : wrap64 (many - 1) = many - 1 := wrap_in (by omega) (by omega)
  unfold impl_areMembers.f
  have := all_cm (L := fun k i => impl_areMembers.l0 k l many l (l.length : Int) i) l (rises many) (fin := true) (no := false) ?_ ?_ ?_
  · exact cm_val this (if_self _)
  · intro pre h t e hlt hp v hv
    obtain ⟨⟨h0, h1⟩, h2⟩ := rises_yes hp
    refine cm_step (fun k => by rw [impl_areMembers.l0]) ?_
    simp only [rd_at e, wrap_len hlt hl, hw]
    refine cm_yes (by omega) (cm_yes (by omega) (cm_yes (by omega) (cm_bind (cm_now fun _ => in_f _ _ _) (cm_yes (by simp; omega) ?_))))
    rcases last_cases pre with rfl | ⟨q, hq⟩
    · exact cm_no (by simp) hv
    · obtain ⟨h3, h4⟩ := rd_last e hq
      have h5 := h2 q hq
      rw [wrap_less h3 (by omega), h4]
      repeat (first | assumption | exact cm_now (fun _ => rfl) | refine cm_yes (by first | omega | assumption | (simp; done) | (simp; omega)) ?_ | refine cm_no (by first | omega | assumption | (simp; done) | (simp; omega)) ?_)
  · intro pre h t e hlt hp
    refine cm_step (fun k => by rw [impl_areMembers.l0]) ?_
    simp only [rd_at e, wrap_len hlt hl, hw]
    refine cm_yes (by omega) (cm_yes (by omega) (cm_yes (by omega) (cm_bind (cm_now fun _ => in_f _ _ _) ?_)))
    refine cm_if (fun c0 => ?_) (fun _ => cm_now fun _ => rfl)
    simp only [decide_eq_true_eq] at c0
    obtain ⟨q, hq, h5⟩ := rises_no hp (by omega) (by omega)
    obtain ⟨h3, h4⟩ := rd_last e hq
    rw [wrap_less h3 (by omega), h4]
    repeat (first | assumption | exact cm_now (fun _ => rfl) | refine cm_yes (by first | omega | assumption | (simp; done) | (simp; omega)) ?_ | refine cm_no (by first | omega | assumption | (simp; done) | (simp; omega)) ?_)
  · intro _
    refine cm_step (fun k => by rw [impl_areMembers.l0]) ?_
    repeat (first | assumption | exact cm_now (fun _ => rfl) | refine cm_yes (by first | omega | assumption | (simp; done) | (simp; omega)) ?_ | refine cm_no (by first | omega | assumption | (simp; done) | (simp; omega)) ?_)
theorem contains_f (l : List Int) (n : Int) (hl : l.length ≤ 4611686018427387904) : Cm (fun k => slices_Contains_int_int.f k l n) (decide (n ∈ l)) := by
  unfold slices_Contains_int_int.f slices_Index_int_int.f
  refine cm_bind (t := foundAt (fun x => decide (n = x)) (fun i _ => (i : Int)) (-1) 0 l) ?_ (cm_now fun _ => ?_)
  · refine find_cm (L := fun k i => slices_Index_int_int.l0 k l n (l.length : Int) i) l (fun x => decide (n = x)) (fun i _ => (i : Int)) (none_ := (-1 : Int)) ?_ ?_ ?_
    · intro pre h t e hlt hp v hv
      simp only [decide_eq_false_iff_not] at hp
      refine cm_step (fun k => by rw [slices_Index_int_int.l0]) ?_
      simp only [rd_at e, wrap_len hlt hl]
      repeat (first | assumption | exact cm_now (fun _ => rfl) | refine cm_yes (by first | omega | assumption | (simp; done) | (simp; omega)) ?_ | refine cm_no (by first | omega | assumption | (simp; done) | (simp; omega)) ?_)
    · intro pre h t e hlt hp
      simp only [decide_eq_true_eq] at hp
      refine cm_step (fun k => by rw [slices_Index_int_int.l0]) ?_
      simp only [rd_at e, wrap_len hlt hl]
      repeat (first | assumption | exact cm_now (fun _ => rfl) | refine cm_yes (by first | omega | assumption | (simp; done) | (simp; omega)) ?_ | refine cm_no (by first | omega | assumption | (simp; done) | (simp; omega)) ?_)
    · refine cm_step (fun k => by rw [slices_Index_int_int.l0]) ?_
      repeat (first | assumption | exact cm_now (fun _ => rfl) | refine cm_yes (by first | omega | assumption | (simp; done) | (simp; omega)) ?_ | refine cm_no (by first | omega | assumption | (simp; done) | (simp; omega)) ?_)
  · rw [found_any]
    congr 1
    rw [Bool.eq_iff_iff]
    simp
end Go.Proofs.Ytfdgmknjmljhbaa.Mem
end
section
namespace Go.Proofs.Ytfdgmknjmljhbaa.Grp
open Go.RowKit Go.Proofs.Ytfdgmknjmljhbaa.P Go.Proofs.YtfdgmknjmljhbaaW.PrintWords Go.Proofs.YtfdgmknjmljhbaaW.PrintLast Go.Proofs.YtfdgmknjmljhbaaW.PrintMore
open Go.Proofs.Ytfdgmknjmljhbaa.Pl Go.Proofs.Ytfdgmknjmljhbaa.EvN Go.Proofs.Ytfdgmknjmljhbaa.Lp Go.Proofs.Ytfdgmknjmljhbaa.Sets Go.Proofs.Ytfdgmknjmljhbaa.Mem Go.Proofs.Ytfdgmknjmljhbaa.Hg
set_option linter.unusedSimpArgs false
set_option linter.unusedVariables false
def goodRow1 (m : Int) (pre : List S92) (h : S92) : Bool := decide ((0 ≤ h.f0 ∧ h.f0 ≤ m) ∧ (0 ≤ h.f1 ∧ h.f1 ≤ 99)) && (match pre.getLast? with | some q => decide (q.f0 ≤ h.f0) | none => true)
def goodRows (m : Int) (l : List S92) : Bool := okFrom (goodRow1 m) [] l && decide (l.length ≤ 30)
theorem log_yes {m : Int} {pre : List S92} {h : S92} (hp : goodRow1 m pre h = true) : (0 ≤ h.f0 ∧ h.f0 ≤ m) ∧ (0 ≤ h.f1 ∧ h.f1 ≤ 99) ∧ ∀ q, pre.getLast? = some q → q.f0 ≤ h.f0 := by
  unfold goodRow1 at hp
  simp only [Bool.and_eq_true, decide_eq_true_eq] at hp
  refine ⟨hp.1.1, hp.1.2, fun q e => ?_⟩
  have h2 := hp.2
  rw [e] at h2
  simpa using h2
theorem log_no {m : Int} {pre : List S92} {h : S92} (hp : goodRow1 m pre h = false) (h0 : 0 ≤ h.f0 ∧ h.f0 ≤ m) (h1 : 0 ≤ h.f1 ∧ h.f1 ≤ 99) : ∃ q, pre.getLast? = some q ∧ h.f0 < q.f0 := by
  unfold goodRow1 at hp
  cases e : pre.getLast? with
  | none => rw [e] at hp; simp at hp; omega
  | some q =>
    rw [e] at hp
    simp at hp
    exact ⟨q, rfl, by omega⟩
theorem rd92_last {pre rest l : List S92} (e : pre ++ rest = l) {q : S92} (h : pre.getLast? = some q) : 0 < pre.length ∧ rd_T92 l ((pre.length : Int) - 1) = q := getLast_at e _ h
theorem l11Log_f (l : List S92) (m : Int) (hl : l.length ≤ 4611686018427387904) : Cm (fun k => spec_l11Log.f k l m) (goodRows m l) := by
  unfold spec_l11Log.f
  refine cm_val (all_cm (L := fun k i => spec_l11Log.l0 k l m l (l.length : Int) i) l (goodRow1 m) (fin := decide (l.length ≤ 30)) (no := false) ?_ ?_ ?_) ?_
  · intro pre h t e hlt hp v hv
    obtain ⟨h0, h1, h2⟩ := log_yes hp
    refine cm_step (fun k => by rw [spec_l11Log.l0]) ?_
    simp only [rdT92_at e, wrap_len hlt hl]
    refine cm_yes (by omega) (cm_yes (by omega) (cm_yes (by omega) (cm_bind (cm_now fun _ => l1In_f _ _ _) (cm_yes (by simp [h0]) (cm_bind (cm_now fun _ => l1In_f _ _ _) (cm_yes (by simp [h1]) ?_))))))
    rcases last_cases pre with rfl | ⟨q, hq⟩
    · exact cm_no (by simp) hv
    · obtain ⟨h3, h4⟩ := rd92_last e hq
      have h5 := h2 q hq
      rw [wrap_less h3 (by omega), h4]
      exact cm_yes (by omega) (cm_yes (by omega) (cm_yes (by omega) (cm_no (by omega) hv)))
  · intro pre h t e hlt hp
    refine cm_step (fun k => by rw [spec_l11Log.l0]) ?_
    simp only [rdT92_at e, wrap_len hlt hl]
    refine cm_yes (by omega) (cm_yes (by omega) (cm_yes (by omega) (cm_bind (cm_now fun _ => l1In_f _ _ _) (cm_if (fun c0 => cm_bind (cm_now fun _ => l1In_f _ _ _) (cm_if (fun c1 => ?_) (fun _ => cm_now fun _ => rfl))) (fun _ => cm_now fun _ => rfl)))))
    simp only [decide_eq_true_eq] at c0 c1
    obtain ⟨q, hq, h5⟩ := log_no hp c0 c1
    obtain ⟨h3, h4⟩ := rd92_last e hq
    rw [wrap_less h3 (by omega), h4]
    exact cm_yes (by omega) (cm_yes (by omega) (cm_yes (by omega) (cm_yes (by omega) (cm_now fun _ => rfl))))
  · intro _
    refine cm_step (fun k => by rw [spec_l11Log.l0]) ?_
    exact cm_no (by omega) (cm_now fun _ => by congr 1; rw [decide_eq_decide]; omega)
  · unfold goodRows
    cases okFrom (goodRow1 m) [] l <;> simp
def lastTerm (pre : List S92) : Int := match pre.getLast? with | some q => q.f0 | none => 0
theorem isRows_l0 (l : List S92) (m : Int) (hl : l.length ≤ 4611686018427387904) : ∀ (rest pre : List S92), pre ++ rest = l → 0 ≤ lastTerm pre →
    Cm (fun k => impl_isRows.l0 k l m (lastTerm pre) l (l.length : Int) (pre.length : Int)) (okFrom (goodRow1 m) pre rest && decide (l.length ≤ 30))
  | [], pre, e, _ => by
    have := len_end e
    refine cm_step (fun k => by rw [impl_isRows.l0]) ?_
    refine cm_no (by omega) (cm_now fun _ => ?_)
    simp only [okFrom, Bool.true_and]
    congr 1
    rw [decide_eq_decide]
    omega
  | h :: t, pre, e, h0 => by
    have hlt := len_mid e
    refine cm_step (fun k => by rw [impl_isRows.l0]) ?_
    simp only [rdT92_at e, wrap_len hlt hl]
    refine cm_yes (by omega) (cm_yes (by omega) (cm_yes (by omega) (cm_bind (cm_now fun _ => in_f _ _ _) ?_)))
    have hlast : lastTerm (pre ++ [h]) = h.f0 := by simp [lastTerm]
    have hg : goodRow1 m pre h = decide ((lastTerm pre ≤ h.f0 ∧ h.f0 ≤ m) ∧ (0 ≤ h.f1 ∧ h.f1 ≤ 99)) := by
      unfold goodRow1
      unfold lastTerm at h0 ⊢
      cases e2 : pre.getLast? with
      | none => simp
      | some q =>
        rw [e2] at h0
        simp only at h0 ⊢
        rw [← Bool.decide_and, decide_eq_decide]
        omega
    refine cm_if (fun c => cm_bind (cm_now fun _ => in_f _ _ _) (cm_if (fun c2 => ?_) (fun c2 => cm_now fun _ => ?_))) (fun c => cm_now fun _ => ?_)
    · simp only [decide_eq_true_eq] at c c2
      have ih := isRows_l0 l m hl t (pre ++ [h]) (app_mid e) (by rw [hlast]; omega)
      rw [hlast, len_one] at ih
      refine cm_val ih ?_
      simp only [okFrom, hg, c, c2, _root_.and_self, decide_true, Bool.true_and]
    · simp only [decide_eq_true_eq] at c c2
      simp only [okFrom, hg, c2, and_false, decide_false, Bool.false_and]
    · simp only [decide_eq_true_eq] at c
      simp only [okFrom, hg, c, false_and, decide_false, Bool.false_and]
theorem isRows_f (l : List S92) (m : Int) (hl : l.length ≤ 4611686018427387904) : Cm (fun k => impl_isRows.f k l m) (goodRows m l) := by
  unfold impl_isRows.f
  exact isRows_l0 l m hl l [] rfl (by simp [lastTerm])
def same : List S92 → List S92 → Nat
  | a :: xs, b :: ys => if a.f0 = b.f0 ∧ a.f1 = b.f1 then same xs ys + 1 else 0
  | _, _ => 0
theorem same_nil (x : List S92) : same x [] = 0 := by cases x <;> rfl
theorem rd92_get (x : List S92) {i : Nat} (h : i < x.length) : rd_T92 x (i : Int) = x[i] := by
  unfold rd_T92
  rw [Int.toNat_natCast, List.getD_eq_getElem?_getD, List.getElem?_eq_getElem h, Option.getD_some]
theorem like92 {a b : S92} : ((a.f0 == b.f0 && a.f1 == b.f1) = true) ↔ (a.f0 = b.f0 ∧ a.f1 = b.f1) := by simp
theorem specSame_l0 (x y : List S92) (hx : x.length ≤ 4611686018427387904) : ∀ (n i : Nat), x.length - i = n → i ≤ x.length → Cm (fun k => spec_l11Same.l0 k x y (i : Int)) (((i + same (x.drop i) (y.drop i) : Nat)) : Int)
  | 0, i, hn, hi => by
    have e : x.drop i = [] := List.drop_eq_nil_of_le (by omega)
    refine cm_step (fun k => by rw [spec_l11Same.l0]) ?_
    refine cm_no (by omega) (cm_now fun _ => ?_)
    rw [e]
    rfl
  | n + 1, i, hn, hi => by
    have hlt : i < x.length := by omega
    have ex : x.drop i = x[i] :: x.drop (i + 1) := List.drop_eq_getElem_cons hlt
    refine cm_step (fun k => by rw [spec_l11Same.l0]) ?_
    refine cm_yes (by omega) (cm_if (fun c => cm_yes (by omega) ?_) (fun c => cm_now fun _ => ?_))
    · have hy : i < y.length := by omega
      have ey : y.drop i = y[i] :: y.drop (i + 1) := List.drop_eq_getElem_cons hy
      rw [rd92_get x hlt, rd92_get y hy]
      rw [ex, ey]
      refine cm_if (fun c2 => ?_) (fun c2 => cm_now fun _ => ?_)
      · rw [like92] at c2
        have ih := specSame_l0 x y hx n (i + 1) (by omega) (by omega)
        rw [wrap_len hlt hx]
        refine cm_val ih ?_
        rw [same, if_pos c2]
        omega
      · rw [like92] at c2
        rw [same, if_neg c2]
        rfl
    · have ey : y.drop i = [] := List.drop_eq_nil_of_le (by omega)
      rw [ey, same_nil]
      rfl
theorem specSame_f (x y : List S92) (hx : x.length ≤ 4611686018427387904) : Cm (fun k => spec_l11Same.f k x y) ((same x y : Nat) : Int) := by
  unfold spec_l11Same.f
  have := specSame_l0 x y hx x.length 0 (by omega) (by omega)
  simpa using this
theorem implSame_l0 (x y : List S92) (hx : x.length ≤ 4611686018427387904) : ∀ (n i : Nat), x.length - i = n → i ≤ x.length → Cm (fun k => impl_Group_shared.l0 k x y (i : Int)) (((i + same (x.drop i) (y.drop i) : Nat)) : Int)
  | 0, i, hn, hi => by
    have e : x.drop i = [] := List.drop_eq_nil_of_le (by omega)
    have hm : mn (x.length : Int) (y.length : Int) = ((min x.length y.length : Nat) : Int) := by unfold mn; split <;> omega
    refine cm_step (fun k => by rw [impl_Group_shared.l0]) ?_
    rw [hm]
    refine cm_no (by omega) (cm_now fun _ => ?_)
    rw [e]
    rfl
  | n + 1, i, hn, hi => by
    have hlt : i < x.length := by omega
    have ex : x.drop i = x[i] :: x.drop (i + 1) := List.drop_eq_getElem_cons hlt
    have hm : mn (x.length : Int) (y.length : Int) = ((min x.length y.length : Nat) : Int) := by unfold mn; split <;> omega
    refine cm_step (fun k => by rw [impl_Group_shared.l0]) ?_
    rw [hm]
    refine cm_if (fun c => cm_yes (by omega) (cm_yes (by omega) (cm_yes (by omega) ?_))) (fun c => cm_now fun _ => ?_)
    · have hy : i < y.length := by omega
      have ey : y.drop i = y[i] :: y.drop (i + 1) := List.drop_eq_getElem_cons hy
      rw [rd92_get x hlt, rd92_get y hy]
      rw [ex, ey]
      refine cm_if (fun c2 => ?_) (fun c2 => cm_now fun _ => ?_)
      · rw [like92] at c2
        have ih := implSame_l0 x y hx n (i + 1) (by omega) (by omega)
        rw [wrap_len hlt hx]
        refine cm_val ih ?_
        rw [same, if_pos c2]
        omega
      · rw [like92] at c2
        rw [same, if_neg c2]
        rfl
    · have ey : y.drop i = [] := List.drop_eq_nil_of_le (by omega)
      rw [ey, same_nil]
      rfl
def ahead (rs : List S80) (lead i : Int) : Nat := same ((rd_T80 rs i).f0) ((rd_T80 rs lead).f0)
theorem rd80_in {rs : List S80} {i : Int} (h : 0 ≤ i ∧ i < (rs.length : Int)) : rd_T80 rs i ∈ rs := by
  unfold rd_T80
  rw [List.getD_eq_getElem?_getD, List.getElem?_eq_getElem (by omega), Option.getD_some]
  exact List.getElem_mem _
theorem shared_f (ep lead : Int) (sync : List Int) (com : Int) (rs : List S80) (i : Int) (hs : ∀ y ∈ rs, smReplica y) (hl : 0 ≤ lead ∧ lead < (rs.length : Int)) (hi : 0 ≤ i ∧ i < (rs.length : Int)) : Cm (fun k => impl_Group_shared.f k ep lead sync com rs i) ((ahead rs lead i : Nat) : Int) := by
  unfold impl_Group_shared.f
  refine cm_yes hi.1 (cm_yes hi.2 (cm_yes hl.1 (cm_yes hl.2 ?_)))
  have hx := (hs _ (rd80_in hi)).1.1
  have := implSame_l0 ((rd_T80 rs i).f0) ((rd_T80 rs lead).f0) hx ((rd_T80 rs i).f0).length 0 (by omega) (by omega)
  unfold ahead
  simpa using this
def goodRep (ep lead : Int) (sync : List Int) (com : Int) (rs : List S80) (pre : List S80) (h : S80) : Bool := goodRows ep h.f0 && decide ((0 ≤ h.f1 ∧ h.f1 ≤ ep) ∧ (0 ≤ h.f2 ∧ h.f2 ≤ (h.f0.length : Int)) ∧ (h.f1 = ep → h.f2 ≤ (same h.f0 ((rd_T80 rs lead).f0) : Int)) ∧ ((pre.length : Int) ∈ sync → com ≤ (same h.f0 ((rd_T80 rs lead).f0) : Int)))
def headOk (x : S36) : Bool := decide ((2 ≤ x.f4.length ∧ x.f4.length ≤ 4) ∧ (0 ≤ x.f0 ∧ x.f0 ≤ 100)) && members (x.f4.length : Int) x.f2 && decide (x.f1 ∈ x.f2 ∧ 0 ≤ x.f3)
def good (x : S36) : Bool := headOk x && okFrom (goodRep x.f0 x.f1 x.f2 x.f3 x.f4) [] x.f4
theorem specReps_f (ep lead : Int) (sync : List Int) (com : Int) (rs : List S80) (hsy : sync.length ≤ 4611686018427387904) (hr : rs.length ≤ 4611686018427387904) (hs : ∀ y ∈ rs, smReplica y) (hl : 0 ≤ lead ∧ lead < (rs.length : Int)) : Cm (fun k => spec_GoodGroup.l0 k rs (rs.length : Int) 0 ep lead sync com rs) (okFrom (goodRep ep lead sync com rs) [] rs) := by
  have key : ∀ (pre : List S80) (h : S80) (t : List S80), pre ++ h :: t = rs → pre.length < rs.length → ∀ v : Bool, (goodRep ep lead sync com rs pre h = true → Cm (fun k => spec_GoodGroup.l0 k rs (rs.length : Int) ((pre.length + 1 : Nat) : Int) ep lead sync com rs) v) → (goodRep ep lead sync com rs pre h = false → v = false) →
      Cm (fun k => spec_GoodGroup.l0 k rs (rs.length : Int) (pre.length : Int) ep lead sync com rs) v := by
    intro pre h t e hlt v hv hno
    have hh := hs h (by rw [← e]; simp)
    have h0 := hh.1.1
    generalize hS : (same h.f0 ((rd_T80 rs lead).f0)) = s at *
    have hsame : Cm (fun k => spec_l11Same.f k h.f0 ((rd_T80 rs lead).f0)) ((s : Nat) : Int) := by rw [← hS]; exact specSame_f _ _ h0
    have hgd : goodRep ep lead sync com rs pre h = (goodRows ep h.f0 && decide ((0 ≤ h.f1 ∧ h.f1 ≤ ep) ∧ (0 ≤ h.f2 ∧ h.f2 ≤ (h.f0.length : Int)) ∧ (h.f1 = ep → h.f2 ≤ (s : Int)) ∧ ((pre.length : Int) ∈ sync → com ≤ (s : Int)))) := by unfold goodRep; rw [hS]
    rw [hgd] at hv hno
    have hj3 : ∀ q : Bool, (q = false → (h.f1 = ep → h.f2 ≤ (s : Int)) → Cm (fun k => spec_GoodGroup.l0 k rs (rs.length : Int) ((pre.length + 1 : Nat) : Int) ep lead sync com rs) v) → (¬ (q = false ∧ (h.f1 = ep → h.f2 ≤ (s : Int))) → v = false) → Cm (fun k => spec_GoodGroup.j3 k rs (rs.length : Int) (pre.length : Int) q ep lead sync com rs h.f0 h.f1 h.f2) v := by
      intro q h1 h2
      refine cm_step (fun k => by rw [spec_GoodGroup.j3]) ?_
      cases q
      · refine cm_no (by simp) (cm_if (fun c => cm_yes hl.1 (cm_yes hl.2 (cm_bind hsame (cm_if (fun c2 => cm_now fun _ => ?_) (fun c2 => ?_))))) (fun c => ?_))
        · rw [h2 (fun z => by have := z.2 c; omega)]
        · rw [wrap_len hlt hr]
          exact h1 rfl (fun _ => by omega)
        · rw [wrap_len hlt hr]
          exact h1 rfl (fun z => absurd z c)
      · refine cm_yes rfl (cm_now fun _ => ?_)
        rw [h2 (fun z => by cases z.1)]
    have hj2 : ∀ q : Bool, (q = false → (h.f1 = ep → h.f2 ≤ (s : Int)) → ((pre.length : Int) ∈ sync → com ≤ (s : Int)) → Cm (fun k => spec_GoodGroup.l0 k rs (rs.length : Int) ((pre.length + 1 : Nat) : Int) ep lead sync com rs) v) → (¬ (q = false ∧ (h.f1 = ep → h.f2 ≤ (s : Int)) ∧ ((pre.length : Int) ∈ sync → com ≤ (s : Int))) → v = false) →
        Cm (fun k => spec_GoodGroup.j2 k (pre.length : Int) rs (rs.length : Int) (pre.length : Int) q ep lead sync com rs h.f0 h.f1 h.f2) v := by
      intro q h1 h2
      refine cm_step (fun k => by rw [spec_GoodGroup.j2]) ?_
      cases q
      · refine cm_no (by simp) (cm_bind (has_f sync (pre.length : Int) hsy) (cm_if (fun c => ?_) (fun c => ?_)))
        · simp only [decide_eq_true_eq] at c
          refine cm_yes hl.1 (cm_yes hl.2 (cm_bind hsame (hj3 _ (fun z z2 => ?_) (fun z => h2 (fun w => z ⟨?_, w.2.1⟩)))))
          · exact h1 rfl z2 (fun _ => by simp only [decide_eq_false_iff_not] at z; omega)
          · have := w.2.2 c
            rw [decide_eq_false_iff_not]
            omega
        · simp only [decide_eq_true_eq] at c
          exact hj3 false (fun _ z2 => h1 rfl z2 (fun z => absurd z c)) (fun z => h2 (fun w => z ⟨rfl, w.2.1⟩))
      · refine cm_yes rfl (cm_now fun _ => ?_)
        rw [h2 (fun z => by cases z.1)]
    have hbad : v = false → Cm (fun k => spec_GoodGroup.j2 k (pre.length : Int) rs (rs.length : Int) (pre.length : Int) true ep lead sync com rs h.f0 h.f1 h.f2) v := fun z => hj2 true (fun w => by cases w) (fun _ => z)
    refine cm_step (fun k => by rw [spec_GoodGroup.l0]) ?_
    simp only [rdT80_at e]
    refine cm_yes (by omega) (cm_yes (by omega) (cm_yes (by omega) (cm_bind (l11Log_f h.f0 ep h0) (cm_if (fun c => cm_bind (cm_now fun _ => l1In_f _ _ _) (cm_if (fun c2 => cm_if (fun c3 => hbad ?_) (fun c3 => hj2 _ (fun z z2 z3 => hv ?_) (fun z => hno ?_))) (fun c2 => hbad ?_))) (fun c => hbad ?_)))))
    · refine hno ?_
      rw [c, Bool.true_and, decide_eq_false_iff_not]
      intro z
      omega
    · simp only [decide_eq_true_eq] at c2
      simp only [decide_eq_false_iff_not] at z
      rw [c, Bool.true_and, decide_eq_true_eq]
      exact ⟨c2, ⟨by omega, by omega⟩, z2, z3⟩
    · rw [c, Bool.true_and, decide_eq_false_iff_not]
      intro w
      exact z ⟨by rw [decide_eq_false_iff_not]; have := w.2.1.2; omega, w.2.2.1, w.2.2.2⟩
    · simp only [decide_eq_true_eq] at c2
      refine hno ?_
      rw [c, Bool.true_and, decide_eq_false_iff_not]
      exact fun z => c2 z.1
    · refine hno ?_
      have c' : goodRows ep h.f0 = false := by simpa using c
      rw [c', Bool.false_and]
  refine cm_val (all_cm (L := fun k i => spec_GoodGroup.l0 k rs (rs.length : Int) i ep lead sync com rs) rs (goodRep ep lead sync com rs) (fin := true) (no := false) ?_ ?_ ?_) (if_self _)
  · intro pre h t e hlt hp v hv
    exact key pre h t e hlt v (fun _ => hv) (by rw [hp]; simp)
  · intro pre h t e hlt hp
    exact key pre h t e hlt false (by rw [hp]; simp) (fun _ => rfl)
  · intro _
    refine cm_step (fun k => by rw [spec_GoodGroup.l0]) ?_
    exact cm_no (by omega) (cm_now fun _ => rfl)
theorem lead_in {x : S36} (hm : members (x.f4.length : Int) x.f2 = true) (hl : x.f1 ∈ x.f2) : 0 ≤ x.f1 ∧ x.f1 < (x.f4.length : Int) := members_in hm x.f1 hl
theorem head_parts {x : S36} (h : headOk x = true) : ((2 ≤ x.f4.length ∧ x.f4.length ≤ 4) ∧ (0 ≤ x.f0 ∧ x.f0 ≤ 100)) ∧ members (x.f4.length : Int) x.f2 = true ∧ x.f1 ∈ x.f2 ∧ 0 ≤ x.f3 := by
  unfold headOk at h
  simp only [Bool.and_eq_true, decide_eq_true_eq] at h
  exact ⟨h.1.1, h.1.2, h.2⟩
theorem good_no {x : S36} (h : ¬ (((2 ≤ x.f4.length ∧ x.f4.length ≤ 4) ∧ (0 ≤ x.f0 ∧ x.f0 ≤ 100)) ∧ members (x.f4.length : Int) x.f2 = true ∧ x.f1 ∈ x.f2 ∧ 0 ≤ x.f3)) : false = good x := by
  unfold good
  cases e : headOk x
  · rfl
  · exact absurd (head_parts e) h
theorem spec_f (x : S36) (h : smGroup x) : Cm (fun k => spec_GoodGroup.f k x.f0 x.f1 x.f2 x.f3 x.f4) (good x) := by
  obtain ⟨_, _, hsy, _, hr, hs⟩ := h
  unfold spec_GoodGroup.f
  have hno : Cm (fun k => spec_GoodGroup.j0 k true x.f0 x.f1 x.f2 x.f3 x.f4) false := by
    refine cm_step (fun k => by rw [spec_GoodGroup.j0]) ?_
    exact cm_yes rfl (cm_now fun _ => rfl)
  refine cm_bind (cm_now fun _ => l1In_f _ _ _) (cm_if (fun c => cm_bind (cm_now fun _ => l1In_f _ _ _) (cm_if (fun c2 => cm_bind (group_f x.f2 _ hsy) (cm_if (fun c3 => cm_bind (has_f x.f2 x.f1 hsy) (cm_if (fun c4 => ?_) (fun c4 => cm_val hno (good_no ?_)))) (fun c3 => cm_val hno (good_no ?_)))) (fun c2 => cm_val hno (good_no ?_)))) (fun c => cm_val hno (good_no ?_)))
  · simp only [decide_eq_true_eq] at c c2 c4
    by_cases c5 : x.f3 < 0
    · rw [show decide (x.f3 < 0) = true from decide_eq_true c5]
      exact cm_val hno (good_no (fun z => by omega))
    · rw [show decide (x.f3 < 0) = false from decide_eq_false c5]
      refine cm_step (fun k => by rw [spec_GoodGroup.j0]) ?_
      refine cm_no (by simp) (cm_val (specReps_f x.f0 x.f1 x.f2 x.f3 x.f4 hsy hr hs (lead_in c3 c4)) ?_)
      have e : headOk x = true := by
        unfold headOk
        rw [c3, Bool.and_true, ← Bool.decide_and, decide_eq_true_eq]
        exact ⟨⟨by omega, c2⟩, c4, by omega⟩
      unfold good
      rw [e, Bool.true_and]
  · simp only [decide_eq_true_eq] at c4
    exact fun z => c4 z.2.2.1
  · exact fun z => c3 z.2.1
  · simp only [decide_eq_true_eq] at c2
    exact fun z => c2 z.1.2
  · simp only [decide_eq_true_eq] at c
    exact fun z => c (by omega)
theorem implReps_f (ep lead : Int) (sync : List Int) (com : Int) (rs : List S80) (hsy : sync.length ≤ 4611686018427387904) (hr : rs.length ≤ 4611686018427387904) (hs : ∀ y ∈ rs, smReplica y) (hl : 0 ≤ lead ∧ lead < (rs.length : Int)) : Cm (fun k => impl_isGroup.l0 k rs (rs.length : Int) 0 ep lead sync com rs) (okFrom (goodRep ep lead sync com rs) [] rs) := by
  have key : ∀ (pre : List S80) (h : S80) (t : List S80), pre ++ h :: t = rs → pre.length < rs.length → ∀ v : Bool, (goodRep ep lead sync com rs pre h = true → Cm (fun k => impl_isGroup.l0 k rs (rs.length : Int) ((pre.length + 1 : Nat) : Int) ep lead sync com rs) v) → (goodRep ep lead sync com rs pre h = false → v = false) →
      Cm (fun k => impl_isGroup.l0 k rs (rs.length : Int) (pre.length : Int) ep lead sync com rs) v := by
    intro pre h t e hlt v hv hno
    have hh := hs h (by rw [← e]; simp)
    have h0 := hh.1.1
    have hrd : rd_T80 rs (pre.length : Int) = h := rdT80_at e
    have hsh := shared_f ep lead sync com rs (pre.length : Int) hs hl (by omega)
    unfold ahead at hsh
    rw [hrd] at hsh
    generalize hS : (same h.f0 ((rd_T80 rs lead).f0)) = s at *
    have hgd : goodRep ep lead sync com rs pre h = (goodRows ep h.f0 && decide ((0 ≤ h.f1 ∧ h.f1 ≤ ep) ∧ (0 ≤ h.f2 ∧ h.f2 ≤ (h.f0.length : Int)) ∧ (h.f1 = ep → h.f2 ≤ (s : Int)) ∧ ((pre.length : Int) ∈ sync → com ≤ (s : Int)))) := by unfold goodRep; rw [hS]
    rw [hgd] at hv hno
    have hj2 : ∀ q : Bool, (q = false → ((pre.length : Int) ∈ sync → com ≤ (s : Int)) → Cm (fun k => impl_isGroup.l0 k rs (rs.length : Int) ((pre.length + 1 : Nat) : Int) ep lead sync com rs) v) → (¬ (q = false ∧ ((pre.length : Int) ∈ sync → com ≤ (s : Int))) → v = false) →
        Cm (fun k => impl_isGroup.j2 k (pre.length : Int) rs (rs.length : Int) (pre.length : Int) q ep lead sync com rs) v := by
      intro q h1 h2
      refine cm_step (fun k => by rw [impl_isGroup.j2]) ?_
      cases q
      · refine cm_no (by simp) (cm_bind (contains_f sync (pre.length : Int) hsy) (cm_if (fun c => cm_bind hsh (cm_if (fun c2 => cm_now fun _ => ?_) (fun c2 => ?_))) (fun c => ?_)))
        · simp only [decide_eq_true_eq] at c
          rw [h2 (fun z => by have := z.2 c; omega)]
        · rw [wrap_len hlt hr]
          exact h1 rfl (fun _ => by omega)
        · simp only [decide_eq_true_eq] at c
          rw [wrap_len hlt hr]
          exact h1 rfl (fun z => absurd z c)
      · refine cm_yes rfl (cm_now fun _ => ?_)
        rw [h2 (fun z => by cases z.1)]
    have hbad : v = false → Cm (fun k => impl_isGroup.j2 k (pre.length : Int) rs (rs.length : Int) (pre.length : Int) true ep lead sync com rs) v := fun z => hj2 true (fun w => by cases w) (fun _ => z)
    refine cm_step (fun k => by rw [impl_isGroup.l0]) ?_
    simp only [hrd]
    refine cm_yes (by omega) (cm_yes (by omega) (cm_yes (by omega) (cm_bind (isRows_f h.f0 ep h0) (cm_if (fun c => cm_bind (cm_now fun _ => in_f _ _ _) (cm_if (fun c2 => cm_bind (cm_now fun _ => in_f _ _ _) (cm_if (fun c3 => cm_if (fun c4 => cm_bind hsh (hj2 _ (fun z z2 => hv ?_) (fun z => hno ?_))) (fun c4 => hj2 _ (fun z z2 => hv ?_) (fun z => hno ?_))) (fun c3 => hbad ?_))) (fun c2 => hbad ?_))) (fun c => hbad ?_)))))
    · simp only [decide_eq_true_eq] at c2 c3
      simp only [decide_eq_false_iff_not] at z
      rw [c, Bool.true_and, decide_eq_true_eq]
      exact ⟨c2, c3, fun _ => by omega, z2⟩
    · rw [c, Bool.true_and, decide_eq_false_iff_not]
      intro w
      exact z ⟨by rw [decide_eq_false_iff_not]; have := w.2.2.1 c4; omega, w.2.2.2⟩
    · simp only [decide_eq_true_eq] at c2 c3
      rw [c, Bool.true_and, decide_eq_true_eq]
      exact ⟨c2, c3, fun w => absurd w c4, z2⟩
    · rw [c, Bool.true_and, decide_eq_false_iff_not]
      intro w
      exact z ⟨rfl, w.2.2.2⟩
    · simp only [decide_eq_true_eq] at c3
      refine hno ?_
      rw [c, Bool.true_and, decide_eq_false_iff_not]
      exact fun z => c3 z.2.1
    · simp only [decide_eq_true_eq] at c2
      refine hno ?_
      rw [c, Bool.true_and, decide_eq_false_iff_not]
      exact fun z => c2 z.1
    · refine hno ?_
      have c' : goodRows ep h.f0 = false := by simpa using c
      rw [c', Bool.false_and]
  refine cm_val (all_cm (L := fun k i => impl_isGroup.l0 k rs (rs.length : Int) i ep lead sync com rs) rs (goodRep ep lead sync com rs) (fin := true) (no := false) ?_ ?_ ?_) (if_self _)
  · intro pre h t e hlt hp v hv
    exact key pre h t e hlt v (fun _ => hv) (by rw [hp]; simp)
  · intro pre h t e hlt hp
    exact key pre h t e hlt false (by rw [hp]; simp) (fun _ => rfl)
  · intro _
    refine cm_step (fun k => by rw [impl_isGroup.l0]) ?_
    exact cm_no (by omega) (cm_now fun _ => rfl)
theorem isGroup_f (x : S36) (h : smGroup x) : Cm (fun k => impl_isGroup.f k x.f0 x.f1 x.f2 x.f3 x.f4) (good x) := by
  obtain ⟨_, _, hsy, _, hr, hs⟩ := h
  unfold impl_isGroup.f
  have hno : Cm (fun k => impl_isGroup.j0 k true x.f0 x.f1 x.f2 x.f3 x.f4) false := by
    refine cm_step (fun k => by rw [impl_isGroup.j0]) ?_
    exact cm_yes rfl (cm_now fun _ => rfl)
  have hw : wrap64 ((x.f4.length : Int) - 1) = (x.f4.length : Int) - 1 := wrap_in (by omega) (by omega)
  rw [hw]
  refine cm_bind (cm_now fun _ => in_f _ _ _) (cm_if (fun c => cm_bind (cm_now fun _ => in_f _ _ _) (cm_if (fun c2 => cm_bind (cm_now fun _ => in_f _ _ _) (cm_if (fun c6 => cm_bind (areMembers_f x.f2 _ hsy (by omega)) (cm_if (fun c3 => cm_bind (contains_f x.f2 x.f1 hsy) (cm_if (fun c4 => ?_) (fun c4 => cm_val hno (good_no ?_)))) (fun c3 => cm_val hno (good_no ?_)))) (fun c6 => cm_val hno (good_no ?_)))) (fun c2 => cm_val hno (good_no ?_)))) (fun c => cm_val hno (good_no ?_)))
  · simp only [decide_eq_true_eq] at c c2 c4
    by_cases c5 : x.f3 < 0
    · rw [show decide (x.f3 < 0) = true from decide_eq_true c5]
      exact cm_val hno (good_no (fun z => by omega))
    · rw [show decide (x.f3 < 0) = false from decide_eq_false c5]
      refine cm_step (fun k => by rw [impl_isGroup.j0]) ?_
      refine cm_no (by simp) (cm_val (implReps_f x.f0 x.f1 x.f2 x.f3 x.f4 hsy hr hs (lead_in c3 c4)) ?_)
      have e : headOk x = true := by
        unfold headOk
        rw [c3, Bool.and_true, ← Bool.decide_and, decide_eq_true_eq]
        exact ⟨⟨by omega, c2⟩, c4, by omega⟩
      unfold good
      rw [e, Bool.true_and]
  · simp only [decide_eq_true_eq] at c4
    exact fun z => c4 z.2.2.1
  · exact fun z => c3 z.2.1
  · simp only [decide_eq_true_eq] at c6
    exact fun z => c6 (by have := lead_in z.2.1 z.2.2.1; omega)
  · simp only [decide_eq_true_eq] at c2
    exact fun z => c2 z.1.2
  · simp only [decide_eq_true_eq] at c
    exact fun z => c (by omega)
def lag (x : S36) (i : Int) : Int × Bool := if good x = true ∧ (0 ≤ i ∧ i < (x.f4.length : Int)) then (wrap64 ((((rd_T80 x.f4 x.f1).f0).length : Int) - (ahead x.f4 x.f1 i : Int)), true) else (0, false)
theorem good_lead {x : S36} (h : good x = true) : 0 ≤ x.f1 ∧ x.f1 < (x.f4.length : Int) := by
  unfold good at h
  rw [Bool.and_eq_true] at h
  have := head_parts h.1
  exact lead_in this.2.1 this.2.2.1
theorem specLag_f (x : S36) (h : smGroup x) (i : Int) : Cm (fun k => spec_LagIn.f k x.f0 x.f1 x.f2 x.f3 x.f4 i) (lag x i) := by
  unfold spec_LagIn.f lag
  refine cm_bind (spec_f x h) (cm_if (fun c => cm_if (fun c2 => cm_now fun _ => ?_) (fun c2 => cm_if (fun c3 => cm_now fun _ => ?_) (fun c3 => ?_))) (fun c => cm_now fun _ => ?_))
  · rw [if_neg (fun z => by omega)]
  · rw [if_neg (fun z => by omega)]
  · have hl := good_lead c
    have hi : 0 ≤ i ∧ i < (x.f4.length : Int) := by omega
    have h0 := (h.2.2.2.2.2 _ (rd80_in hi)).1.1
    refine cm_yes hl.1 (cm_yes hl.2 (cm_yes hi.1 (cm_yes hi.2 (cm_bind (specSame_f _ _ h0) (cm_now fun _ => ?_)))))
    rw [if_pos ⟨c, hi⟩]
    rfl
  · rw [if_neg (fun z => c z.1)]
theorem implLag_f (x : S36) (h : smGroup x) (i : Int) : Cm (fun k => impl_LagIn.f k x.f0 x.f1 x.f2 x.f3 x.f4 i) (lag x i) := by
  have hr := h.2.2.2.2.1
  have hw : wrap64 ((x.f4.length : Int) - 1) = (x.f4.length : Int) - 1 := wrap_in (by omega) (by omega)
  unfold impl_LagIn.f lag
  rw [hw]
  refine cm_bind (isGroup_f x h) (cm_if (fun c => cm_bind (cm_now fun _ => in_f _ _ _) (cm_if (fun c2 => ?_) (fun c2 => cm_now fun _ => ?_))) (fun c => cm_now fun _ => ?_))
  · simp only [decide_eq_true_eq] at c2
    have hl := good_lead c
    have hi : 0 ≤ i ∧ i < (x.f4.length : Int) := by omega
    refine cm_yes hl.1 (cm_yes hl.2 (cm_bind (shared_f x.f0 x.f1 x.f2 x.f3 x.f4 i h.2.2.2.2.2 hl hi) (cm_now fun _ => ?_)))
    rw [if_pos ⟨c, hi⟩]
  · simp only [decide_eq_true_eq] at c2
    rw [if_neg (fun z => c2 (by omega))]
  · rw [if_neg (fun z => c z.1)]
end Go.Proofs.Ytfdgmknjmljhbaa.Grp
end
section
namespace Go.Proofs.Ytfdgmknjmljhbaa.Pure
open Go.RowKit Go.Proofs.Ytfdgmknjmljhbaa.P Go.Proofs.YtfdgmknjmljhbaaW.PrintWords Go.Proofs.YtfdgmknjmljhbaaW.PrintLast Go.Proofs.YtfdgmknjmljhbaaW.PrintMore
open Go.Proofs.Ytfdgmknjmljhbaa.Pl Go.Proofs.Ytfdgmknjmljhbaa.EvN Go.Proofs.Ytfdgmknjmljhbaa.Lp Go.Proofs.Ytfdgmknjmljhbaa.Hg Go.Proofs.Ytfdgmknjmljhbaa.Grp
theorem FnExactLagIn : laws_FnExactLagIn.Pure := by
  intro x a1 h h1
  obtain ⟨v, hv⟩ := szGroup_ex x h 1048576
  have hs := sm_cGroup x h
  refine cm_ex (v := true) ?_
  unfold laws_FnExactLagIn.f
  refine cm_bind hv (cm_if (fun _ => cm_now fun _ => rfl) (fun _ => ?_))
  refine cm_bind (toGroup_f x h) (cm_bind (specLag_f _ hs a1) (cm_bind (toGroup_f x h) (cm_bind (implLag_f _ hs a1) (cm_yes rfl ?_))))
  simp only [bne_self_eq_false]
  refine cm_step (fun k => by rw [laws_FnExactLagIn.j0]) ?_
  exact cm_no (by simp) (cm_bind (toGroup_f x h) (cm_bind (eqGroup_same _ hs) (cm_yes rfl (cm_now fun _ => rfl))))
end Go.Proofs.Ytfdgmknjmljhbaa.Pure
end
