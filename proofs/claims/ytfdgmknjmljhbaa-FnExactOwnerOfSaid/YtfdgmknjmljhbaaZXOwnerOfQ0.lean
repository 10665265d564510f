-- Written by programs of this session (wip/prune.py, wip/xp.py), out of the translation and the printed words; what the law does not reach is left out. Not trusted: Lean checks it.
import Derived.Test.YtfdgmknjmljhbaaZXOwnerOfW0
import Derived.Test.YtfdgmknjmljhbaaZXOwnerOfPx1
import Derived.Test.YtfdgmknjmljhbaaZXOwnerOfPx0
import Derived.Test.YtfdgmknjmljhbaaZXOwnerOfPx2
import Derived.Test.YtfdgmknjmljhbaaZXOwnerOfPx4
import Derived.Test.YtfdgmknjmljhbaaZXOwnerOfPx8
import Derived.Test.YtfdgmknjmljhbaaZXOwnerOfPx18
import Derived.Test.YtfdgmknjmljhbaaZXOwnerOfPxok
import Derived.Laws.BitsAllLaws
import Derived.Test.YtfdgmknjmljhbaaZXOwnerOfPx5
import Derived.Laws.World
import Derived.Test.YtfdgmknjmljhbaaZXOwnerOfPx3
import Derived.Test.YtfdgmknjmljhbaaZXOwnerOfPx14
section
namespace Go.Proofs.Ytfdgmknjmljhbaa.Pl
open Go.RowKit Go.Proofs.YtfdgmknjmljhbaaW.PrintWords Go.Proofs.YtfdgmknjmljhbaaW.PrintLast Go.Proofs.YtfdgmknjmljhbaaW.PrintMore
theorem wrap_in {x : Int} (h0 : -9223372036854775808 ≤ x) (h1 : x ≤ 9223372036854775807) : wrap64 x = x := by
  unfold wrap64
  omega
theorem wrap_len {n m : Nat} (h : n < m) (hm : m ≤ 4611686018427387904) : wrap64 ((n : Int) + 1) = ((n + 1 : Nat) : Int) := by
  rw [wrap_in (by omega) (by omega)]
  omega
theorem round {k d : Nat} (h : d < k) : ∃ m, k = m + 1 := ⟨k - 1, by omega⟩
theorem rd_mid (pre : List Int) (h : Int) (t : List Int) : rd (pre ++ h :: t) (pre.length : Int) = h := by
  simp [rd]
theorem rd_at {pre t l : List Int} {h : Int} (e : pre ++ h :: t = l) : rd l (pre.length : Int) = h := by
  rw [← e]; exact rd_mid pre h t
theorem len_mid {α : Type} {pre t : List α} {h : α} {l : List α} (e : pre ++ h :: t = l) : pre.length < l.length := by
  rw [← e]; simp
theorem app_mid {α : Type} {pre t : List α} {h : α} {l : List α} (e : pre ++ h :: t = l) : (pre ++ [h]) ++ t = l := by
  rw [← e]; simp
theorem len_one {α : Type} (pre : List α) (h : α) : (pre ++ [h]).length = pre.length + 1 := by simp
theorem rd_last {pre rest l : List Int} {p : Int} (e : pre ++ rest = l) (h : pre.getLast? = some p) : 0 < pre.length ∧ rd l ((pre.length : Int) - 1) = p := by
  obtain ⟨q, rfl⟩ := List.getLast?_eq_some_iff.1 h
  refine ⟨by simp, ?_⟩
  have h2 : q ++ [p] ++ rest = q ++ p :: rest := by simp
  rw [← e, h2, len_one, show (((q.length + 1 : Nat) : Int) - 1) = (q.length : Int) by omega]
  exact rd_mid q p rest
theorem no_last {α : Type} {pre : List α} (h : pre.getLast? = none) : pre = [] := by
  simpa using h
end Go.Proofs.Ytfdgmknjmljhbaa.Pl
end
section
namespace Go.Proofs.Ytfdgmknjmljhbaa.EvN
def Cm {α : Type} (f : Nat → Option α) (v : α) : Prop := ∃ K, ∀ k, K ≤ k → f k = some v
theorem cm_now {α : Type} {f : Nat → Option α} {v : α} (h : ∀ k, f k = some v) : Cm f v := ⟨0, fun k _ => h k⟩
theorem cm_step {α : Type} {f g : Nat → Option α} {v : α} (h : ∀ k, f (k + 1) = g k) (hg : Cm g v) : Cm f v := by
  obtain ⟨K, hK⟩ := hg
  refine ⟨K + 1, fun k hk => ?_⟩
  obtain ⟨m, rfl⟩ : ∃ m, k = m + 1 := ⟨k - 1, by omega⟩
  rw [h, hK m (by omega)]
theorem cm_same {α : Type} {f g : Nat → Option α} {v : α} (h : ∀ k, f k = g k) (hg : Cm g v) : Cm f v := by
  obtain ⟨K, hK⟩ := hg
  exact ⟨K, fun k hk => by rw [h, hK k hk]⟩
theorem cm_bind {α β : Type} {a : Nat → Option α} {t : α} {g : Nat → α → Option β} {v : β} (ha : Cm a t) (hg : Cm (fun k => g k t) v) : Cm (fun k => (a k).bind (g k)) v := by
  obtain ⟨K, hK⟩ := ha
  obtain ⟨M, hM⟩ := hg
  exact ⟨K + M, fun k hk => by simp only [hK k (by omega)]; exact hM k (by omega)⟩
theorem cm_yes {α : Type} {c : Prop} [Decidable c] {x y : Nat → Option α} {v : α} (h : c) (h2 : Cm x v) : Cm (fun k => if c then x k else y k) v :=
  cm_same (fun _ => if_pos h) h2
theorem cm_no {α : Type} {c : Prop} [Decidable c] {x y : Nat → Option α} {v : α} (h : ¬ c) (h2 : Cm y v) : Cm (fun k => if c then x k else y k) v :=
  cm_same (fun _ => if_neg h) h2
theorem cm_ex {α : Type} {f : Nat → Option α} {v : α} (h : Cm f v) : ∃ k, f k = some v := by
  obtain ⟨K, hK⟩ := h
  exact ⟨K, hK K (Nat.le_refl _)⟩
end Go.Proofs.Ytfdgmknjmljhbaa.EvN
end
section
namespace Go.Proofs.Ytfdgmknjmljhbaa.Lp
open Go.RowKit Go.Proofs.YtfdgmknjmljhbaaW.PrintWords
open Go.Proofs.Ytfdgmknjmljhbaa.Pl Go.Proofs.Ytfdgmknjmljhbaa.EvN
def okFrom {α : Type} (p : List α → α → Bool) : List α → List α → Bool
  | _, [] => true
  | pre, h :: t => p pre h && okFrom p (pre ++ [h]) t
theorem okFrom_iff {α : Type} (p : List α → α → Bool) : ∀ (rest pre : List α), okFrom p pre rest = true ↔ ∀ a h t, a ++ h :: t = rest → p (pre ++ a) h = true
  | [], pre => by
    simp only [okFrom, true_iff]
    intro a h t e
    simp at e
  | x :: t, pre => by
    simp only [okFrom, Bool.and_eq_true]
    rw [okFrom_iff p t (pre ++ [x])]
    constructor
    · rintro ⟨h1, h2⟩ a h t' e
      cases a with
      | nil =>
        simp only [List.nil_append, List.cons.injEq] at e
        obtain ⟨rfl, rfl⟩ := e
        simpa using h1
      | cons y a =>
        simp only [List.cons_append, List.cons.injEq] at e
        obtain ⟨rfl, e⟩ := e
        have := h2 a h t' e
        simpa using this
    · intro h
      refine ⟨by simpa using h [] x t rfl, fun a h' t' e => ?_⟩
      have := h (x :: a) h' t' (by simp [e])
      simpa using this
theorem all_cm {α ρ : Type} {L : Nat → Int → Option ρ} (xs : List α) (p : List α → α → Bool) {fin no : ρ}
    (hstep : ∀ pre h t, pre ++ h :: t = xs → pre.length < xs.length → p pre h = true → ∀ v, Cm (fun k => L k ((pre.length + 1 : Nat) : Int)) v → Cm (fun k => L k (pre.length : Int)) v)
    (hno : ∀ pre h t, pre ++ h :: t = xs → pre.length < xs.length → p pre h = false → Cm (fun k => L k (pre.length : Int)) no)
    (hend : okFrom p [] xs = true → Cm (fun k => L k (xs.length : Int)) fin) : Cm (fun k => L k 0) (if okFrom p [] xs = true then fin else no) := by
  have key : ∀ (rest pre : List α), pre ++ rest = xs → (okFrom p pre rest = okFrom p [] xs) → Cm (fun k => L k (pre.length : Int)) (if okFrom p pre rest = true then fin else no) := by
    intro rest
    induction rest with
    | nil =>
      intro pre e h
      rw [List.append_nil] at e
      subst e
      simp only [okFrom, if_true] at h ⊢
      exact hend h.symm
    | cons x t ih =>
      intro pre e h
      by_cases c : p pre x = true
      · have h2 : okFrom p pre (x :: t) = okFrom p (pre ++ [x]) t := by simp only [okFrom, c, Bool.true_and]
        rw [h2] at h ⊢
        have h3 := ih (pre ++ [x]) (app_mid e) h
        rw [len_one] at h3
        exact hstep pre x t e (len_mid e) c _ h3
      · have c2 : p pre x = false := by simpa using c
        have h2 : okFrom p pre (x :: t) = false := by simp only [okFrom, c2, Bool.false_and]
        rw [h2]
        simpa using hno pre x t e (len_mid e) c2
  exact key xs [] rfl rfl
theorem okFrom_all {α : Type} (p : α → Bool) : ∀ (rest pre : List α), okFrom (fun _ h => p h) pre rest = rest.all p
  | [], _ => rfl
  | x :: t, pre => by simp only [okFrom, List.all_cons, okFrom_all p t]
theorem every_cm {α ρ : Type} {L : Nat → Int → Option ρ} (xs : List α) (p : α → Bool) {fin no : ρ}
    (hstep : ∀ pre h t, pre ++ h :: t = xs → pre.length < xs.length → p h = true → ∀ v, Cm (fun k => L k ((pre.length + 1 : Nat) : Int)) v → Cm (fun k => L k (pre.length : Int)) v)
    (hno : ∀ pre h t, pre ++ h :: t = xs → pre.length < xs.length → p h = false → Cm (fun k => L k (pre.length : Int)) no)
    (hend : xs.all p = true → Cm (fun k => L k (xs.length : Int)) fin) : Cm (fun k => L k 0) (if xs.all p = true then fin else no) := by
  have := all_cm (L := L) xs (fun _ h => p h) hstep hno (by rw [okFrom_all]; exact hend)
  rw [okFrom_all] at this
  exact this
def foundAt {α ρ : Type} (p : α → Bool) (found : Nat → α → ρ) (none_ : ρ) : Nat → List α → ρ
  | _, [] => none_
  | i, h :: t => if p h = true then found i h else foundAt p found none_ (i + 1) t
theorem find_cm {α ρ : Type} {L : Nat → Int → Option ρ} (xs : List α) (p : α → Bool) (found : Nat → α → ρ) {none_ : ρ}
    (hstep : ∀ pre h t, pre ++ h :: t = xs → pre.length < xs.length → p h = false → ∀ v, Cm (fun k => L k ((pre.length + 1 : Nat) : Int)) v → Cm (fun k => L k (pre.length : Int)) v)
    (hyes : ∀ pre h t, pre ++ h :: t = xs → pre.length < xs.length → p h = true → Cm (fun k => L k (pre.length : Int)) (found pre.length h))
    (hend : Cm (fun k => L k (xs.length : Int)) none_) : Cm (fun k => L k 0) (foundAt p found none_ 0 xs) := by
  have key : ∀ (rest pre : List α), pre ++ rest = xs → Cm (fun k => L k (pre.length : Int)) (foundAt p found none_ pre.length rest) := by
    intro rest
    induction rest with
    | nil =>
      intro pre e
      rw [List.append_nil] at e
      subst e
      exact hend
    | cons x t ih =>
      intro pre e
      unfold foundAt
      by_cases c : p x = true
      · rw [if_pos c]
        exact hyes pre x t e (len_mid e) c
      · rw [if_neg c]
        have h3 := ih (pre ++ [x]) (app_mid e)
        rw [len_one] at h3
        exact hstep pre x t e (len_mid e) (by simpa using c) _ h3
  exact key xs [] rfl
theorem found_any {α : Type} (p : α → Bool) : ∀ (l : List α) (i : Nat), decide (foundAt p (fun i _ => (i : Int)) (-1) i l ≥ 0) = l.any p
  | [], _ => by simp [foundAt]
  | h :: t, i => by
    unfold foundAt
    by_cases c : p h = true
    · rw [if_pos c]; simp [c]
    · rw [if_neg c, found_any p t (i + 1)]; simp [c]
theorem same_cm {α ρ : Type} {L : Nat → Int → Option ρ} (xs : List α) {fin : ρ}
    (hstep : ∀ pre h t, pre ++ h :: t = xs → pre.length < xs.length → ∀ v, Cm (fun k => L k ((pre.length + 1 : Nat) : Int)) v → Cm (fun k => L k (pre.length : Int)) v)
    (hend : Cm (fun k => L k (xs.length : Int)) fin) : Cm (fun k => L k 0) fin := by
  have := every_cm (L := L) xs (fun _ => true) (fin := fin) (no := fin) (fun pre h t e hl _ => hstep pre h t e hl) (fun _ _ _ _ _ hp => by cases hp) (fun _ => hend)
  have h : (xs.all fun _ => true) = true := by simp
  rw [if_pos h] at this
  exact this
theorem map_cm {α β : Type} {L : Nat → Int → List β → Option (List β)} (xs : List α) (c : α → β) (z : β)
    (hstep : ∀ pre h t acc, pre ++ h :: t = xs → pre.length < xs.length → acc.length = xs.length → ∀ u, Cm (fun k => L k ((pre.length + 1 : Nat) : Int) (acc.set pre.length (c h))) u → Cm (fun k => L k (pre.length : Int) acc) u)
    (hend : ∀ acc, acc.length = xs.length → Cm (fun k => L k (xs.length : Int) acc) acc) : Cm (fun k => L k 0 (List.replicate xs.length z)) (xs.map c) := by
  have key : ∀ (rest pre : List α) (tl : List β), pre ++ rest = xs → tl.length = rest.length → Cm (fun k => L k (pre.length : Int) (pre.map c ++ tl)) (xs.map c) := by
    intro rest
    induction rest with
    | nil =>
      intro pre tl e ht
      have ht2 : tl = [] := List.length_eq_zero_iff.1 ht
      rw [List.append_nil] at e
      subst ht2 e
      rw [List.append_nil]
      exact hend _ (by simp)
    | cons h t ih =>
      intro pre tl e ht
      match tl, ht with
      | y :: tl, ht =>
        refine hstep pre h t _ e (len_mid e) (by rw [← e]; simp at ht ⊢; omega) _ ?_
        have e2 : (pre.map c ++ y :: tl).set pre.length (c h) = (pre ++ [h]).map c ++ tl := by
          have : pre.length = (pre.map c).length := by simp
          rw [this]
          simp
        rw [e2]
        have := ih (pre ++ [h]) tl (app_mid e) (by simpa using ht)
        rw [len_one] at this
        exact this
  have := key xs [] (List.replicate xs.length z) rfl (by simp)
  simpa using this
theorem ex_cm {α σ ρ : Type} {L : Nat → Int → σ → Option ρ} (xs : List α)
    (hstep : ∀ pre h t s, pre ++ h :: t = xs → pre.length < xs.length → (∃ v, Cm (fun k => L k (pre.length : Int) s) v) ∨ ∃ s', ∀ u, Cm (fun k => L k ((pre.length + 1 : Nat) : Int) s') u → Cm (fun k => L k (pre.length : Int) s) u)
    (hend : ∀ s, ∃ v, Cm (fun k => L k (xs.length : Int) s) v) (s0 : σ) : ∃ v, Cm (fun k => L k 0 s0) v := by
  have key : ∀ (rest pre : List α) (s : σ), pre ++ rest = xs → ∃ v, Cm (fun k => L k (pre.length : Int) s) v := by
    intro rest
    induction rest with
    | nil =>
      intro pre s e
      rw [List.append_nil] at e
      subst e
      exact hend s
    | cons h t ih =>
      intro pre s e
      rcases hstep pre h t s e (len_mid e) with h1 | ⟨s', h1⟩
      · exact h1
      · obtain ⟨v, hv⟩ := ih (pre ++ [h]) s' (app_mid e)
        rw [len_one] at hv
        exact ⟨v, h1 v hv⟩
  exact key xs [] s0 rfl
theorem cm_if {α : Type} {c : Prop} [Decidable c] {x y : Nat → Option α} {v : α} (h : c → Cm x v) (h2 : ¬ c → Cm y v) : Cm (fun k => if c then x k else y k) v := by
  by_cases hc : c
  · exact cm_yes hc (h hc)
  · exact cm_no hc (h2 hc)
theorem getD_at {α : Type} {pre t l : List α} {h : α} (e : pre ++ h :: t = l) (d : α) : l.getD ((pre.length : Int)).toNat d = h := by
  rw [← e]; simp
theorem wrap_less {n : Nat} (h : 0 < n) (hm : n ≤ 4611686018427387904) : wrap64 ((n : Int) - 1) = (n : Int) - 1 := wrap_in (by omega) (by omega)
theorem cm_val {α : Type} {f : Nat → Option α} {u v : α} (h : Cm f u) (e : u = v) : Cm f v := e ▸ h
end Go.Proofs.Ytfdgmknjmljhbaa.Lp
end
section
namespace Go.Proofs.Ytfdgmknjmljhbaa.Hs
open Go.RowKit Go.Proofs.Ytfdgmknjmljhbaa.P Go.Proofs.YtfdgmknjmljhbaaW.PrintWords Go.Proofs.YtfdgmknjmljhbaaW.PrintLast Go.Proofs.YtfdgmknjmljhbaaW.PrintMore
open Go.Proofs.Ytfdgmknjmljhbaa.Pl Go.Proofs.Ytfdgmknjmljhbaa.EvN Go.Proofs.Ytfdgmknjmljhbaa.Lp
set_option linter.unusedSimpArgs false
set_option linter.unusedVariables false
theorem toIntS_f (l : List Int) (h : l.length * 8 ≤ 140737488351232) : Cm (fun k => laws_toIntS.f k l) l := by
  unfold laws_toIntS.f
  refine cm_yes (by omega) (cm_yes (by omega) ?_)
  have := map_cm (L := fun k i s => laws_toIntS.l0 k l s i) l (fun x => x) 0 ?_ ?_
  · simpa using this
  · intro pre x t acc e hlt ha u hu
    refine cm_step (fun k => by rw [laws_toIntS.l0]) ?_
    simp only [rd_at e, wrap_len hlt (show l.length ≤ 4611686018427387904 by omega), Int.toNat_natCast]
    repeat (first | assumption | exact cm_now (fun _ => rfl) | refine cm_yes (by first | omega | assumption | (simp; done) | (simp; omega)) ?_ | refine cm_no (by first | omega | assumption | (simp; done) | (simp; omega)) ?_)
  · intro acc ha
    refine cm_step (fun k => by rw [laws_toIntS.l0]) ?_
    repeat (first | assumption | exact cm_now (fun _ => rfl) | refine cm_yes (by first | omega | assumption | (simp; done) | (simp; omega)) ?_ | refine cm_no (by first | omega | assumption | (simp; done) | (simp; omega)) ?_)
theorem eqIntS_same (l : List Int) (h : l.length ≤ 4611686018427387904) : Cm (fun k => laws_eqIntS.f k l l) true := by
  unfold laws_eqIntS.f
  refine cm_yes rfl ?_
  refine same_cm (L := fun k i => laws_eqIntS.l0 k l l i) l ?_ ?_
  · intro pre x t e hlt v hv
    refine cm_step (fun k => by rw [laws_eqIntS.l0]) ?_
    simp only [rd_at e, wrap_len hlt h]
    repeat (first | assumption | exact cm_now (fun _ => rfl) | refine cm_yes (by first | omega | assumption | (simp; done) | (simp; omega) | exact rfl) ?_ | refine cm_no (by first | omega | assumption | (simp; done) | (simp; omega) | exact rfl) ?_)
  · refine cm_step (fun k => by rw [laws_eqIntS.l0]) ?_
    repeat (first | assumption | exact cm_now (fun _ => rfl) | refine cm_yes (by first | omega | assumption | (simp; done) | (simp; omega)) ?_ | refine cm_no (by first | omega | assumption | (simp; done) | (simp; omega)) ?_)
theorem szIntS_f (l : List Int) (m : Int) : ∃ v, Cm (fun _ => laws_szIntS.f l m) v := by
  unfold laws_szIntS.f
  by_cases c : wrap64 (m - (l.length : Int)) < 0
  · exact ⟨_, cm_yes c (cm_now fun _ => rfl)⟩
  · exact ⟨_, cm_no c (cm_now fun _ => rfl)⟩
end Go.Proofs.Ytfdgmknjmljhbaa.Hs
end
section
namespace Go.Proofs.Ytfdgmknjmljhbaa.Hg
open Go.RowKit Go.Proofs.Ytfdgmknjmljhbaa.P Go.Proofs.YtfdgmknjmljhbaaW.PrintWords Go.Proofs.YtfdgmknjmljhbaaW.PrintLast Go.Proofs.YtfdgmknjmljhbaaW.PrintMore
open Go.Proofs.Ytfdgmknjmljhbaa.Pl Go.Proofs.Ytfdgmknjmljhbaa.EvN Go.Proofs.Ytfdgmknjmljhbaa.Lp Go.Proofs.Ytfdgmknjmljhbaa.Hs
set_option linter.unusedSimpArgs false
set_option linter.unusedVariables false
theorem rdT104_at {pre t l : List S104} {h : S104} (e : pre ++ h :: t = l) : rd_T104 l (pre.length : Int) = h := getD_at e _
theorem rdT71_at {pre t l : List S71} {h : S71} (e : pre ++ h :: t = l) : rd_T71 l (pre.length : Int) = h := getD_at e _
def cReader (x : S104) : S71 := ⟨x.f0, x.f1, x.f2, x.f3⟩
def smReader (x : S71) : Prop := (True) ∧ (True) ∧ (x.f2.length ≤ 4611686018427387904) ∧ (x.f3.length ≤ 4611686018427387904)
theorem sm_cReader (x : S104) (h : ok104 x) : smReader (cReader x) := by
  obtain ⟨h0, h1, h2, h3⟩ := h
  exact ⟨trivial, trivial, by have := h2.2.1; simp only [cReader]; omega, by have := h3.2.1; simp only [cReader]; omega⟩
theorem toReader_f (x : S104) (h : ok104 x) : Cm (fun k => laws_toReader.f k x.f0 x.f1 x.f2 x.f3) ((cReader x).f0, (cReader x).f1, (cReader x).f2, (cReader x).f3) := by
  obtain ⟨h0, h1, h2, h3⟩ := h
  unfold laws_toReader.f
  exact cm_bind (toIntS_f _ h2.2.1) (cm_bind (toIntS_f _ h3.2.1) (cm_now fun _ => rfl))
theorem toReaderS_f (l : List S104) (h : l.length ≤ maxLen ∧ l.length * 64 ≤ 140737488351232 ∧ ∀ x_ ∈ l, ok104 x_) : Cm (fun k => laws_toReaderS.f k l) (l.map cReader) := by
  have hl := h.2.1
  unfold laws_toReaderS.f
  refine cm_yes (by omega) (cm_yes (by omega) ?_)
  rw [Int.toNat_natCast]
  refine map_cm (L := fun k i s => laws_toReaderS.l0 k l s i) l cReader z71 ?_ ?_
  · intro pre x t acc e hlt ha u hu
    have hx := h.2.2 x (by rw [← e]; simp)
    refine cm_step (fun k => by rw [laws_toReaderS.l0]) ?_
    simp only [rdT104_at e, wrap_len hlt (show l.length ≤ 4611686018427387904 by omega), Int.toNat_natCast]
    refine cm_yes (by omega) (cm_yes (by omega) (cm_bind (toReader_f x hx) (cm_yes (by omega) ?_)))
    exact hu
  · intro acc ha
    refine cm_step (fun k => by rw [laws_toReaderS.l0]) ?_
    exact cm_no (by omega) (cm_now fun _ => rfl)
theorem eqReader_same (x : S71) (h : smReader x) : Cm (fun k => laws_eqReader.f k x.f0 x.f1 x.f2 x.f3 x.f0 x.f1 x.f2 x.f3) true := by
  obtain ⟨h0, h1, h2, h3⟩ := h
  unfold laws_eqReader.f
  exact cm_no (by simp) (cm_yes rfl (cm_bind (eqIntS_same _ h2) (cm_yes rfl (cm_bind (eqIntS_same _ h3) (cm_yes rfl (cm_now fun _ => rfl))))))
theorem eqReaderS_same (l : List S71) (h : l.length ≤ 4611686018427387904 ∧ ∀ y ∈ l, smReader y) : Cm (fun k => laws_eqReaderS.f k l l) true := by
  unfold laws_eqReaderS.f
  refine cm_yes rfl ?_
  refine same_cm (L := fun k i => laws_eqReaderS.l0 k l l i) l ?_ ?_
  · intro pre x t e hlt v hv
    have hx := h.2 x (by rw [← e]; simp)
    refine cm_step (fun k => by rw [laws_eqReaderS.l0]) ?_
    simp only [rdT71_at e, wrap_len hlt h.1]
    exact cm_yes (by omega) (cm_yes (by omega) (cm_yes (by omega) (cm_bind (eqReader_same x hx) (cm_yes rfl hv))))
  · refine cm_step (fun k => by rw [laws_eqReaderS.l0]) ?_
    exact cm_no (by omega) (cm_now fun _ => rfl)
theorem szReader_ex (x : S104) (h : ok104 x) (m : Int) : ∃ v, Cm (fun k => laws_szReader.f x.f0 x.f1 x.f2 x.f3 m) v := by
  obtain ⟨h0, h1, h2, h3⟩ := h
  unfold laws_szReader.f
  obtain ⟨v0, w0⟩ := szIntS_f x.f2 m
  by_cases c0 : v0 < 0
  · exact ⟨-1, cm_bind w0 (cm_yes c0 (cm_now fun _ => rfl))⟩
  obtain ⟨v1, w1⟩ := szIntS_f x.f3 v0
  by_cases c1 : v1 < 0
  · exact ⟨-1, cm_bind w0 (cm_no c0 (cm_bind w1 (cm_yes c1 (cm_now fun _ => rfl))))⟩
  exact ⟨v1, cm_bind w0 (cm_no c0 (cm_bind w1 (cm_no c1 (cm_now fun _ => rfl))))⟩
theorem szReaderS_ex (l : List S104) (h : l.length ≤ maxLen ∧ l.length * 64 ≤ 140737488351232 ∧ ∀ x_ ∈ l, ok104 x_) (m : Int) : ∃ v, Cm (fun k => laws_szReaderS.f k l m) v := by
  have hl := h.2.1
  unfold laws_szReaderS.f
  by_cases c : wrap64 (m - (l.length : Int)) < 0
  · exact ⟨_, cm_yes c (cm_now fun _ => rfl)⟩
  · obtain ⟨v, hv⟩ : ∃ v, Cm (fun k => laws_szReaderS.l0 k l (wrap64 (m - (l.length : Int))) 0) v := by
      refine ex_cm (L := fun k i s => laws_szReaderS.l0 k l s i) l ?_ ?_ _
      · intro pre x t s e hlt
        obtain ⟨v, hv⟩ := szReader_ex x (h.2.2 x (by rw [← e]; simp)) s
        by_cases c2 : v < 0
        · refine .inl ⟨-1, ?_⟩
          refine cm_step (fun k => by rw [laws_szReaderS.l0]) ?_
          simp only [rdT104_at e, wrap_len hlt (show l.length ≤ 4611686018427387904 by omega)]
          exact cm_yes (by omega) (cm_yes (by omega) (cm_bind hv (cm_yes c2 (cm_now fun _ => rfl))))
        · refine .inr ⟨v, fun u hu => ?_⟩
          refine cm_step (fun k => by rw [laws_szReaderS.l0]) ?_
          simp only [rdT104_at e, wrap_len hlt (show l.length ≤ 4611686018427387904 by omega)]
          exact cm_yes (by omega) (cm_yes (by omega) (cm_bind hv (cm_no c2 hu)))
      · intro s
        refine ⟨s, ?_⟩
        refine cm_step (fun k => by rw [laws_szReaderS.l0]) ?_
        exact cm_no (by omega) (cm_now fun _ => rfl)
    exact ⟨v, cm_no c hv⟩
def cReaders (x : S54) : S25 := ⟨x.f0, x.f1.map cReader, x.f2, x.f3⟩
def smReaders (x : S25) : Prop := (True) ∧ (x.f1.length ≤ 4611686018427387904 ∧ ∀ y ∈ x.f1, smReader y) ∧ (x.f2.length ≤ 4611686018427387904) ∧ (x.f3.length ≤ 4611686018427387904)
theorem sm_cReaders (x : S54) (h : ok54 x) : smReaders (cReaders x) := by
  obtain ⟨h0, h1, h2, h3⟩ := h
  exact ⟨trivial, ⟨by have := h1.2.1; simp only [cReaders, List.length_map]; omega, fun y hy => by obtain ⟨z, hz, rfl⟩ := List.mem_map.1 hy; exact sm_cReader z (h1.2.2 z hz)⟩, by have := h2.2.1; simp only [cReaders]; omega, by have := h3.2.1; simp only [cReaders]; omega⟩
theorem toReaders_f (x : S54) (h : ok54 x) : Cm (fun k => laws_toReaders.f k x.f0 x.f1 x.f2 x.f3) ((cReaders x).f0, (cReaders x).f1, (cReaders x).f2, (cReaders x).f3) := by
  obtain ⟨h0, h1, h2, h3⟩ := h
  unfold laws_toReaders.f
  exact cm_bind (toReaderS_f _ h1) (cm_bind (toIntS_f _ h2.2.1) (cm_bind (toIntS_f _ h3.2.1) (cm_now fun _ => rfl)))
theorem eqReaders_same (x : S25) (h : smReaders x) : Cm (fun k => laws_eqReaders.f k x.f0 x.f1 x.f2 x.f3 x.f0 x.f1 x.f2 x.f3) true := by
  obtain ⟨h0, h1, h2, h3⟩ := h
  unfold laws_eqReaders.f
  exact cm_yes rfl (cm_bind (eqReaderS_same _ h1) (cm_yes rfl (cm_bind (eqIntS_same _ h2) (cm_yes rfl (cm_bind (eqIntS_same _ h3) (cm_yes rfl (cm_now fun _ => rfl)))))))
theorem szReaders_ex (x : S54) (h : ok54 x) (m : Int) : ∃ v, Cm (fun k => laws_szReaders.f k x.f0 x.f1 x.f2 x.f3 m) v := by
  obtain ⟨h0, h1, h2, h3⟩ := h
  unfold laws_szReaders.f
  obtain ⟨v0, w0⟩ := szReaderS_ex x.f1 h1 m
  by_cases c0 : v0 < 0
  · exact ⟨-1, cm_bind w0 (cm_yes c0 (cm_now fun _ => rfl))⟩
  obtain ⟨v1, w1⟩ := szIntS_f x.f2 v0
  by_cases c1 : v1 < 0
  · exact ⟨-1, cm_bind w0 (cm_no c0 (cm_bind w1 (cm_yes c1 (cm_now fun _ => rfl))))⟩
  obtain ⟨v2, w2⟩ := szIntS_f x.f3 v1
  by_cases c2 : v2 < 0
  · exact ⟨-1, cm_bind w0 (cm_no c0 (cm_bind w1 (cm_no c1 (cm_bind w2 (cm_yes c2 (cm_now fun _ => rfl))))))⟩
  exact ⟨v2, cm_bind w0 (cm_no c0 (cm_bind w1 (cm_no c1 (cm_bind w2 (cm_no c2 (cm_now fun _ => rfl))))))⟩
end Go.Proofs.Ytfdgmknjmljhbaa.Hg
end
section
namespace Go.Proofs.Ytfdgmknjmljhbaa.Sets
open Go.RowKit Go.Proofs.YtfdgmknjmljhbaaW.PrintWords Go.Proofs.YtfdgmknjmljhbaaW.PrintLast Go.Proofs.YtfdgmknjmljhbaaW.PrintMore
open Go.Proofs.Ytfdgmknjmljhbaa.Pl Go.Proofs.Ytfdgmknjmljhbaa.EvN Go.Proofs.Ytfdgmknjmljhbaa.Lp
set_option linter.unusedSimpArgs false
set_option linter.unusedVariables false
def hasAll (a b : List Int) : Bool := b.all (fun x => decide (x ∈ a))
def rises (many : Int) (pre : List Int) (h : Int) : Bool := decide (0 ≤ h ∧ h < many) && (match pre.getLast? with | some q => decide (q < h) | none => true)
def members (many : Int) (l : List Int) : Bool := okFrom (rises many) [] l
theorem members_in {many : Int} {l : List Int} (h : members many l = true) : ∀ x ∈ l, 0 ≤ x ∧ x < many := by
  intro x hx
  obtain ⟨a, t, e⟩ := List.append_of_mem hx
  have := (okFrom_iff (rises many) l []).1 h a x t e.symm
  simp only [rises, Bool.and_eq_true, decide_eq_true_eq] at this
  exact this.1
end Go.Proofs.Ytfdgmknjmljhbaa.Sets
end
section
namespace Go.Proofs.Ytfdgmknjmljhbaa.Mem
open Go.RowKit Go.Proofs.Ytfdgmknjmljhbaa.P Go.Proofs.YtfdgmknjmljhbaaW.PrintWords Go.Proofs.YtfdgmknjmljhbaaW.PrintLast Go.Proofs.YtfdgmknjmljhbaaW.PrintMore
open Go.Proofs.Ytfdgmknjmljhbaa.Pl Go.Proofs.Ytfdgmknjmljhbaa.EvN Go.Proofs.Ytfdgmknjmljhbaa.Lp Go.Proofs.Ytfdgmknjmljhbaa.Sets
set_option linter.unusedSimpArgs false
set_option linter.unusedVariables false
theorem in_f (a b c : Int) : impl_in.f a b c = some (decide (b ≤ a ∧ a ≤ c)) := by
  unfold impl_in.f
  by_cases h : a ≥ b
  · rw [if_pos h]; congr 1; rw [decide_eq_decide]; omega
  · rw [if_neg h]; congr 1; symm; rw [decide_eq_false_iff_not]; omega
theorem l1In_f (a b c : Int) : spec_l1In.f a b c = some (decide (b ≤ a ∧ a ≤ c)) := by
  unfold spec_l1In.f
  by_cases h : a ≥ b
  · rw [if_pos h]; congr 1; rw [decide_eq_decide]; omega
  · rw [if_neg h]; congr 1; symm; rw [decide_eq_false_iff_not]; omega
theorem if_self (b : Bool) : (if b = true then true else false) = b := by cases b <;> rfl
theorem rises_no {many : Int} {pre : List Int} {h : Int} (hp : rises many pre h = false) (h0 : 0 ≤ h) (h1 : h < many) : ∃ q, pre.getLast? = some q ∧ h ≤ q := by
  unfold rises at hp
  cases e : pre.getLast? with
  | none => rw [e] at hp; simp at hp; omega
  | some q =>
    rw [e] at hp
    simp at hp
    exact ⟨q, rfl, by omega⟩
theorem rises_yes {many : Int} {pre : List Int} {h : Int} (hp : rises many pre h = true) : (0 ≤ h ∧ h < many) ∧ ∀ q, pre.getLast? = some q → q < h := by
  unfold rises at hp
  simp only [Bool.and_eq_true, decide_eq_true_eq] at hp
  refine ⟨hp.1, fun q e => ?_⟩
  have h2 := hp.2
  rw [e] at h2
  simpa using h2
theorem last_cases {α : Type} (pre : List α) : pre = [] ∨ ∃ q, pre.getLast? = some q := by
  cases e : pre.getLast? with
  | none => exact .inl (no_last e)
  | some q => exact .inr ⟨q, rfl⟩
end Go.Proofs.Ytfdgmknjmljhbaa.Mem
end
section
namespace Go.Proofs.Ytfdgmknjmljhbaa.Mem
open Go.RowKit Go.Proofs.Ytfdgmknjmljhbaa.P Go.Proofs.YtfdgmknjmljhbaaW.PrintWords Go.Proofs.YtfdgmknjmljhbaaW.PrintLast Go.Proofs.YtfdgmknjmljhbaaW.PrintMore
open Go.Proofs.Ytfdgmknjmljhbaa.Pl Go.Proofs.Ytfdgmknjmljhbaa.EvN Go.Proofs.Ytfdgmknjmljhbaa.Lp Go.Proofs.Ytfdgmknjmljhbaa.Sets
set_option linter.unusedSimpArgs false
set_option linter.unusedVariables false
theorem has_f (l : List Int) (n : Int) (hl : l.length ≤ 4611686018427387904) : Cm (fun k => spec_l1Has.f k l n) (decide (n ∈ l)) := by
  unfold spec_l1Has.f
  have := every_cm (L := fun k i => spec_l1Has.l0 k n l (l.length : Int) i) l (fun x => decide (x ≠ n)) (fin := false) (no := true) ?_ ?_ ?_
  · refine cm_val this ?_
    by_cases c : n ∈ l
    · simp [c]
    · simp [c]
      intro x hx e
      subst e
      exact c hx
  · intro pre h t e hlt hp v hv
    simp only [decide_eq_true_eq] at hp
    refine cm_step (fun k => by rw [spec_l1Has.l0]) ?_
    simp only [rd_at e, wrap_len hlt hl]
    repeat (first | assumption | exact cm_now (fun _ => rfl) | refine cm_yes (by first | omega | assumption | (simp; done) | (simp; omega)) ?_ | refine cm_no (by first | omega | assumption | (simp; done) | (simp; omega)) ?_)
  · intro pre h t e hlt hp
    simp only [decide_eq_false_iff_not, ne_eq, Decidable.not_not] at hp
    refine cm_step (fun k => by rw [spec_l1Has.l0]) ?_
    simp only [rd_at e, wrap_len hlt hl]
    repeat (first | assumption | exact cm_now (fun _ => rfl) | refine cm_yes (by first | omega | assumption | (simp; done) | (simp; omega)) ?_ | refine cm_no (by first | omega | assumption | (simp; done) | (simp; omega)) ?_)
  · intro _
    refine cm_step (fun k => by rw [spec_l1Has.l0]) ?_
    repeat (first | assumption | exact cm_now (fun _ => rfl) | refine cm_yes (by first | omega | assumption | (simp; done) | (simp; omega)) ?_ | refine cm_no (by first | omega | assumption | (simp; done) | (simp; omega)) ?_)
theorem hasAll_f (a b : List Int) (ha : a.length ≤ 4611686018427387904) (hb : b.length ≤ 4611686018427387904) : Cm (fun k => spec_l6Has.f k a b) (hasAll a b) := by
  unfold spec_l6Has.f
  have := every_cm (L := fun k i => spec_l6Has.l0 k a b (b.length : Int) i) b (fun x => decide (x ∈ a)) (fin := true) (no := false) ?_ ?_ ?_
  · refine cm_val this ?_
    unfold hasAll
    cases b.all fun x => decide (x ∈ a) <;> rfl
  · intro pre h t e hlt hp v hv
    refine cm_step (fun k => by rw [spec_l6Has.l0]) ?_
    simp only [rd_at e, wrap_len hlt hb]
    repeat (first | assumption | exact cm_now (fun _ => rfl) | refine cm_bind (has_f _ _ ha) ?_ | refine cm_yes (by first | omega | assumption | (simp; done) | (simp; omega) | exact hp) ?_ | refine cm_no (by first | omega | assumption | (simp; done) | (simp; omega) | exact hp) ?_)
  · intro pre h t e hlt hp
    refine cm_step (fun k => by rw [spec_l6Has.l0]) ?_
    simp only [rd_at e, wrap_len hlt hb]
    repeat (first | assumption | exact cm_now (fun _ => rfl) | refine cm_bind (has_f _ _ ha) ?_ | refine cm_yes (by first | omega | assumption | (simp; done) | (simp; omega) | exact (by simpa using hp)) ?_ | refine cm_no (by first | omega | assumption | (simp; done) | (simp; omega) | exact (by simpa using hp)) ?_)
  · intro _
    refine cm_step (fun k => by rw [spec_l6Has.l0]) ?_
    repeat (first | assumption | exact cm_now (fun _ => rfl) | refine cm_yes (by first | omega | assumption | (simp; done) | (simp; omega)) ?_ | refine cm_no (by first | omega | assumption | (simp; done) | (simp; omega)) ?_)
theorem group_f (l : List Int) (many : Int) (hl : l.length ≤ 4611686018427387904) : Cm (fun k => spec_l6Group.f k l many) (members many l) := by
  unfold spec_l6Group.f
  have := all_cm (L := fun k i => spec_l6Group.l0 k l many l (l.length : Int) i) l (rises many) (fin := true) (no := false) ?_ ?_ ?_
  · exact cm_val this (if_self _)
  · intro pre h t e hlt hp v hv
    obtain ⟨⟨h0, h1⟩, h2⟩ := rises_yes hp
    refine cm_step (fun k => by rw [spec_l6Group.l0]) ?_
    simp only [rd_at e, wrap_len hlt hl]
    refine cm_yes (by omega) (cm_yes (by omega) (cm_yes (by omega) (cm_no (by omega) (cm_no (by omega) ?_))))
    rcases last_cases pre with rfl | ⟨q, hq⟩
    · exact cm_no (by simp) hv
    · obtain ⟨h3, h4⟩ := rd_last e hq
      have h5 := h2 q hq
      rw [wrap_less h3 (by omega), h4]
      repeat (first | assumption | exact cm_now (fun _ => rfl) | refine cm_yes (by first | omega | assumption | (simp; done) | (simp; omega)) ?_ | refine cm_no (by first | omega | assumption | (simp; done) | (simp; omega)) ?_)
  · intro pre h t e hlt hp
    refine cm_step (fun k => by rw [spec_l6Group.l0]) ?_
    simp only [rd_at e, wrap_len hlt hl]
    refine cm_yes (by omega) (cm_yes (by omega) (cm_yes (by omega) ?_))
    refine cm_if (fun _ => cm_now fun _ => rfl) (fun c0 => cm_if (fun _ => cm_now fun _ => rfl) (fun c1 => ?_))
    obtain ⟨q, hq, h5⟩ := rises_no hp (by omega) (by omega)
    obtain ⟨h3, h4⟩ := rd_last e hq
    rw [wrap_less h3 (by omega), h4]
    repeat (first | assumption | exact cm_now (fun _ => rfl) | refine cm_yes (by first | omega | assumption | (simp; done) | (simp; omega)) ?_ | refine cm_no (by first | omega | assumption | (simp; done) | (simp; omega)) ?_)
  · intro _
    refine cm_step (fun k => by rw [spec_l6Group.l0]) ?_
    repeat (first | assumption | exact cm_now (fun _ => rfl) | refine cm_yes (by first | omega | assumption | (simp; done) | (simp; omega)) ?_ | refine cm_no (by first | omega | assumption | (simp; done) | (simp; omega)) ?_)
theorem areMembers_f (l : List Int) (many : Int) (hl : l.length ≤ 4611686018427387904) (hm : 0 ≤ many ∧ many ≤ 4611686018427387904) : Cm (fun k => impl_areMembers.f k l many) (members many l) := by
  have hw : wrap64 (many - 1) = many - 1 := wrap_in (by omega) (by omega)
  unfold impl_areMembers.f
  have := all_cm (L := fun k i => impl_areMembers.l0 k l many l (l.length : Int) i) l (rises many) (fin := true) (no := false) ?_ ?_ ?_
  · exact cm_val this (if_self _)
  · intro pre h t e hlt hp v hv
    obtain ⟨⟨h0, h1⟩, h2⟩ := rises_yes hp
    refine cm_step (fun k => by rw [impl_areMembers.l0]) ?_
    simp only [rd_at e, wrap_len hlt hl, hw]
    refine cm_yes (by omega) (cm_yes (by omega) (cm_yes (by omega) (cm_bind (cm_now fun _ => in_f _ _ _) (cm_yes (by simp; omega) ?_))))
    rcases last_cases pre with rfl | ⟨q, hq⟩
    · exact cm_no (by simp) hv
    · obtain ⟨h3, h4⟩ := rd_last e hq
      have h5 := h2 q hq
      rw [wrap_less h3 (by omega), h4]
      repeat (first | assumption | exact cm_now (fun _ => rfl) | refine cm_yes (by first | omega | assumption | (simp; done) | (simp; omega)) ?_ | refine cm_no (by first | omega | assumption | (simp; done) | (simp; omega)) ?_)
  · intro pre h t e hlt hp
    refine cm_step (fun k => by rw [impl_areMembers.l0]) ?_
    simp only [rd_at e, wrap_len hlt hl, hw]
    refine cm_yes (by omega) (cm_yes (by omega) (cm_yes (by omega) (cm_bind (cm_now fun _ => in_f _ _ _) ?_)))
    refine cm_if (fun c0 => ?_) (fun _ => cm_now fun _ => rfl)
    simp only [decide_eq_true_eq] at c0
    obtain ⟨q, hq, h5⟩ := rises_no hp (by omega) (by omega)
    obtain ⟨h3, h4⟩ := rd_last e hq
    rw [wrap_less h3 (by omega), h4]
    repeat (first | assumption | exact cm_now (fun _ => rfl) | refine cm_yes (by first | omega | assumption | (simp; done) | (simp; omega)) ?_ | refine cm_no (by first | omega | assumption | (simp; done) | (simp; omega)) ?_)
  · intro _
    refine cm_step (fun k => by rw [impl_areMembers.l0]) ?_
    repeat (first | assumption | exact cm_now (fun _ => rfl) | refine cm_yes (by first | omega | assumption | (simp; done) | (simp; omega)) ?_ | refine cm_no (by first | omega | assumption | (simp; done) | (simp; omega)) ?_)
theorem contains_f (l : List Int) (n : Int) (hl : l.length ≤ 4611686018427387904) : Cm (fun k => slices_Contains_int_int.f k l n) (decide (n ∈ l)) := by
  unfold slices_Contains_int_int.f slices_Index_int_int.f
  refine cm_bind (t := foundAt (fun x => decide (n = x)) (fun i _ => (i : Int)) (-1) 0 l) ?_ (cm_now fun _ => ?_)
  · refine find_cm (L := fun k i => slices_Index_int_int.l0 k l n (l.length : Int) i) l (fun x => decide (n = x)) (fun i _ => (i : Int)) (none_ := (-1 : Int)) ?_ ?_ ?_
    · intro pre h t e hlt hp v hv
      simp only [decide_eq_false_iff_not] at hp
      refine cm_step (fun k => by rw [slices_Index_int_int.l0]) ?_
      simp only [rd_at e, wrap_len hlt hl]
      repeat (first | assumption | exact cm_now (fun _ => rfl) | refine cm_yes (by first | omega | assumption | (simp; done) | (simp; omega)) ?_ | refine cm_no (by first | omega | assumption | (simp; done) | (simp; omega)) ?_)
    · intro pre h t e hlt hp
      simp only [decide_eq_true_eq] at hp
      refine cm_step (fun k => by rw [slices_Index_int_int.l0]) ?_
      simp only [rd_at e, wrap_len hlt hl]
      repeat (first | assumption | exact cm_now (fun _ => rfl) | refine cm_yes (by first | omega | assumption | (simp; done) | (simp; omega)) ?_ | refine cm_no (by first | omega | assumption | (simp; done) | (simp; omega)) ?_)
    · refine cm_step (fun k => by rw [slices_Index_int_int.l0]) ?_
      repeat (first | assumption | exact cm_now (fun _ => rfl) | refine cm_yes (by first | omega | assumption | (simp; done) | (simp; omega)) ?_ | refine cm_no (by first | omega | assumption | (simp; done) | (simp; omega)) ?_)
  · rw [found_any]
    congr 1
    rw [Bool.eq_iff_iff]
    simp
end Go.Proofs.Ytfdgmknjmljhbaa.Mem
end
section
namespace Go.Proofs.Ytfdgmknjmljhbaa.Rd
open Go.RowKit Go.Proofs.Ytfdgmknjmljhbaa.P Go.Proofs.YtfdgmknjmljhbaaW.PrintWords Go.Proofs.YtfdgmknjmljhbaaW.PrintLast Go.Proofs.YtfdgmknjmljhbaaW.PrintMore
open Go.Proofs.Ytfdgmknjmljhbaa.Pl Go.Proofs.Ytfdgmknjmljhbaa.EvN Go.Proofs.Ytfdgmknjmljhbaa.Lp Go.Proofs.Ytfdgmknjmljhbaa.Sets Go.Proofs.Ytfdgmknjmljhbaa.Hs Go.Proofs.Ytfdgmknjmljhbaa.Hg Go.Proofs.Ytfdgmknjmljhbaa.Mem
set_option linter.unusedVariables false
set_option linter.unusedSimpArgs false
theorem iter_cm {σ ρ : Type} {L : Nat → Int → σ → Option ρ} (n : Nat) (st : Nat → σ) {v : ρ} (hs : ∀ i, i < n → ∀ u, Cm (fun k => L k ((i + 1 : Nat) : Int) (st (i + 1))) u → Cm (fun k => L k (i : Int) (st i)) u)
    (he : Cm (fun k => L k (n : Int) (st n)) v) : Cm (fun k => L k 0 (st 0)) v := by
  have key : ∀ (d i : Nat), i + d = n → Cm (fun k => L k (i : Int) (st i)) v := by
    intro d
    induction d with
    | zero => intro i e; rw [Nat.add_zero] at e; subst e; exact he
    | succ d ih => intro i e; exact hs i (by omega) v (ih (i + 1) (by omega))
  exact key n 0 (by omega)
theorem yes_cm {ρ : Type} {L : Nat → Int → Option ρ} (n : Nat) {v : ρ} (hs : ∀ i, i < n → ∀ u, Cm (fun k => L k ((i + 1 : Nat) : Int)) u → Cm (fun k => L k (i : Int)) u) (he : Cm (fun k => L k (n : Int)) v) : Cm (fun k => L k 0) v :=
  iter_cm (L := fun k i (_ : Unit) => L k i) n (fun _ => ()) hs he
theorem no_cm {ρ : Type} {L : Nat → Int → Option ρ} (n : Nat) (Q : Nat → Prop) {no : ρ} (hs : ∀ i, i < n → Q i → ∀ u, Cm (fun k => L k ((i + 1 : Nat) : Int)) u → Cm (fun k => L k (i : Int)) u) (hn : ∀ i, i < n → ¬ Q i → Cm (fun k => L k (i : Int)) no)
    (h : ¬ ∀ i, i < n → Q i) : Cm (fun k => L k 0) no := by
  have key : ∀ (d i : Nat), i + d = n → (¬ ∀ j, i ≤ j → j < n → Q j) → Cm (fun k => L k (i : Int)) no := by
    intro d
    induction d with
    | zero => intro i e h; exact absurd (fun j h1 h2 => by omega) h
    | succ d ih =>
      intro i e h
      by_cases c : Q i
      · refine hs i (by omega) c no (ih (i + 1) (by omega) (fun z => h (fun j h1 h2 => ?_)))
        rcases Nat.eq_or_lt_of_le h1 with rfl | h1
        · exact c
        · exact z j h1 h2
      · exact hn i (by omega) c
  exact key n 0 (by omega) (fun z => h (fun i hi => z i (Nat.zero_le _) hi))
theorem rd71 {rs : List S71} {i : Nat} (h : i < rs.length) : rd_T71 rs (i : Int) = rs[i] := by
  unfold rd_T71
  rw [Int.toNat_natCast, List.getD_eq_getElem?_getD, List.getElem?_eq_getElem h, Option.getD_some]
theorem wrap_n {i n : Nat} (h : i < n) (hn : n ≤ 4611686018427387904) : wrap64 ((i : Int) + 1) = ((i + 1 : Nat) : Int) := by
  rw [show ((i + 1 : Nat) : Int) = (i : Int) + 1 by omega]
  exact wrap_in (by omega) (by omega)
def cnt (l : List S71) : Nat := (l.filter (fun y => y.f0)).length
theorem cnt_succ (rs : List S71) {i : Nat} (h : i < rs.length) : cnt (rs.take (i + 1)) = cnt (rs.take i) + (if (rd_T71 rs (i : Int)).f0 = true then 1 else 0) := by
  rw [rd71 h, List.take_succ_eq_append_getElem h]
  unfold cnt
  rw [List.filter_append, List.length_append]
  congr 1
  by_cases c : rs[i].f0 = true
  · rw [if_pos c]; simp [c]
  · rw [if_neg c]; simp [c]
theorem cnt_le (l : List S71) : cnt l ≤ l.length := List.length_filter_le _ _
def picksN (p : Nat → Bool) (n : Nat) : List Int := ((List.range n).filter p).map (fun (i : Nat) => (i : Int))
theorem picksN_succ (p : Nat → Bool) (n : Nat) : picksN p (n + 1) = picksN p n ++ (if p n = true then [(n : Int)] else []) := by
  unfold picksN
  rw [List.range_succ, List.filter_append, List.map_append]
  congr 1
  by_cases c : p n = true
  · rw [if_pos c]; simp [c]
  · rw [if_neg c]; simp [c]
theorem picksN_le (p : Nat → Bool) (n : Nat) : (picksN p n).length ≤ n := by
  unfold picksN
  rw [List.length_map]
  exact Nat.le_trans (List.length_filter_le _ _) (by simp)
theorem picksN_rises (p : Nat → Bool) (n : Nat) : (picksN p n).Pairwise (· < ·) := by
  unfold picksN
  rw [List.pairwise_map]
  exact ((List.pairwise_lt_range (n := n)).filter p).imp (fun h => by omega)
def one (rs : List S71) (k : Nat) (p : Nat) : Bool := decide (0 < cnt rs) && decide (p % cnt rs = cnt (rs.take k))
def share (rs : List S71) (m k : Nat) : List Int := picksN (one rs k) m
theorem specShare_f (gen : Int) (rs : List S71) (com ends : List Int) (hr : rs.length ≤ 4611686018427387904) (he : ends.length ≤ 8796093022208) {j : Nat} (hj : j < rs.length) : Cm (fun k => spec_l14Share.f k gen rs com ends (j : Int)) (share rs ends.length j) := by
  unfold spec_l14Share.f
  refine iter_cm (L := fun k i (s : Int × Int) => spec_l14Share.l0 k (j : Int) s.1 s.2 rs (rs.length : Int) i gen rs com ends) rs.length (fun i => ((cnt (rs.take i) : Nat), ((if j < i then cnt (rs.take j) else 0 : Nat) : Int))) ?_ ?_
  · intro i hi u hu
    have hc := cnt_succ rs hi
    have hle := Nat.le_trans (cnt_le (rs.take i)) (List.length_take_le i rs)
    refine cm_step (fun k => by rw [spec_l14Share.l0]) ?_
    simp only [wrap_n hi hr]
    refine cm_yes (by omega) (cm_yes (by omega) (cm_yes (by omega) ?_))
    have w1 : wrap64 (((cnt (rs.take i) : Nat) : Int) + 1) = ((cnt (rs.take i) + 1 : Nat) : Int) := by rw [show ((cnt (rs.take i) + 1 : Nat) : Int) = ((cnt (rs.take i) : Nat) : Int) + 1 by omega]; exact wrap_in (by omega) (by omega)
    by_cases c : (i : Int) = (j : Int)
    · have e : i = j := by omega
      subst e
      refine cm_yes rfl (cm_if (fun d => ?_) (fun d => ?_))
      · rw [if_pos d] at hc
        rw [w1, ← hc]
        simpa using hu
      · rw [if_neg d] at hc
        rw [Nat.add_zero] at hc
        simp only [hc] at hu
        simpa using hu
    · refine cm_no c ?_
      have e1 : (j < i + 1) = (j < i) := by rw [eq_iff_iff]; omega
      simp only [e1] at hu
      refine cm_if (fun d => ?_) (fun d => ?_)
      · rw [if_pos d] at hc
        rw [w1, ← hc]
        exact hu
      · rw [if_neg d, Nat.add_zero] at hc
        rw [hc] at hu
        exact hu
  · refine cm_step (fun k => by rw [spec_l14Share.l0]) ?_
    refine cm_no (by omega) ?_
    simp only [List.take_length, if_pos hj]
    unfold share
    refine iter_cm (L := fun k i (s : List Int) => spec_l14Share.l1 k ((cnt rs : Nat) : Int) ((cnt (rs.take j) : Nat) : Int) s (ends.length : Int) i) ends.length (fun i => picksN (one rs j) i) ?_ ?_
    · intro i hi u hu
      have hl := picksN_le (one rs j) i
      refine cm_step (fun k => by rw [spec_l14Share.l1]) ?_
      simp only [wrap_n hi (show ends.length ≤ 4611686018427387904 by omega)]
      refine cm_yes (by omega) ?_
      rw [picksN_succ] at hu
      by_cases c : 0 < cnt rs
      · refine cm_yes (by omega) (cm_no (by omega) ?_)
        rw [show Int.tmod (i : Int) ((cnt rs : Nat) : Int) = ((i % cnt rs : Nat) : Int) from rfl]
        by_cases d : i % cnt rs = cnt (rs.take j)
        · have : one rs j i = true := by simp [one, c, d]
          rw [if_pos this] at hu
          exact cm_yes (by omega) (cm_yes (by omega) hu)
        · have : ¬ one rs j i = true := by simp [one, c, d]
          rw [if_neg this, List.append_nil] at hu
          exact cm_no (by omega) hu
      · have : ¬ one rs j i = true := by simp [one, c]
        rw [if_neg this, List.append_nil] at hu
        exact cm_no (by omega) hu
    · refine cm_step (fun k => by rw [spec_l14Share.l1]) ?_
      exact cm_no (by omega) (cm_now fun _ => rfl)
theorem implShare_f (gen : Int) (rs : List S71) (com ends : List Int) (hr : rs.length ≤ 4611686018427387904) (he : ends.length ≤ 8796093022208) {j : Nat} (hj : j < rs.length) (hin : (rd_T71 rs (j : Int)).f0 = true) : Cm (fun k => impl_Readers_shareOf.f k gen rs com ends (j : Int)) (share rs ends.length j) := by
  have hpos : 0 < cnt rs := by
    unfold cnt
    refine List.length_pos_of_mem (a := rs[j]) (List.mem_filter.2 ⟨List.getElem_mem hj, ?_⟩)
    rw [rd71 hj] at hin
    exact hin
  unfold impl_Readers_shareOf.f
  refine iter_cm (L := fun k i (s : Int × Int) => impl_Readers_shareOf.l0 k (j : Int) s.1 s.2 rs (rs.length : Int) i gen rs com ends) rs.length (fun i => (((cnt (rs.take i) : Nat) : Int), ((cnt (rs.take (min i j)) : Nat) : Int))) ?_ ?_
  · intro i hi u hu
    have hc := cnt_succ rs hi
    have hle := Nat.le_trans (cnt_le (rs.take i)) (List.length_take_le i rs)
    refine cm_step (fun k => by rw [impl_Readers_shareOf.l0]) ?_
    simp only [wrap_n hi hr]
    refine cm_yes (by omega) (cm_yes (by omega) (cm_yes (by omega) ?_))
    have w1 : wrap64 (((cnt (rs.take i) : Nat) : Int) + 1) = ((cnt (rs.take i) + 1 : Nat) : Int) := by rw [show ((cnt (rs.take i) + 1 : Nat) : Int) = ((cnt (rs.take i) : Nat) : Int) + 1 by omega]; exact wrap_in (by omega) (by omega)
    refine cm_if (fun d => ?_) (fun d => ?_)
    · rw [if_pos d] at hc
      refine cm_if (fun e => ?_) (fun e => ?_)
      · have e1 : min i j = i := by omega
        have e2 : min (i + 1) j = i + 1 := by omega
        simp only [e1, e2] at hu ⊢
        rw [w1, ← hc]
        exact hu
      · have e1 : min i j = j := by omega
        have e2 : min (i + 1) j = j := by omega
        simp only [e1, e2] at hu ⊢
        rw [w1, ← hc]
        exact hu
    · rw [if_neg d, Nat.add_zero] at hc
      by_cases e : i < j
      · have e1 : min i j = i := by omega
        have e2 : min (i + 1) j = i + 1 := by omega
        simp only [e1, e2, hc] at hu ⊢
        exact hu
      · have e1 : min i j = j := by omega
        have e2 : min (i + 1) j = j := by omega
        simp only [e1, e2, hc] at hu ⊢
        exact hu
  · refine cm_step (fun k => by rw [impl_Readers_shareOf.l0]) ?_
    refine cm_no (by omega) ?_
    simp only [List.take_length, show min rs.length j = j by omega]
    unfold share
    refine iter_cm (L := fun k i (s : List Int) => impl_Readers_shareOf.l1 k ((cnt rs : Nat) : Int) ((cnt (rs.take j) : Nat) : Int) s (ends.length : Int) i) ends.length (fun i => picksN (one rs j) i) ?_ ?_
    · intro i hi u hu
      have hl := picksN_le (one rs j) i
      refine cm_step (fun k => by rw [impl_Readers_shareOf.l1]) ?_
      simp only [wrap_n hi (show ends.length ≤ 4611686018427387904 by omega)]
      refine cm_yes (by omega) ?_
      rw [picksN_succ] at hu
      refine cm_no (by omega) ?_
      rw [show Int.tmod (i : Int) ((cnt rs : Nat) : Int) = ((i % cnt rs : Nat) : Int) from rfl]
      by_cases d : i % cnt rs = cnt (rs.take j)
      · have : one rs j i = true := by simp [one, hpos, d]
        rw [if_pos this] at hu
        exact cm_yes (by omega) (cm_yes (by omega) hu)
      · have : ¬ one rs j i = true := by simp [one, hpos, d]
        rw [if_neg this, List.append_nil] at hu
        exact cm_no (by omega) hu
    · refine cm_step (fun k => by rw [impl_Readers_shareOf.l1]) ?_
      exact cm_no (by omega) (cm_now fun _ => rfl)
theorem rises_all (many : Int) : ∀ (l pre : List Int), okFrom (rises many) pre l = true → pre.Pairwise (· < ·) → (pre ++ l).Pairwise (· < ·)
  | [], pre, _, h => by rw [List.append_nil]; exact h
  | x :: l, pre, ho, h => by
    unfold okFrom at ho
    rw [Bool.and_eq_true] at ho
    have hr := rises_yes ho.1
    have : (pre ++ [x]).Pairwise (· < ·) := by
      rw [List.pairwise_append]
      refine ⟨h, List.pairwise_singleton _ _, fun a ha b hb => ?_⟩
      rw [List.mem_singleton.1 hb]
      rcases List.eq_nil_or_concat pre with rfl | ⟨i, q, rfl⟩
      · simp at ha
      · have hq : q < x := hr.2 q (by simp)
        rw [List.concat_eq_append, List.mem_append] at ha
        rcases ha with ha | ha
        · rw [List.concat_eq_append, List.pairwise_append] at h
          have := h.2.2 a ha q (List.mem_singleton_self q)
          omega
        · rw [List.mem_singleton.1 ha]; exact hq
    have := rises_all many l (pre ++ [x]) ho.2 this
    rwa [List.append_assoc] at this
theorem members_rise {many : Int} {l : List Int} (h : members many l = true) : l.Pairwise (· < ·) := rises_all many l [] h List.Pairwise.nil
theorem rise_sub : ∀ (a b : List Int), a.Pairwise (· < ·) → b.Pairwise (· < ·) → (∀ x ∈ b, x ∈ a) → b.length ≤ a.length ∧ (b.length = a.length → b = a)
  | [], b, _, _, h => by
    cases b with
    | nil => exact ⟨Nat.le_refl _, fun _ => rfl⟩
    | cons y b => exact absurd (h y List.mem_cons_self) (by simp)
  | x :: a, b, ha, hb, h => by
    rw [List.pairwise_cons] at ha
    cases b with
    | nil => exact ⟨Nat.zero_le _, fun e => by simp at e⟩
    | cons y b =>
      by_cases c : y = x
      · subst c
        rw [List.pairwise_cons] at hb
        have hs : ∀ z ∈ b, z ∈ a := fun z hz => by
          rcases List.mem_cons.1 (h z (List.mem_cons_of_mem _ hz)) with e | e
          · have := hb.1 z hz; omega
          · exact e
        have ih := rise_sub a b ha.2 hb.2 hs
        exact ⟨by simp only [List.length_cons]; omega, fun e => by rw [ih.2 (by simpa using e)]⟩
      · have hy : y ∈ a := (List.mem_cons.1 (h y List.mem_cons_self)).resolve_left c
        have hs : ∀ z ∈ y :: b, z ∈ a := fun z hz => by
          rcases List.mem_cons.1 (h z hz) with e | e
          · rcases List.mem_cons.1 hz with e2 | e2
            · rw [e2]; exact hy
            · have := (List.pairwise_cons.1 hb).1 z e2
              have := ha.1 y hy
              omega
          · exact e
        have ih := rise_sub a (y :: b) ha.2 hb hs
        exact ⟨by simp only [List.length_cons] at *; omega, fun e => by simp only [List.length_cons] at *; omega⟩
theorem rdn {l : List Int} {i : Nat} (h : i < l.length) : rd l (i : Int) = l[i] := by
  unfold rd
  rw [Int.toNat_natCast, List.getD_eq_getElem?_getD, List.getElem?_eq_getElem h, Option.getD_some]
theorem equal_f (a b : List Int) (ha : a.length ≤ 4611686018427387904) : Cm (fun k => slices_Equal_int_int.f k a b) (decide (a = b)) := by
  unfold slices_Equal_int_int.f
  by_cases c : (a.length : Int) = (b.length : Int)
  · refine cm_yes c ?_
    by_cases d : a = b
    · subst d
      rw [decide_eq_true rfl]
      refine yes_cm (L := fun k i => slices_Equal_int_int.l0 k a a (a.length : Int) i) a.length ?_ ?_
      · intro i hi u hu
        refine cm_step (fun k => by rw [slices_Equal_int_int.l0]) ?_
        simp only [wrap_n hi ha]
        exact cm_yes (by omega) (cm_yes (by omega) (cm_yes (by omega) (cm_yes (by omega) (cm_yes (by first | trivial | rfl) hu))))
      · refine cm_step (fun k => by rw [slices_Equal_int_int.l0]) ?_
        exact cm_no (by omega) (cm_now fun _ => rfl)
    · rw [decide_eq_false d]
      refine no_cm (L := fun k i => slices_Equal_int_int.l0 k a b (a.length : Int) i) a.length (fun i => rd a (i : Int) = rd b (i : Int)) ?_ ?_ ?_
      · intro i hi q u hu
        refine cm_step (fun k => by rw [slices_Equal_int_int.l0]) ?_
        simp only [wrap_n hi ha]
        exact cm_yes (by omega) (cm_yes (by omega) (cm_yes (by omega) (cm_yes (by omega) (cm_yes q hu))))
      · intro i hi q
        refine cm_step (fun k => by rw [slices_Equal_int_int.l0]) ?_
        exact cm_yes (by omega) (cm_yes (by omega) (cm_yes (by omega) (cm_yes (by omega) (cm_no q (cm_now fun _ => rfl)))))
      · intro h
        refine d (List.ext_getElem (by omega) (fun i h1 h2 => ?_))
        have := h i h1
        rw [rdn h1, rdn h2] at this
        exact this
  · rw [decide_eq_false (fun e => c (by rw [e]))]
    exact cm_no c (cm_now fun _ => rfl)
theorem same_f {many : Int} (a b : List Int) (ha : a.length ≤ 4611686018427387904) (hb : b.length ≤ 4611686018427387904) (h1 : members many a = true) (h2 : b.Pairwise (· < ·)) : Cm (fun k => spec_l14Same.f k a b) (decide (a = b)) := by
  unfold spec_l14Same.f
  refine cm_bind (hasAll_f a b ha hb) (cm_if (fun c => cm_now fun _ => ?_) (fun c => cm_now fun _ => ?_))
  · unfold hasAll at c
    rw [List.all_eq_true] at c
    have hs := rise_sub a b (members_rise h1) h2 (fun x hx => by simpa using c x hx)
    congr 1
    rw [Bool.eq_iff_iff, beq_iff_eq, decide_eq_true_eq]
    constructor
    · intro e; exact (hs.2 (by omega)).symm
    · intro e; rw [e]
  · congr 1
    rw [eq_comm, decide_eq_false_iff_not]
    rintro rfl
    exact c (by unfold hasAll; simp)
def headR (gen : Int) (m : Nat) (y : S71) : Prop := y.f3.length = m ∧ members (m : Int) y.f2 = true ∧ (0 ≤ y.f1 ∧ y.f1 ≤ gen) ∧ (y.f0 = true ∨ (y.f1 = 0 ∧ y.f2.length = 0))
def readR (ends : List Int) (y : S71) (p : Nat) : Prop := (0 ≤ rd y.f3 (p : Int) ∧ rd y.f3 (p : Int) ≤ rd ends (p : Int)) ∧ ((p : Int) ∈ y.f2 ∨ rd y.f3 (p : Int) = 0)
def goodR (gen : Int) (rs : List S71) (ends : List Int) (j : Nat) : Prop := headR gen ends.length (rd_T71 rs (j : Int)) ∧ (∀ p, p < ends.length → readR ends (rd_T71 rs (j : Int)) p) ∧ ((rd_T71 rs (j : Int)).f0 = true → (rd_T71 rs (j : Int)).f1 = gen → (rd_T71 rs (j : Int)).f2 = share rs ends.length j)
def topR (gen : Int) (rs : List S71) (com ends : List Int) : Prop := ((1 ≤ rs.length ∧ rs.length ≤ 5) ∧ (1 ≤ ends.length ∧ ends.length ≤ 6)) ∧ com.length = ends.length ∧ (0 ≤ gen ∧ gen ≤ 1000)
def endR (com ends : List Int) (p : Nat) : Prop := (0 ≤ rd ends (p : Int) ∧ rd ends (p : Int) ≤ 100) ∧ (0 ≤ rd com (p : Int) ∧ rd com (p : Int) ≤ rd ends (p : Int))
def good (gen : Int) (rs : List S71) (com ends : List Int) : Prop := topR gen rs com ends ∧ (∀ p, p < ends.length → endR com ends p) ∧ ∀ j, j < rs.length → goodR gen rs ends j
end Go.Proofs.Ytfdgmknjmljhbaa.Rd
end
section
namespace Go.Proofs.Ytfdgmknjmljhbaa.Mk
open Go.RowKit Go.Proofs.YtfdgmknjmljhbaaW.PrintWords Go.Proofs.YtfdgmknjmljhbaaW.PrintLast
set_option linter.unusedVariables false
set_option linter.unusedSimpArgs false
abbrev Pl := Nat × Nat × Bool
def adr (p : Pl) : Addr := ⟨p.1, p.2.1, none⟩
def three (k : Int) : Bool := k % 3 == 0
def mkv (t : Bool) (k : Int) : Value := if t = true then .bool (three k) else .int .i64 k
def plain : Bool → Value → Prop
  | true, u => ∃ z, u = .bool z
  | false, u => ∃ z : Int, u = .int .i64 z
theorem plain_mkv (t : Bool) (k : Int) : plain t (mkv t k) := by cases t <;> exact ⟨_, rfl⟩
theorem plain_one {s t : Bool} {u : Value} (h : plain s u) (h2 : plain t u) : s = t := by
  cases s <;> cases t <;> obtain ⟨a, rfl⟩ := h <;> obtain ⟨b, hb⟩ := h2 <;> first | rfl | cases hb
def puts : World → List Pl → Int → World
  | w, [], _ => w
  | w, p :: l, k => puts (w.setCell (adr p) (mkv p.2.2 k)) l (k + 1)
theorem set_size (w : World) (a : Addr) (u : Value) : (w.setCell a u).heap.size = w.heap.size := by simp [World.setCell]
theorem puts_size : ∀ (l : List Pl) (w : World) (k : Int), (puts w l k).heap.size = w.heap.size
  | [], _, _ => rfl
  | p :: l, w, k => by rw [puts, puts_size l, set_size]
theorem set_cong {w1 w2 : World} {i : Nat} (h : w1.heap[i]? = w2.heap[i]?) (a : Addr) (u : Value) : (w1.setCell a u).heap[i]? = (w2.setCell a u).heap[i]? := by
  simp only [World.setCell, Array.getElem?_modify, h]
theorem puts_cong {i : Nat} : ∀ (l : List Pl) {w1 w2 : World} (k : Int), w1.heap[i]? = w2.heap[i]? → (puts w1 l k).heap[i]? = (puts w2 l k).heap[i]?
  | [], _, _, _, h => h
  | p :: l, _, _, k, h => puts_cong l (k + 1) (set_cong h _ _)
theorem puts_app : ∀ (l m : List Pl) (w : World) (k : Int), puts w (l ++ m) k = puts (puts w l k) m (k + (l.length : Int))
  | [], m, w, k => by simp [puts]
  | p :: l, m, w, k => by
    rw [List.cons_append, puts, puts_app l m, puts]
    congr 1
    simp only [List.length_cons]
    omega
theorem puts_far {i : Nat} : ∀ (l : List Pl) (w : World) (k : Int), (∀ p ∈ l, p.1 ≠ i) → (puts w l k).heap[i]? = w.heap[i]?
  | [], _, _, _ => rfl
  | p :: l, w, k, h => by
    rw [puts, puts_far l _ _ (fun q hq => h q (List.mem_cons_of_mem _ hq))]
    exact Below.heap_setCell w _ _ _ (fun e => h p List.mem_cons_self e.symm)
structure Wr (w w' : World) (ps : List Pl) (k : Int) : Prop where
  os : w'.os = w.os
  tape : w'.tape = w.tape
  output : w'.output = w.output
  size : w.heap.size ≤ w'.heap.size
  block : ∀ i, i < w.heap.size → w'.heap[i]? = (puts w ps k).heap[i]?
theorem Wr.refl (w : World) (k : Int) : Wr w w [] k := ⟨rfl, rfl, rfl, Nat.le_refl _, fun _ _ => rfl⟩
theorem Wr.below {w w1 w2 : World} {ps : List Pl} {k : Int} (h : Wr w w1 ps k) (hb : Below w1.heap.size w1 w2) : Wr w w2 ps k :=
  ⟨hb.os.trans h.os, hb.tape.trans h.tape, hb.output.trans h.output, Nat.le_trans h.size hb.size, fun i hi => (hb.block i (Nat.lt_of_lt_of_le hi h.size)).trans (h.block i hi)⟩
theorem Wr.trans {w w1 w2 : World} {ps bs : List Pl} {k j : Int} (h : Wr w w1 ps k) (g : Wr w1 w2 bs j) (hj : j = k + (ps.length : Int)) : Wr w w2 (ps ++ bs) k := by
  subst hj
  refine ⟨g.os.trans h.os, g.tape.trans h.tape, g.output.trans h.output, Nat.le_trans h.size g.size, fun i hi => ?_⟩
  rw [g.block i (Nat.lt_of_lt_of_le hi h.size), puts_app]
  exact puts_cong bs _ (h.block i hi)
theorem Wr.one (w : World) (p : Pl) (k : Int) : Wr w (w.setCell (adr p) (mkv p.2.2 k)) [p] k :=
  ⟨rfl, rfl, rfl, Nat.le_of_eq (set_size w _ _).symm, fun _ _ => rfl⟩
theorem Wr.put {w w1 : World} {ps : List Pl} {k j : Int} (h : Wr w w1 ps k) (p : Pl) (hj : j = k + (ps.length : Int)) : Wr w (w1.setCell (adr p) (mkv p.2.2 j)) (ps ++ [p]) k :=
  h.trans (Wr.one w1 p j) hj
theorem Wr.kept {w w' : World} {ps : List Pl} {k : Int} {S : Nat → Prop} (h : Wr w w' ps k) (hS : ∀ p ∈ ps, S p.1) : Kept w w' S :=
  ⟨h.size, fun i hi hn => (h.block i hi).trans (puts_far ps w k (fun p hp e => hn (e ▸ hS p hp)))⟩
def okc (w : World) (p : Pl) : Prop := (∃ u, w.cell? (adr p) = some u ∧ plain p.2.2 u) ∧ w.frozen? (adr p) = false
def okh (w : World) (q : (Nat × Nat) × Value) : Prop := w.cell? ⟨q.1.1, q.1.2, none⟩ = some q.2 ∧ ∃ A n c, q.2 = .slice A n c
theorem adr_ne {p q : Pl} (h : ¬ (p.1 = q.1 ∧ p.2.1 = q.2.1)) : adr p ≠ adr q := by
  intro e
  injection e with e1 e2
  exact h ⟨e1, e2⟩
theorem okc_set {w : World} {p q : Pl} (hp : okc w p) (hq : okc w q) (k : Int) : okc (w.setCell (adr p) (mkv p.2.2 k)) q := by
  refine ⟨?_, by rw [World.frozen?_setCell]; exact hq.2⟩
  obtain ⟨⟨u, hu, hpu⟩, _⟩ := hp
  obtain ⟨⟨v, hv, hpv⟩, _⟩ := hq
  by_cases c : p.1 = q.1 ∧ p.2.1 = q.2.1
  · have e : adr p = adr q := by unfold adr; rw [c.1, c.2]
    rw [e] at hu ⊢
    rw [hu] at hv
    cases hv
    exact ⟨_, World.cell?_setCell_same _ _ _ hu, by rw [plain_one hpv hpu]; exact plain_mkv _ _⟩
  · exact ⟨v, by rw [World.cell?_setCell_other (h := adr_ne c)]; exact hv, hpv⟩
theorem okh_set {w : World} {p : Pl} {q : (Nat × Nat) × Value} (hp : okc w p) (hq : okh w q) (k : Int) : okh (w.setCell (adr p) (mkv p.2.2 k)) q := by
  obtain ⟨⟨u, hu, hpu⟩, _⟩ := hp
  obtain ⟨hv, A, n, c, he⟩ := hq
  refine ⟨?_, A, n, c, he⟩
  rw [World.cell?_setCell_other]
  · exact hv
  · intro e
    rw [e, hv, he] at hu
    cases hu
    cases hb : p.2.2 <;> rw [hb] at hpu <;> obtain ⟨z, hz⟩ := hpu <;> cases hz
structure Pt (w : World) (hs : List ((Nat × Nat) × Value)) (ps : List Pl) : Prop where
  h : ∀ q ∈ hs, okh w q
  a : ∀ p ∈ ps, okc w p
theorem Pt.nil (w : World) : Pt w [] [] := ⟨fun _ h => by simp at h, fun _ h => by simp at h⟩
theorem Pt.app {w : World} {h1 h2 : List ((Nat × Nat) × Value)} {a1 a2 : List Pl} (x : Pt w h1 a1) (y : Pt w h2 a2) : Pt w (h1 ++ h2) (a1 ++ a2) :=
  ⟨fun q hq => (List.mem_append.1 hq).elim (x.h q) (y.h q), fun p hp => (List.mem_append.1 hp).elim (x.a p) (y.a p)⟩
theorem Pt.right {w : World} {h1 h2 : List ((Nat × Nat) × Value)} {a1 a2 : List Pl} (x : Pt w (h1 ++ h2) (a1 ++ a2)) : Pt w h2 a2 :=
  ⟨fun q hq => x.h q (List.mem_append_right _ hq), fun p hp => x.a p (List.mem_append_right _ hp)⟩
theorem Pt.puts {hs : List ((Nat × Nat) × Value)} {ps : List Pl} : ∀ (bs : List Pl) {w : World} (k : Int), Pt w hs ps → (∀ p ∈ bs, okc w p) → Pt (puts w bs k) hs ps
  | [], _, _, h, _ => h
  | p :: bs, w, k, h, hb => by
    have hp := hb p List.mem_cons_self
    exact Pt.puts bs (k + 1) ⟨fun q hq => okh_set hp (h.h q hq) k, fun q hq => okc_set hp (h.a q hq) k⟩ (fun q hq => okc_set hp (hb q (List.mem_cons_of_mem _ hq)) k)
theorem okc_block {w w' : World} {p : Pl} (h : okc w p) (hb : ∀ i, i < w.heap.size → w'.heap[i]? = w.heap[i]?) : okc w' p := by
  obtain ⟨⟨u, hu, hp⟩, hf⟩ := h
  have := hb _ (World.block_lt_of_cell? _ _ hu)
  exact ⟨⟨u, by rw [World.cell?_of_block this]; exact hu, hp⟩, by rw [World.frozen?_of_block this]; exact hf⟩
theorem okh_block {w w' : World} {q : (Nat × Nat) × Value} (h : okh w q) (hb : ∀ i, i < w.heap.size → w'.heap[i]? = w.heap[i]?) : okh w' q :=
  ⟨by rw [World.cell?_of_block (hb _ (World.block_lt_of_cell? _ _ h.1))]; exact h.1, h.2⟩
theorem Pt.block {w w' : World} {hs : List ((Nat × Nat) × Value)} {ps : List Pl} (h : Pt w hs ps) (hb : ∀ i, i < w.heap.size → w'.heap[i]? = w.heap[i]?) : Pt w' hs ps :=
  ⟨fun q hq => okh_block (h.h q hq) hb, fun p hp => okc_block (h.a p hp) hb⟩
theorem Pt.below {w w' : World} {hs : List ((Nat × Nat) × Value)} {ps : List Pl} (h : Pt w hs ps) (hb : Below w.heap.size w w') : Pt w' hs ps := h.block hb.block
theorem Pt.wr {w w' : World} {hs : List ((Nat × Nat) × Value)} {ps bs : List Pl} {k : Int} (h : Pt w hs ps) (hw : Wr w w' bs k) (hb : ∀ p ∈ bs, okc w p) : Pt w' hs ps :=
  (h.puts bs k hb).block (fun i hi => hw.block i (by rwa [puts_size] at hi))
theorem Pt.set {w : World} {hs : List ((Nat × Nat) × Value)} {ps : List Pl} (h : Pt w hs ps) {p : Pl} (hp : okc w p) (k : Int) : Pt (w.setCell (adr p) (mkv p.2.2 k)) hs ps :=
  ⟨fun q hq => okh_set hp (h.h q hq) k, fun q hq => okc_set hp (h.a q hq) k⟩
def Hs (w : World) (ps : List Pl) (k : Int) : Prop := ∀ (i : Nat) (p : Pl), ps[i]? = some p → w.cell? (adr p) = some (mkv p.2.2 (k + (i : Int)))
theorem Hs.block {w w' : World} {ps : List Pl} {k : Int} (h : Hs w ps k) (hb : ∀ i, i < w.heap.size → w'.heap[i]? = w.heap[i]?) : Hs w' ps k :=
  fun i p hp => by rw [World.cell?_of_block (hb _ (World.block_lt_of_cell? _ _ (h i p hp)))]; exact h i p hp
theorem Hs.below {w w' : World} {ps : List Pl} {k : Int} (h : Hs w ps k) (hb : Below w.heap.size w w') : Hs w' ps k := h.block hb.block
theorem Hs.head {w : World} {p : Pl} {ps : List Pl} {k : Int} (h : Hs w (p :: ps) k) : w.cell? (adr p) = some (mkv p.2.2 k) := by
  have := h 0 p rfl
  simpa using this
theorem Hs.right {w : World} {ps bs : List Pl} {k : Int} (h : Hs w (ps ++ bs) k) : Hs w bs (k + (ps.length : Int)) := fun i p hp => by
  have := h (ps.length + i) p (by rw [List.getElem?_append_right (by omega), Nat.add_sub_cancel_left]; exact hp)
  rw [this]
  congr 2
  omega
def apart (ps : List Pl) : Prop := (ps.map fun p => (p.1, p.2.1)).Nodup
theorem puts_cell : ∀ (l : List Pl) (w : World) (k : Int) (q : Pl), (∀ p ∈ l, ¬ (p.1 = q.1 ∧ p.2.1 = q.2.1)) → (puts w l k).cell? (adr q) = w.cell? (adr q)
  | [], _, _, _, _ => rfl
  | p :: l, w, k, q, h => by
    rw [puts, puts_cell l _ _ q (fun r hr => h r (List.mem_cons_of_mem _ hr)), World.cell?_setCell_other (h := adr_ne (h p List.mem_cons_self))]
theorem hs_puts : ∀ (ps : List Pl) {w : World} (k : Int), apart ps → (∀ p ∈ ps, okc w p) → Hs (puts w ps k) ps k
  | [], _, _, _, _ => fun i p h => by simp at h
  | q :: ps, w, k, hn, ho => by
    have hq := ho q List.mem_cons_self
    unfold apart at hn
    rw [List.map_cons, List.nodup_cons] at hn
    have ih := hs_puts ps (w := w.setCell (adr q) (mkv q.2.2 k)) (k + 1) hn.2 (fun p hp => okc_set hq (ho p (List.mem_cons_of_mem _ hp)) k)
    intro i p hp
    cases i with
    | zero =>
      simp only [List.getElem?_cons_zero, Option.some.injEq] at hp
      subst hp
      rw [puts, puts_cell ps _ _ q (fun r hr e => hn.1 (List.mem_map.2 ⟨r, hr, by rw [e.1, e.2]⟩))]
      obtain ⟨⟨u, hu, _⟩, _⟩ := hq
      rw [World.cell?_setCell_same _ _ _ hu]
      congr 2
      omega
    | succ i =>
      simp only [List.getElem?_cons_succ] at hp
      rw [puts, ih i p hp]
      congr 2
      omega
theorem Wr.hs {w w' : World} {ps : List Pl} {k : Int} (h : Wr w w' ps k) (hn : apart ps) (ho : ∀ p ∈ ps, okc w p) : Hs w' ps k :=
  (hs_puts ps k hn ho).block (fun i hi => h.block i (by rwa [puts_size] at hi))
structure Md where
  sz : Nat
  Sh : Nat → Nat → List ((Nat × Nat) × Value) → List Pl → Prop
namespace Md
def int : Md := ⟨1, fun g o hs ps => hs = [] ∧ ps = [(g, o, false)]⟩
def bool : Md := ⟨1, fun g o hs ps => hs = [] ∧ ps = [(g, o, true)]⟩
def pair (a b : Md) : Md := ⟨a.sz + b.sz, fun g o hs ps => ∃ h1 a1 h2 a2, a.Sh g o h1 a1 ∧ b.Sh g (o + a.sz) h2 a2 ∧ hs = h1 ++ h2 ∧ ps = a1 ++ a2⟩
def N (d : Md) (g : Nat) : Nat → Nat → List ((Nat × Nat) × Value) → List Pl → Prop
  | _, 0, hs, ps => hs = [] ∧ ps = []
  | j, n + 1, hs, ps => ∃ h1 a1 h2 a2, d.Sh g (j * d.sz) h1 a1 ∧ N d g (j + 1) n h2 a2 ∧ hs = h1 ++ h2 ∧ ps = a1 ++ a2
def Row (d : Md) (v : Value) (hs : List ((Nat × Nat) × Value)) (ps : List Pl) : Prop :=
  ∃ A n c, v = .slice A n c ∧ n ≤ c ∧ n ≤ 9223372036854775807 ∧ ((n = 0 ∧ hs = [] ∧ ps = []) ∨ ∃ g, A = some ⟨g, 0, none⟩ ∧ d.N g 0 n hs ps)
def slice (d : Md) : Md := ⟨1, fun g o hs ps => ∃ v h1, d.Row v h1 ps ∧ hs = ((g, o), v) :: h1⟩
end Md
end Go.Proofs.Ytfdgmknjmljhbaa.Mk
end
section
namespace Go.Proofs.Ytfdgmknjmljhbaa.Mk
open Go.RowKit Go.Proofs.YtfdgmknjmljhbaaW.PrintWords Go.Proofs.YtfdgmknjmljhbaaW.PrintLast
set_option linter.unusedVariables false
set_option linter.unusedSimpArgs false
theorem apart_nil : apart [] := List.nodup_nil
theorem apart_app {a b : List Pl} (ha : apart a) (hb : apart b) (h : ∀ p ∈ a, ∀ q ∈ b, ¬ (p.1 = q.1 ∧ p.2.1 = q.2.1)) : apart (a ++ b) := by
  unfold apart at *
  rw [List.map_append, List.nodup_append]
  refine ⟨ha, hb, fun x hx y hy e => ?_⟩
  obtain ⟨p, hp, rfl⟩ := List.mem_map.1 hx
  obtain ⟨q, hq, rfl⟩ := List.mem_map.1 hy
  injection e with e1 e2
  exact h p hp q hq ⟨e1, e2⟩
structure Br {α : Type} (d : Kd α) (m : Md) (c inn : α → Nat) (ex : α → Prop) : Prop where
  sz : m.sz = d.sz
  el : ∀ {w : World} {base : Nat} {ok : Nat → Prop} {x : α} {cs : List Value} {g o : Nat}, d.M w base ok x cs → (∀ k, ok k → k ≠ g) → (∀ j u, cs[j]? = some u → w.cell? ⟨g, o + j, none⟩ = some u) → (∀ j, w.frozen? ⟨g, o + j, none⟩ = false) →
    ∃ hs ps, m.Sh g o hs ps ∧ Pt w hs ps ∧ ps.length = c x ∧ (ex x → apart ps) ∧ (∀ p ∈ ps, (p.1 = g ∧ o ≤ p.2.1 ∧ p.2.1 < o + m.sz) ∨ (ok p.1 ∧ inn x ≠ 0)) ∧ ∀ q ∈ hs, q.1.1 = g ∨ ok q.1.1
namespace Br
variable {α β : Type}
theorem int : Br (Kd.int .i64) Md.int (fun _ => 1) (fun _ => 0) (fun _ => True) where
  sz := rfl
  el := by
    intro w base ok x cs g o h _ hc hf
    obtain rfl : cs = [.int .i64 x] := h
    refine ⟨[], [(g, o, false)], ⟨rfl, rfl⟩, ⟨fun _ h => by simp at h, fun p hp => ?_⟩, rfl, fun _ => by simp [apart], fun p hp => ?_, fun _ h => by simp at h⟩
    · obtain rfl := List.mem_singleton.1 hp
      exact ⟨⟨_, hc 0 _ rfl, x, rfl⟩, hf 0⟩
    · obtain rfl := List.mem_singleton.1 hp
      exact .inl ⟨rfl, Nat.le_refl _, Nat.lt_succ_self _⟩
theorem bool : Br Kd.bool Md.bool (fun _ => 1) (fun _ => 0) (fun _ => True) where
  sz := rfl
  el := by
    intro w base ok x cs g o h _ hc hf
    obtain rfl : cs = [.bool x] := h
    refine ⟨[], [(g, o, true)], ⟨rfl, rfl⟩, ⟨fun _ h => by simp at h, fun p hp => ?_⟩, rfl, fun _ => by simp [apart], fun p hp => ?_, fun _ h => by simp at h⟩
    · obtain rfl := List.mem_singleton.1 hp
      exact ⟨⟨_, hc 0 _ rfl, x, rfl⟩, hf 0⟩
    · obtain rfl := List.mem_singleton.1 hp
      exact .inl ⟨rfl, Nat.le_refl _, Nat.lt_succ_self _⟩
theorem pair {d1 : Kd α} {d2 : Kd β} {m1 m2 : Md} {c1 i1 : α → Nat} {c2 i2 : β → Nat} {e1 : α → Prop} {e2 : β → Prop} (h1 : Br d1 m1 c1 i1 e1) (h2 : Br d2 m2 c2 i2 e2) :
    Br (Kd.pair d1 d2) (Md.pair m1 m2) (fun x => c1 x.1 + c2 x.2) (fun x => i1 x.1 + i2 x.2) (fun x => e1 x.1 ∧ e2 x.2 ∧ (i1 x.1 = 0 ∨ i2 x.2 = 0)) where
  sz := by show m1.sz + m2.sz = d1.sz + d2.sz; rw [h1.sz, h2.sz]
  el := by
    rintro w base ok x cs g o ⟨u0, u1, rfl, hM1, hM2⟩ hg hc hf
    have hl := d1.K_len (d1.K_of_M hM1)
    obtain ⟨s1, a1, sh1, p1, l1, x1, b1, q1⟩ := h1.el (g := g) (o := o) hM1 hg (fun j u hu => hc j u (by rw [List.getElem?_append_left (List.getElem?_eq_some_iff.1 hu).1]; exact hu)) hf
    obtain ⟨s2, a2, sh2, p2, l2, x2, b2, q2⟩ := h2.el (g := g) (o := o + m1.sz) hM2 hg (fun j u hu => by
      have := hc (m1.sz + j) u (by rw [List.getElem?_append_right (by rw [hl, h1.sz]; omega), hl, h1.sz, Nat.add_sub_cancel_left]; exact hu)
      rw [← Nat.add_assoc] at this
      exact this) (fun j => by have := hf (m1.sz + j); rw [← Nat.add_assoc] at this; exact this)
    refine ⟨s1 ++ s2, a1 ++ a2, ⟨s1, a1, s2, a2, sh1, sh2, rfl, rfl⟩, p1.app p2, by rw [List.length_append, l1, l2], ?_, ?_, fun q hq => (List.mem_append.1 hq).elim (q1 q) (q2 q)⟩
    · rintro ⟨y1, y2, y3⟩
      refine apart_app (x1 y1) (x2 y2) (fun p hp q hq e => ?_)
      rcases b1 p hp with hp' | ⟨hp', hp2⟩
      · rcases b2 q hq with hq' | ⟨hq', _⟩
        · omega
        · exact hg _ hq' (by rw [← e.1]; exact hp'.1)
      · rcases b2 q hq with hq' | ⟨_, hq2⟩
        · exact hg _ hp' (by rw [e.1]; exact hq'.1)
        · exact y3.elim hp2 hq2
    · intro p hp
      show (p.1 = g ∧ o ≤ p.2.1 ∧ p.2.1 < o + (m1.sz + m2.sz)) ∨ _
      rcases List.mem_append.1 hp with hp | hp
      · rcases b1 p hp with hp' | hp'
        · exact .inl ⟨hp'.1, by omega, by omega⟩
        · exact .inr ⟨hp'.1, by have := hp'.2; omega⟩
      · rcases b2 p hp with hp' | hp'
        · exact .inl ⟨hp'.1, by omega, by omega⟩
        · exact .inr ⟨hp'.1, by have := hp'.2; omega⟩
theorem iso {d : Kd α} {m : Md} {c i : α → Nat} {e : α → Prop} (h : Br d m c i e) (f : β → α) : Br (Kd.iso d f) m (fun x => c (f x)) (fun x => i (f x)) (fun x => e (f x)) where
  sz := h.sz
  el := fun hM => h.el hM
end Br
section
variable {α : Type} {d : Kd α} {m : Md} {c inn : α → Nat} {ex : α → Prop}
def tot (c : α → Nat) (xs : List α) : Nat := (xs.map c).sum
theorem tot_drop (c : α → Nat) (xs : List α) (j : Nat) (h : j < xs.length) : tot c (xs.drop j) = c xs[j] + tot c (xs.drop (j + 1)) := by
  unfold tot
  rw [List.drop_eq_getElem_cons h, List.map_cons, List.sum_cons]
theorem row_n (hb : Br d m c inn ex) {w : World} {base g : Nat} {ok : Nat → Prop} {Q : Nat → Nat → Prop} (xs : List α)
    (E : ∀ i (h : i < xs.length), ∃ cs, d.M w base (fun k => ok k ∧ k ≠ g ∧ Q i k) xs[i] cs ∧ (∀ j u, cs[j]? = some u → w.cell? ⟨g, i * m.sz + j, none⟩ = some u) ∧ ∀ j, w.frozen? ⟨g, i * m.sz + j, none⟩ = false) :
    ∀ n j, j + n = xs.length → ∃ hs ps, m.N g j n hs ps ∧ Pt w hs ps ∧ ps.length = tot c (xs.drop j) ∧ (∀ q ∈ hs, q.1.1 = g ∨ ok q.1.1) ∧
      (∀ p ∈ ps, (p.1 = g ∧ j * m.sz ≤ p.2.1) ∨ (ok p.1 ∧ p.1 ≠ g ∧ ∃ i, j ≤ i ∧ Q i p.1 ∧ ∃ h : i < xs.length, inn xs[i] ≠ 0)) ∧
      ((∀ x ∈ xs, ex x) → ((∀ i i' k, Q i k → Q i' k → i = i') ∨ ∀ x ∈ xs, inn x = 0) → apart ps)
  | 0, j, e => ⟨[], [], ⟨rfl, rfl⟩, Pt.nil w, by
      rw [List.drop_eq_nil_of_le (by omega)]
      rfl, fun q hq => by simp at hq, fun p hp => by simp at hp, fun _ _ => apart_nil⟩
  | n + 1, j, e => by
    have hj : j < xs.length := by omega
    obtain ⟨cs, hM, hc, hf⟩ := E j hj
    obtain ⟨s1, a1, sh1, p1, l1, x1, b1, q1⟩ := hb.el (g := g) (o := j * m.sz) hM (fun k hk => hk.2.1) hc hf
    obtain ⟨s2, a2, sh2, p2, l2, q2, b2, x2⟩ := row_n hb xs E n (j + 1) (by omega)
    have hmul : (j + 1) * m.sz = j * m.sz + m.sz := Nat.succ_mul _ _
    refine ⟨s1 ++ s2, a1 ++ a2, ⟨s1, a1, s2, a2, sh1, sh2, rfl, rfl⟩, p1.app p2, by rw [List.length_append, l1, l2, tot_drop c xs j hj], fun q hq => (List.mem_append.1 hq).elim (fun h => (q1 q h).imp_right (·.1)) (q2 q), ?_, ?_⟩
    · intro p hp
      rcases List.mem_append.1 hp with hp | hp
      · rcases b1 p hp with hp' | hp'
        · exact .inl ⟨hp'.1, hp'.2.1⟩
        · exact .inr ⟨hp'.1.1, hp'.1.2.1, j, Nat.le_refl _, hp'.1.2.2, hj, hp'.2⟩
      · rcases b2 p hp with hp' | ⟨h1, h2, i, hi, hq, hl, hn⟩
        · exact .inl ⟨hp'.1, by omega⟩
        · exact .inr ⟨h1, h2, i, by omega, hq, hl, hn⟩
    · intro y1 y2
      refine apart_app (x1 (y1 _ (List.getElem_mem hj))) (x2 y1 y2) (fun p hp q hq e => ?_)
      rcases b1 p hp with hp' | hp'
      · rcases b2 q hq with hq' | hq'
        · omega
        · exact hq'.2.1 (by rw [← e.1]; exact hp'.1)
      · rcases b2 q hq with hq' | ⟨_, _, i, hi, hqi, hl, hn⟩
        · exact hp'.1.2.1 (by rw [e.1]; exact hq'.1)
        · rcases y2 with y2 | y2
          · have := y2 j i p.1 hp'.1.2.2 (by rw [e.1]; exact hqi)
            omega
          · exact hn (y2 _ (List.getElem_mem hl))
theorem row_R (hb : Br d m c inn ex) {e base : Nat} {w : World} {ok : Nat → Prop} {v : Value} {xs : List α} (h : d.R e w base ok v xs) :
    ∃ hs ps, m.Row v hs ps ∧ Pt w hs ps ∧ ps.length = tot c xs ∧ (∀ q ∈ hs, ok q.1.1) ∧ (∀ p ∈ ps, ok p.1 ∧ (some p.1 = v.ownBlock ∨ ∃ x ∈ xs, inn x ≠ 0)) ∧ ((∀ x ∈ xs, ex x) → (∀ x ∈ xs, inn x = 0) → apart ps) := by
  obtain ⟨A, cp, rfl, hle, hC⟩ := Kd.R_reads h
  have hmax : xs.length ≤ 9223372036854775807 := hC.2.1
  by_cases hp : 0 < xs.length
  · obtain ⟨g, cap, he, _, _, _⟩ := Kd.R_form h hp
    injection he with h1 h2 h3
    subst h1
    obtain ⟨z⟩ : Nonempty α := ⟨xs[0]⟩
    obtain ⟨hs, ps, hN, hPt, hl, hq0, hbk, hx⟩ := row_n hb (g := g) (ok := ok) (Q := fun _ _ => True) (base := base) (w := w) xs (fun i hi => by
      obtain ⟨cs, _, hM, hc, hf⟩ := Kd.R_elem h z (i : Int) (by omega) (by omega)
      rw [Int.toNat_natCast] at hM hc hf
      rw [List.getD_eq_getElem?_getD, List.getElem?_eq_getElem hi, Option.getD_some] at hM
      rw [← hb.sz] at hc hf
      exact ⟨cs, d.M_mono (fun k hk => ⟨hk.1, hk.2, trivial⟩) hM, hc, hf⟩) xs.length 0 (by omega)
    refine ⟨hs, ps, ⟨_, _, _, rfl, hle, hmax, .inr ⟨g, rfl, hN⟩⟩, hPt, by rw [hl, List.drop_zero], fun q hq => (hq0 q hq).elim (fun e => by rw [e]; exact h.1 g rfl) id, fun p hp => ?_, fun y1 y2 => hx y1 (.inr y2)⟩
    rcases hbk p hp with hp' | ⟨hp', _, i, _, _, hl, hn⟩
    · exact ⟨by rw [hp'.1]; exact h.1 g rfl, .inl (by rw [hp'.1]; rfl)⟩
    · exact ⟨hp', .inr ⟨_, List.getElem_mem hl, hn⟩⟩
  · have h0 : xs = [] := List.eq_nil_of_length_eq_zero (by omega)
    subst h0
    exact ⟨[], [], ⟨_, _, _, rfl, hle, hmax, .inl ⟨rfl, rfl, rfl⟩⟩, Pt.nil w, rfl, fun q hq => by simp at hq, fun p hp => by simp at hp, fun _ _ => apart_nil⟩
theorem Br.slice (hb : Br d m c inn ex) (e : Nat) (h0 : ∀ x, inn x = 0) : Br (Kd.slice e d) (Md.slice m) (fun xs => tot c xs) (fun xs => tot c xs) (fun xs => ∀ x ∈ xs, ex x) where
  sz := rfl
  el := by
    rintro w base ok x cs g o ⟨v, rfl, hR⟩ hg hc hf
    obtain ⟨hs, ps, hr, hPt, hl, hq0, hbk, hx⟩ := row_R hb hR
    obtain ⟨A, n, cp, hv, _⟩ := hr
    refine ⟨((g, o), v) :: hs, ps, ⟨v, hs, ⟨A, n, cp, hv, by assumption⟩, rfl⟩, ⟨fun q hq => ?_, hPt.a⟩, hl, fun y => hx y (fun x _ => h0 x), fun p hp => .inr ⟨(hbk p hp).1, ?_⟩, fun q hq => ?_⟩
    · rcases List.mem_cons.1 hq with rfl | hq
      · exact ⟨hc 0 _ rfl, A, n, cp, hv⟩
      · exact hPt.h q hq
    · show tot c x ≠ 0
      have := List.length_pos_of_mem hp
      omega
    · rcases List.mem_cons.1 hq with rfl | hq
      · exact .inl rfl
      · exact .inr (hq0 q hq)
end
structure Sg (w : World) (k : Int) (wr : World) (pre : List Pl) (hs : List ((Nat × Nat) × Value)) (ps : List Pl) (kk : Int) : Prop where
  ek : kk = k + (pre.length : Int)
  pt : Pt wr hs ps
  wr : Wr w wr pre k
namespace Sg
variable {w wr w2 : World} {k kk : Int} {pre ps qs a1 a2 : List Pl} {hs h1 h2 : List ((Nat × Nat) × Value)}
theorem start (h : Pt w hs ps) (k : Int) : Sg w k w [] hs ps k := ⟨by simp, h, Wr.refl w k⟩
theorem put (h : Sg w k wr pre hs ps kk) {b o : Nat} {t : Bool} (hm : (b, o, t) ∈ ps) {v : Value} (hv : v = mkv t kk) : Sg w k (wr.setCell ⟨b, o, none⟩ v) (pre ++ [(b, o, t)]) hs ps (kk + 1) := by
  subst hv
  refine ⟨by rw [h.ek, List.length_append, List.length_singleton]; omega, h.pt.set (p := (b, o, t)) (h.pt.a _ hm) kk, h.wr.put (b, o, t) h.ek⟩
theorem call (h : Sg w k wr pre hs ps kk) (hw : Wr wr w2 qs kk) (hq : ∀ q ∈ qs, q ∈ ps) : Sg w k w2 (pre ++ qs) hs ps (kk + (qs.length : Int)) :=
  ⟨by rw [h.ek, List.length_append]; omega, h.pt.wr hw (fun p hp => h.pt.a p (hq p hp)), h.wr.trans hw h.ek⟩
theorem below (h : Sg w k wr pre hs ps kk) (hb : Below wr.heap.size wr w2) : Sg w k w2 pre hs ps kk := ⟨h.ek, h.pt.below hb, h.wr.below hb⟩
theorem rest (h : Sg w k wr pre (h1 ++ h2) (a1 ++ a2) kk) : Sg w k wr pre h2 a2 kk := ⟨h.ek, h.pt.right, h.wr⟩
theorem cell (h : Sg w k wr pre hs ps kk) {b o : Nat} {t : Bool} (hm : (b, o, t) ∈ ps) : ∃ u, wr.cell? ⟨b, o, none⟩ = some u ∧ wr.frozen? ⟨b, o, none⟩ = false := by
  obtain ⟨⟨u, hu, _⟩, hf⟩ := h.pt.a _ hm
  exact ⟨u, hu, hf⟩
theorem head (h : Sg w k wr pre hs ps kk) {b o : Nat} {v : Value} (hm : ((b, o), v) ∈ hs) : wr.cell? ⟨b, o, none⟩ = some v := (h.pt.h _ hm).1
end Sg
theorem Wr.after {w wb w2 : World} {ps : List Pl} {k : Int} (hb : Below w.heap.size w wb) (h : Wr wb w2 ps k) : Wr w w2 ps k :=
  ⟨h.os.trans hb.os, h.tape.trans hb.tape, h.output.trans hb.output, Nat.le_trans hb.size h.size, fun i hi =>
    (h.block i (Nat.lt_of_lt_of_le hi hb.size)).trans (puts_cong ps k (hb.block i hi))⟩
structure Sq (w : World) (k : Int) (wr : World) (pre : List Pl) (hs : List ((Nat × Nat) × Value)) (ps : List Pl) (kk : Int) : Prop where
  ek : kk = k + (pre.length : Int)
  pt : Pt wr hs ps
  hd : Hs wr ps kk
  bl : Below w.heap.size w wr
namespace Sq
variable {w wr w2 : World} {k kk : Int} {pre ps qs a1 a2 : List Pl} {hs h1 h2 : List ((Nat × Nat) × Value)} {p : Pl}
theorem start (h : Pt w hs ps) (g : Hs w ps k) : Sq w k w [] hs ps k := ⟨by simp, h, g, Below.refl _ _⟩
theorem cell {b o : Nat} {t : Bool} (h : Sq w k wr pre hs ((b, o, t) :: ps) kk) : wr.cell? ⟨b, o, none⟩ = some (mkv t kk) := h.hd.head (p := (b, o, t))
theorem call (h : Sq w k wr pre hs (a1 ++ a2) kk) (hb : Below wr.heap.size wr w2) : Sq w k w2 (pre ++ a1) hs a2 (kk + (a1.length : Int)) :=
  ⟨by rw [h.ek, List.length_append]; omega, ⟨(h.pt.below hb).h, fun q hq => (h.pt.below hb).a q (List.mem_append_right _ hq)⟩, h.hd.right.below hb, h.bl.trans (hb.mono h.bl.size)⟩
theorem head (h : Sq w k wr pre hs ps kk) {b o : Nat} {v : Value} (hm : ((b, o), v) ∈ hs) : wr.cell? ⟨b, o, none⟩ = some v := (h.pt.h _ hm).1
end Sq
end Go.Proofs.Ytfdgmknjmljhbaa.Mk
end
section
namespace Go.Proofs.Ytfdgmknjmljhbaa.Sz
open Go.RowKit Go.Proofs.Ytfdgmknjmljhbaa.P Go.Proofs.YtfdgmknjmljhbaaW.PrintWords Go.Proofs.YtfdgmknjmljhbaaW.PrintLast Go.Proofs.YtfdgmknjmljhbaaW.PrintMore
open Go.Proofs.Ytfdgmknjmljhbaa.Pl Go.Proofs.Ytfdgmknjmljhbaa.EvN Go.Proofs.Ytfdgmknjmljhbaa.Lp Go.Proofs.Ytfdgmknjmljhbaa.Hs
set_option linter.unusedVariables false
set_option linter.unusedSimpArgs false
end Go.Proofs.Ytfdgmknjmljhbaa.Sz
end
section
namespace Go.Proofs.Ytfdgmknjmljhbaa.Mk
open Go.RowKit Go.Proofs.Ytfdgmknjmljhbaa.P Go.Proofs.YtfdgmknjmljhbaaW.PrintWords Go.Proofs.YtfdgmknjmljhbaaW.PrintLast Go.Proofs.YtfdgmknjmljhbaaW.PrintMore
set_option linter.unusedVariables false
set_option linter.unusedSimpArgs false
end Go.Proofs.Ytfdgmknjmljhbaa.Mk
end
section
namespace Go.Proofs.Ytfdgmknjmljhbaa.NewRd
open Go.RowKit Go.Proofs.Ytfdgmknjmljhbaa.P Go.Proofs.YtfdgmknjmljhbaaW.PrintWords Go.Proofs.YtfdgmknjmljhbaaW.PrintLast Go.Proofs.YtfdgmknjmljhbaaW.PrintMore
open Go.Proofs.Ytfdgmknjmljhbaa.Pl Go.Proofs.Ytfdgmknjmljhbaa.EvN Go.Proofs.Ytfdgmknjmljhbaa.Lp Go.Proofs.Ytfdgmknjmljhbaa.Hs Go.Proofs.Ytfdgmknjmljhbaa.Hg Go.Proofs.Ytfdgmknjmljhbaa.Mem
set_option linter.unusedVariables false
set_option linter.unusedSimpArgs false
def rdr (m : Nat) : S71 := ⟨false, 0, [], List.replicate m 0⟩
def okEnd (e : Int) : Bool := decide (0 ≤ e ∧ e ≤ 100)
theorem five {a : Int} (h : 1 ≤ a ∧ a ≤ 5) : a = 1 ∨ a = 2 ∨ a = 3 ∨ a = 4 ∨ a = 5 := by omega
theorem impl_l0 {n : Int} (h : 1 ≤ n ∧ n ≤ 5) (l a b : List Int) (hl : l.length ≤ 6) : Cm (fun k => impl_newReaders.l0 k l n 0 0 [] a b) (0, List.replicate n.toNat (rdr l.length), a, b, true) := by
  have h1 : l.length ≤ 35184372088832 := by omega
  rcases five h with rfl | rfl | rfl | rfl | rfl <;> exact ⟨10, fun k hk => by obtain ⟨m, rfl⟩ : ∃ m, k = m + 10 := ⟨k - 10, by omega⟩; simp [impl_newReaders.l0, wrap64, rdr, List.replicate, h1]⟩
theorem anyEnd_f_index (l : List Int) (hl : l.length ≤ 4611686018427387904) (p : Int → Bool) (hc : ∀ h ∈ l, Cm (fun k => impl_newReaders_1.f h) (p h)) :
    Cm (fun k => slices_IndexFunc_int_int_of_impl_newReaders_1.f k l) (foundAt p (fun i _ => (i : Int)) (-1) 0 l) := by
  unfold slices_IndexFunc_int_int_of_impl_newReaders_1.f
  refine find_cm (L := fun k i => slices_IndexFunc_int_int_of_impl_newReaders_1.l0 k l (l.length : Int) i) l p (fun i _ => (i : Int)) (none_ := (-1 : Int)) ?_ ?_ ?_
  · intro pre h t e hlt hp v hv
    refine cm_step (fun k => by rw [slices_IndexFunc_int_int_of_impl_newReaders_1.l0]) ?_
    simp only [rd_at e, wrap_len hlt hl]
    refine cm_yes (by omega) (cm_yes (by omega) (cm_yes (by omega) (cm_bind (hc h (by rw [← e]; simp)) ?_)))
    exact cm_no (by simpa using hp) hv
  · intro pre h t e hlt hp
    refine cm_step (fun k => by rw [slices_IndexFunc_int_int_of_impl_newReaders_1.l0]) ?_
    simp only [rd_at e, wrap_len hlt hl]
    refine cm_yes (by omega) (cm_yes (by omega) (cm_yes (by omega) (cm_bind (hc h (by rw [← e]; simp)) ?_)))
    exact cm_yes hp (cm_now fun _ => rfl)
  · refine cm_step (fun k => by rw [slices_IndexFunc_int_int_of_impl_newReaders_1.l0]) ?_
    exact cm_no (by omega) (cm_now fun _ => rfl)
theorem anyEnd_f (l : List Int) (hl : l.length ≤ 4611686018427387904) (p : Int → Bool) (hc : ∀ h ∈ l, Cm (fun k => impl_newReaders_1.f h) (p h)) : Cm (fun k => slices_ContainsFunc_int_int_of_impl_newReaders_1.f k l) (l.any p) := by
  unfold slices_ContainsFunc_int_int_of_impl_newReaders_1.f
  refine cm_bind (anyEnd_f_index l hl p hc) (cm_now fun _ => ?_)
  rw [found_any]
theorem any_not {α : Type} (p : α → Bool) : ∀ (l : List α), l.any (fun h => !p h) = !l.all p
  | [] => rfl
  | x :: l => by rw [List.any_cons, List.all_cons, any_not p l, Bool.not_and]
end Go.Proofs.Ytfdgmknjmljhbaa.NewRd
end
section
namespace Go.Proofs.Ytfdgmknjmljhbaa.Rd
open Go.RowKit Go.Proofs.Ytfdgmknjmljhbaa.P Go.Proofs.YtfdgmknjmljhbaaW.PrintWords Go.Proofs.YtfdgmknjmljhbaaW.PrintLast Go.Proofs.YtfdgmknjmljhbaaW.PrintMore
open Go.Proofs.Ytfdgmknjmljhbaa.Pl Go.Proofs.Ytfdgmknjmljhbaa.EvN Go.Proofs.Ytfdgmknjmljhbaa.Lp Go.Proofs.Ytfdgmknjmljhbaa.Sets Go.Proofs.Ytfdgmknjmljhbaa.Hs Go.Proofs.Ytfdgmknjmljhbaa.Hg Go.Proofs.Ytfdgmknjmljhbaa.Mem
set_option linter.unusedVariables false
set_option linter.unusedSimpArgs false
theorem spec_tail (gen : Int) (rs : List S71) (com ends : List Int) (hr : rs.length ≤ 4611686018427387904) (he : ends.length ≤ 6) {j : Nat} (hj : j < rs.length) {y : S71} (hy : smReader y) (hd : headR gen ends.length y) :
    ∃ b, Cm (fun k => spec_l14Reader.j0 k (j : Int) false gen rs com ends y.f0 y.f1 y.f2 y.f3) b ∧ (b = true ↔ (∀ p, p < ends.length → readR ends y p) ∧ (y.f0 = true → y.f1 = gen → y.f2 = share rs ends.length j)) := by
  obtain ⟨d1, d2, d3, d4⟩ := hd
  obtain ⟨_, _, h2, h3⟩ := hy
  have step : ∀ i, i < ends.length → readR ends y i → ∀ u, Cm (fun k => spec_l14Reader.l0 k (j : Int) y.f3 (y.f3.length : Int) ((i + 1 : Nat) : Int) gen rs com ends y.f0 y.f1 y.f2 y.f3) u → Cm (fun k => spec_l14Reader.l0 k (j : Int) y.f3 (y.f3.length : Int) (i : Int) gen rs com ends y.f0 y.f1 y.f2 y.f3) u := by
    intro i hi q u hu
    refine cm_step (fun k => by rw [spec_l14Reader.l0]) ?_
    simp only [wrap_n hi (show ends.length ≤ 4611686018427387904 by omega)]
    refine cm_yes (by omega) (cm_yes (by omega) (cm_yes (by omega) (cm_yes (by omega) (cm_bind (cm_now fun _ => l1In_f _ _ _) (cm_yes (by simpa using q.1) (cm_bind (has_f y.f2 (i : Int) h2) (cm_if (fun c => hu) (fun c => ?_))))))))
    simp only [decide_eq_true_eq] at c
    exact cm_yes (q.2.resolve_left c) hu
  by_cases hq : ∀ p, p < ends.length → readR ends y p
  · by_cases c0 : y.f0 = true
    · by_cases c1 : y.f1 = gen
      · refine ⟨decide (y.f2 = share rs ends.length j), ?_, by rw [decide_eq_true_eq]; exact ⟨fun e => ⟨hq, fun _ _ => e⟩, fun e => e.2 c0 c1⟩⟩
        refine cm_step (fun k => by rw [spec_l14Reader.j0]) ?_
        refine cm_no (by simp) (yes_cm (L := fun k i => spec_l14Reader.l0 k (j : Int) y.f3 (y.f3.length : Int) i gen rs com ends y.f0 y.f1 y.f2 y.f3) ends.length (fun i hi => step i hi (hq i hi)) ?_)
        refine cm_step (fun k => by rw [spec_l14Reader.l0]) ?_
        exact cm_no (by omega) (cm_yes c0 (cm_yes c1 (cm_bind (specShare_f gen rs com ends hr (by omega) hj) (cm_bind (same_f y.f2 _ h2 (by have := picksN_le (one rs j) ends.length; unfold share; omega) d2 (picksN_rises _ _)) (cm_now fun _ => rfl)))))
      · refine ⟨true, ?_, by simp only [true_iff]; exact ⟨hq, fun _ e => absurd e c1⟩⟩
        refine cm_step (fun k => by rw [spec_l14Reader.j0]) ?_
        refine cm_no (by simp) (yes_cm (L := fun k i => spec_l14Reader.l0 k (j : Int) y.f3 (y.f3.length : Int) i gen rs com ends y.f0 y.f1 y.f2 y.f3) ends.length (fun i hi => step i hi (hq i hi)) ?_)
        refine cm_step (fun k => by rw [spec_l14Reader.l0]) ?_
        exact cm_no (by omega) (cm_yes c0 (cm_no c1 (cm_now fun _ => rfl)))
    · refine ⟨true, ?_, by simp only [true_iff]; exact ⟨hq, fun e _ => absurd e c0⟩⟩
      refine cm_step (fun k => by rw [spec_l14Reader.j0]) ?_
      refine cm_no (by simp) (yes_cm (L := fun k i => spec_l14Reader.l0 k (j : Int) y.f3 (y.f3.length : Int) i gen rs com ends y.f0 y.f1 y.f2 y.f3) ends.length (fun i hi => step i hi (hq i hi)) ?_)
      refine cm_step (fun k => by rw [spec_l14Reader.l0]) ?_
      exact cm_no (by omega) (cm_no c0 (cm_now fun _ => rfl))
  · refine ⟨false, ?_, by simp only [Bool.false_eq_true, false_iff]; exact fun e => hq e.1⟩
    refine cm_step (fun k => by rw [spec_l14Reader.j0]) ?_
    refine cm_no (by simp) (no_cm (L := fun k i => spec_l14Reader.l0 k (j : Int) y.f3 (y.f3.length : Int) i gen rs com ends y.f0 y.f1 y.f2 y.f3) ends.length (fun i => readR ends y i) step ?_ hq)
    intro i hi q
    refine cm_step (fun k => by rw [spec_l14Reader.l0]) ?_
    refine cm_yes (by omega) (cm_yes (by omega) (cm_yes (by omega) (cm_yes (by omega) (cm_bind (cm_now fun _ => l1In_f _ _ _) (cm_if (fun c => cm_bind (has_f y.f2 (i : Int) h2) (cm_if (fun c2 => ?_) (fun c2 => cm_no (fun c3 => ?_) (cm_now fun _ => rfl)))) (fun c => cm_now fun _ => rfl))))))
    · simp only [decide_eq_true_eq] at c c2
      exact absurd ⟨c, .inl c2⟩ q
    · simp only [decide_eq_true_eq] at c c2
      exact q ⟨c, .inr c3⟩
theorem specReader_f (gen : Int) (rs : List S71) (com ends : List Int) (hr : rs.length ≤ 4611686018427387904) (he : ends.length ≤ 6) (hs : ∀ y ∈ rs, smReader y) {j : Nat} (hj : j < rs.length) :
    ∃ b, Cm (fun k => spec_l14Reader.f k gen rs com ends (j : Int)) b ∧ (b = true ↔ goodR gen rs ends j) := by
  have hy : smReader (rd_T71 rs (j : Int)) := hs _ (by rw [rd71 hj]; exact List.getElem_mem hj)
  obtain ⟨_, _, h2, h3⟩ := id hy
  unfold goodR
  generalize hyy : rd_T71 rs (j : Int) = y at *
  have no : Cm (fun k => spec_l14Reader.j0 k (j : Int) true gen rs com ends y.f0 y.f1 y.f2 y.f3) false := by
    refine cm_step (fun k => by rw [spec_l14Reader.j0]) ?_
    exact cm_yes rfl (cm_now fun _ => rfl)
  by_cases hd : headR gen ends.length y
  · obtain ⟨b, hb, hi⟩ := spec_tail gen rs com ends hr he hj hy hd
    refine ⟨b, ?_, by rw [hi]; exact ⟨fun e => ⟨hd, e⟩, fun e => e.2⟩⟩
    obtain ⟨d1, d2, d3, d4⟩ := hd
    unfold spec_l14Reader.f
    rw [hyy]
    refine cm_yes (by omega) (cm_yes (by omega) (cm_bind (cm_now fun _ => l1In_f _ _ _) (cm_yes (by simpa using d3) (cm_bind (group_f y.f2 _ h2) (cm_yes d2 (cm_yes (by omega) (cm_if (fun c => hb) (fun c => ?_))))))))
    have d5 := d4.resolve_left c
    refine cm_yes d5.1 ?_
    rw [show decide ((y.f2.length : Int) > 0) = false from decide_eq_false (by omega)]
    exact hb
  · refine ⟨false, ?_, by simp only [Bool.false_eq_true, false_iff]; exact fun e => hd e.1⟩
    unfold spec_l14Reader.f
    rw [hyy]
    refine cm_yes (by omega) (cm_yes (by omega) (cm_bind (cm_now fun _ => l1In_f _ _ _) (cm_if (fun c1 => cm_bind (group_f y.f2 _ h2) (cm_if (fun c2 => cm_if (fun c3 => cm_if (fun c4 => ?_) (fun c4 => cm_if (fun c5 => ?_) (fun c5 => no))) (fun c3 => no)) (fun c2 => no))) (fun c1 => no))))
    · simp only [decide_eq_true_eq] at c1
      exact absurd ⟨by omega, c2, c1, .inl c4⟩ hd
    · simp only [decide_eq_true_eq] at c1
      rw [show decide ((y.f2.length : Int) > 0) = true from decide_eq_true (by
        have : ¬ y.f2.length = 0 := fun z => hd ⟨by omega, c2, c1, .inr ⟨c5, z⟩⟩
        omega)]
      exact no
theorem specGood_f (gen : Int) (rs : List S71) (com ends : List Int) (hr : rs.length ≤ 4611686018427387904) (hc : com.length ≤ 4611686018427387904) (he : ends.length ≤ 4611686018427387904) (hs : ∀ y ∈ rs, smReader y) :
    ∃ b, Cm (fun k => spec_GoodReaders.f k gen rs com ends) b ∧ (b = true ↔ good gen rs com ends) := by
  have no : Cm (fun k => spec_GoodReaders.j0 k true gen rs com ends) false := by
    refine cm_step (fun k => by rw [spec_GoodReaders.j0]) ?_
    exact cm_yes rfl (cm_now fun _ => rfl)
  by_cases ht : topR gen rs com ends
  · have hd := ht
    obtain ⟨⟨t1, t2⟩, t3, t4⟩ := ht
    have step : ∀ i, i < ends.length → endR com ends i → ∀ u, Cm (fun k => spec_GoodReaders.l0 k ends (ends.length : Int) ((i + 1 : Nat) : Int) gen rs com ends) u → Cm (fun k => spec_GoodReaders.l0 k ends (ends.length : Int) (i : Int) gen rs com ends) u := by
      intro i hi q u hu
      refine cm_step (fun k => by rw [spec_GoodReaders.l0]) ?_
      simp only [wrap_n hi he]
      exact cm_yes (by omega) (cm_yes (by omega) (cm_yes (by omega) (cm_bind (cm_now fun _ => l1In_f _ _ _) (cm_yes (by simpa using q.1) (cm_yes (by omega) (cm_bind (cm_now fun _ => l1In_f _ _ _) (cm_yes (by simpa using q.2) hu)))))))
    have step2 : ∀ i, i < rs.length → goodR gen rs ends i → ∀ u, Cm (fun k => spec_GoodReaders.l1 k (rs.length : Int) ((i + 1 : Nat) : Int) gen rs com ends) u → Cm (fun k => spec_GoodReaders.l1 k (rs.length : Int) (i : Int) gen rs com ends) u := by
      intro i hi q u hu
      obtain ⟨b, hb, hbi⟩ := specReader_f gen rs com ends hr t2.2 hs hi
      refine cm_step (fun k => by rw [spec_GoodReaders.l1]) ?_
      simp only [wrap_n hi hr]
      exact cm_yes (by omega) (cm_bind hb (cm_yes (hbi.2 q) hu))
    have start : ∀ {b : Bool}, Cm (fun k => spec_GoodReaders.l0 k ends (ends.length : Int) 0 gen rs com ends) b → Cm (fun k => spec_GoodReaders.f k gen rs com ends) b := by
      intro b hb
      unfold spec_GoodReaders.f
      refine cm_bind (cm_now fun _ => l1In_f _ _ _) (cm_yes (by simp; omega) (cm_bind (cm_now fun _ => l1In_f _ _ _) (cm_yes (by simp; omega) (cm_yes (by omega) (cm_bind (cm_now fun _ => l1In_f _ _ _) ?_)))))
      refine cm_step (fun k => by rw [spec_GoodReaders.j0]) ?_
      exact cm_no (by simp; omega) hb
    by_cases hq : ∀ p, p < ends.length → endR com ends p
    · by_cases hg : ∀ j, j < rs.length → goodR gen rs ends j
      · refine ⟨true, start (yes_cm (L := fun k i => spec_GoodReaders.l0 k ends (ends.length : Int) i gen rs com ends) ends.length (fun i hi => step i hi (hq i hi)) ?_), by simp only [true_iff]; exact ⟨hd, hq, hg⟩⟩
        refine cm_step (fun k => by rw [spec_GoodReaders.l0]) ?_
        refine cm_no (by omega) (yes_cm (L := fun k i => spec_GoodReaders.l1 k (rs.length : Int) i gen rs com ends) rs.length (fun i hi => step2 i hi (hg i hi)) ?_)
        refine cm_step (fun k => by rw [spec_GoodReaders.l1]) ?_
        exact cm_no (by omega) (cm_now fun _ => rfl)
      · refine ⟨false, start (yes_cm (L := fun k i => spec_GoodReaders.l0 k ends (ends.length : Int) i gen rs com ends) ends.length (fun i hi => step i hi (hq i hi)) ?_), by simp only [Bool.false_eq_true, false_iff]; exact fun e => hg e.2.2⟩
        refine cm_step (fun k => by rw [spec_GoodReaders.l0]) ?_
        refine cm_no (by omega) (no_cm (L := fun k i => spec_GoodReaders.l1 k (rs.length : Int) i gen rs com ends) rs.length (fun i => goodR gen rs ends i) step2 ?_ hg)
        intro i hi q
        obtain ⟨b, hb, hbi⟩ := specReader_f gen rs com ends hr t2.2 hs hi
        refine cm_step (fun k => by rw [spec_GoodReaders.l1]) ?_
        exact cm_yes (by omega) (cm_bind hb (cm_no (fun z => q (hbi.1 z)) (cm_now fun _ => rfl)))
    · refine ⟨false, start (no_cm (L := fun k i => spec_GoodReaders.l0 k ends (ends.length : Int) i gen rs com ends) ends.length (fun i => endR com ends i) step ?_ hq), by simp only [Bool.false_eq_true, false_iff]; exact fun e => hq e.2.1⟩
      intro i hi q
      refine cm_step (fun k => by rw [spec_GoodReaders.l0]) ?_
      refine cm_yes (by omega) (cm_yes (by omega) (cm_yes (by omega) (cm_bind (cm_now fun _ => l1In_f _ _ _) (cm_if (fun c => cm_yes (by omega) (cm_bind (cm_now fun _ => l1In_f _ _ _) (cm_no (fun c2 => ?_) (cm_now fun _ => rfl)))) (fun c => cm_now fun _ => rfl)))))
      simp only [decide_eq_true_eq] at c c2
      exact q ⟨c, c2⟩
  · refine ⟨false, ?_, by simp only [Bool.false_eq_true, false_iff]; exact fun e => ht e.1⟩
    unfold spec_GoodReaders.f
    refine cm_bind (cm_now fun _ => l1In_f _ _ _) (cm_if (fun c1 => cm_bind (cm_now fun _ => l1In_f _ _ _) (cm_if (fun c2 => cm_if (fun c3 => cm_bind (cm_now fun _ => l1In_f _ _ _) ?_) (fun c3 => no)) (fun c2 => no))) (fun c1 => no))
    simp only [decide_eq_true_eq] at c1 c2
    rw [show decide (0 ≤ gen ∧ gen ≤ 1000) = false from decide_eq_false (fun z => ht ⟨⟨by omega, by omega⟩, by omega, z⟩)]
    exact no
end Go.Proofs.Ytfdgmknjmljhbaa.Rd
end
section
namespace Go.Proofs.Ytfdgmknjmljhbaa.Rd
open Go.RowKit Go.Proofs.Ytfdgmknjmljhbaa.P Go.Proofs.YtfdgmknjmljhbaaW.PrintWords Go.Proofs.YtfdgmknjmljhbaaW.PrintLast Go.Proofs.YtfdgmknjmljhbaaW.PrintMore
open Go.Proofs.Ytfdgmknjmljhbaa.Pl Go.Proofs.Ytfdgmknjmljhbaa.EvN Go.Proofs.Ytfdgmknjmljhbaa.Lp Go.Proofs.Ytfdgmknjmljhbaa.Sets Go.Proofs.Ytfdgmknjmljhbaa.Hs Go.Proofs.Ytfdgmknjmljhbaa.Hg Go.Proofs.Ytfdgmknjmljhbaa.Mem
set_option linter.unusedVariables false
set_option linter.unusedSimpArgs false
theorem ends_all (ends : List Int) : ends.all NewRd.okEnd = true ↔ ∀ p, p < ends.length → 0 ≤ rd ends (p : Int) ∧ rd ends (p : Int) ≤ 100 := by
  rw [List.all_eq_true]
  constructor
  · intro h p hp
    have := h _ (List.getElem_mem hp)
    rw [rdn hp]
    simpa [NewRd.okEnd] using this
  · intro h x hx
    obtain ⟨p, hp, rfl⟩ := List.mem_iff_getElem.1 hx
    have := h p hp
    rw [rdn hp] at this
    simpa [NewRd.okEnd] using this
theorem newFlag (n : Nat) (ends : List Int) (he : ends.length ≤ 4611686018427387904) : ∃ r, Cm (fun k => impl_newReaders.f k (n : Int) ends) r ∧ (r.2.2.2.2 = true ↔ ((1 ≤ n ∧ n ≤ 5) ∧ (1 ≤ ends.length ∧ ends.length ≤ 6)) ∧ ∀ p, p < ends.length → 0 ≤ rd ends (p : Int) ∧ rd ends (p : Int) ≤ 100) := by
  have any_f : Cm (fun k => slices_ContainsFunc_int_int_of_impl_newReaders_1.f k ends) (!ends.all NewRd.okEnd) := by
    rw [← NewRd.any_not]
    refine NewRd.anyEnd_f ends (by omega) (fun h => !NewRd.okEnd h) (fun h _ => cm_now fun _ => ?_)
    unfold impl_newReaders_1.f
    rw [in_f, Option.bind_some]
    rfl
  have no : Cm (fun k => impl_newReaders.j0 k (n : Int) ends true) (0, [], [], [], false) := by
    refine cm_step (fun k => by rw [impl_newReaders.j0]) ?_
    exact cm_yes rfl (cm_now fun _ => rfl)
  by_cases h : ((1 ≤ n ∧ n ≤ 5) ∧ (1 ≤ ends.length ∧ ends.length ≤ 6)) ∧ ∀ p, p < ends.length → 0 ≤ rd ends (p : Int) ∧ rd ends (p : Int) ≤ 100
  · obtain ⟨⟨h1, h2⟩, h3⟩ := id h
    refine ⟨(0, List.replicate (n : Int).toNat (NewRd.rdr ends.length), List.replicate ends.length 0, ends, true), ?_, by simp only [true_iff]; exact h⟩
    unfold impl_newReaders.f
    refine cm_bind (cm_now fun _ => in_f _ _ _) (cm_yes (by simp; omega) (cm_bind (cm_now fun _ => in_f _ _ _) (cm_yes (by simp; omega) (cm_bind any_f ?_))))
    rw [(ends_all ends).2 h3]
    refine cm_step (fun k => by rw [impl_newReaders.j0]) ?_
    refine cm_no (by simp) (cm_yes (by omega) (cm_yes (by omega) (cm_bind (cm_now fun _ => rfl) (cm_yes (by simp only [List.length_nil]; omega) ?_))))
    rw [Int.toNat_natCast ends.length, List.nil_append]
    exact NewRd.impl_l0 (by omega) ends _ ends h2.2
  · refine ⟨(0, [], [], [], false), ?_, by simp only [Bool.false_eq_true, false_iff]; exact h⟩
    unfold impl_newReaders.f
    refine cm_bind (cm_now fun _ => in_f _ _ _) (cm_if (fun c1 => cm_bind (cm_now fun _ => in_f _ _ _) (cm_if (fun c2 => cm_bind any_f ?_) (fun c2 => no))) (fun c1 => no))
    simp only [decide_eq_true_eq] at c1 c2
    have : ends.all NewRd.okEnd = false := by
      rw [Bool.eq_false_iff]
      exact fun z => h ⟨⟨by omega, by omega⟩, (ends_all ends).1 z⟩
    rw [this]
    exact no
theorem impl_tail (gen : Int) (rs : List S71) (com ends : List Int) (hr : rs.length ≤ 4611686018427387904) (he : ends.length ≤ 6) {j : Nat} (hj : j < rs.length) {y : S71} (hyy : rd_T71 rs (j : Int) = y) (hy : smReader y) (hd : headR gen ends.length y) :
    ((∀ p, p < ends.length → readR ends y p) → (y.f0 = true → y.f1 = gen → y.f2 = share rs ends.length j) → ∀ u, Cm (fun k => impl_areReaders.l1 k (ends.length : Int) rs (rs.length : Int) ((j + 1 : Nat) : Int) gen rs com ends) u →
        Cm (fun k => impl_areReaders.j3 k (ends.length : Int) (j : Int) rs (rs.length : Int) (j : Int) false gen rs com ends y.f0 y.f1 y.f2 y.f3) u) ∧
    (¬ ((∀ p, p < ends.length → readR ends y p) ∧ (y.f0 = true → y.f1 = gen → y.f2 = share rs ends.length j)) → Cm (fun k => impl_areReaders.j3 k (ends.length : Int) (j : Int) rs (rs.length : Int) (j : Int) false gen rs com ends y.f0 y.f1 y.f2 y.f3) false) := by
  obtain ⟨d1, d2, d3, d4⟩ := hd
  obtain ⟨_, _, h2, h3⟩ := hy
  have step : ∀ i, i < ends.length → readR ends y i → ∀ u, Cm (fun k => impl_areReaders.l2 k (ends.length : Int) (j : Int) rs (rs.length : Int) (j : Int) y.f3 (y.f3.length : Int) ((i + 1 : Nat) : Int) gen rs com ends y.f0 y.f1 y.f2 y.f3) u → Cm (fun k => impl_areReaders.l2 k (ends.length : Int) (j : Int) rs (rs.length : Int) (j : Int) y.f3 (y.f3.length : Int) (i : Int) gen rs com ends y.f0 y.f1 y.f2 y.f3) u := by
    intro i hi q u hu
    refine cm_step (fun k => by rw [impl_areReaders.l2]) ?_
    simp only [wrap_n hi (show ends.length ≤ 4611686018427387904 by omega)]
    refine cm_yes (by omega) (cm_yes (by omega) (cm_yes (by omega) (cm_yes (by omega) (cm_bind (cm_now fun _ => in_f _ _ _) (cm_yes (by simpa using q.1) (cm_if (fun c => hu) (fun c => cm_bind (contains_f y.f2 (i : Int) h2) (cm_yes (by simpa using q.2.resolve_right c) hu))))))))
  have run : (∀ p, p < ends.length → readR ends y p) → ∀ {u : Bool}, Cm (fun k => impl_areReaders.l2 k (ends.length : Int) (j : Int) rs (rs.length : Int) (j : Int) y.f3 (y.f3.length : Int) (ends.length : Int) gen rs com ends y.f0 y.f1 y.f2 y.f3) u → Cm (fun k => impl_areReaders.j3 k (ends.length : Int) (j : Int) rs (rs.length : Int) (j : Int) false gen rs com ends y.f0 y.f1 y.f2 y.f3) u := by
    intro hq u hu
    refine cm_step (fun k => by rw [impl_areReaders.j3]) ?_
    exact cm_no (by simp) (yes_cm (L := fun k i => impl_areReaders.l2 k (ends.length : Int) (j : Int) rs (rs.length : Int) (j : Int) y.f3 (y.f3.length : Int) i gen rs com ends y.f0 y.f1 y.f2 y.f3) ends.length (fun i hi => step i hi (hq i hi)) hu)
  constructor
  · intro hq hc u hu
    refine run hq ?_
    refine cm_step (fun k => by rw [impl_areReaders.l2]) ?_
    simp only [wrap_n hj hr]
    refine cm_no (by omega) (cm_if (fun c0 => cm_if (fun c1 => ?_) (fun c1 => hu)) (fun c0 => hu))
    exact cm_bind (implShare_f gen rs com ends hr (by omega) hj (by rw [hyy]; exact c0)) (cm_bind (equal_f y.f2 _ h2) (cm_yes (by simpa using hc c0 c1) hu))
  · intro h
    by_cases hq : ∀ p, p < ends.length → readR ends y p
    · have hc : y.f0 = true ∧ y.f1 = gen ∧ ¬ y.f2 = share rs ends.length j := by
        by_cases c0 : y.f0 = true
        · by_cases c1 : y.f1 = gen
          · exact ⟨c0, c1, fun z => h ⟨hq, fun _ _ => z⟩⟩
          · exact absurd ⟨hq, fun _ z => absurd z c1⟩ h
        · exact absurd ⟨hq, fun z _ => absurd z c0⟩ h
      refine run hq ?_
      refine cm_step (fun k => by rw [impl_areReaders.l2]) ?_
      exact cm_no (by omega) (cm_yes hc.1 (cm_yes hc.2.1 (cm_bind (implShare_f gen rs com ends hr (by omega) hj (by rw [hyy]; exact hc.1)) (cm_bind (equal_f y.f2 _ h2) (cm_no (by simpa using hc.2.2) (cm_now fun _ => rfl))))))
    · refine cm_step (fun k => by rw [impl_areReaders.j3]) ?_
      refine cm_no (by simp) (no_cm (L := fun k i => impl_areReaders.l2 k (ends.length : Int) (j : Int) rs (rs.length : Int) (j : Int) y.f3 (y.f3.length : Int) i gen rs com ends y.f0 y.f1 y.f2 y.f3) ends.length (fun i => readR ends y i) step ?_ hq)
      intro i hi q
      refine cm_step (fun k => by rw [impl_areReaders.l2]) ?_
      refine cm_yes (by omega) (cm_yes (by omega) (cm_yes (by omega) (cm_yes (by omega) (cm_bind (cm_now fun _ => in_f _ _ _) (cm_if (fun c => cm_no (fun c2 => ?_) (cm_bind (contains_f y.f2 (i : Int) h2) (cm_no (fun c2 => ?_) (cm_now fun _ => rfl)))) (fun c => cm_now fun _ => rfl))))))
      · simp only [decide_eq_true_eq] at c
        exact q ⟨c, .inr c2⟩
      · simp only [decide_eq_true_eq] at c c2
        exact q ⟨c, .inl c2⟩
theorem impl_round (gen : Int) (rs : List S71) (com ends : List Int) (hr : rs.length ≤ 4611686018427387904) (he : ends.length ≤ 6) (hs : ∀ y ∈ rs, smReader y) {j : Nat} (hj : j < rs.length) :
    (goodR gen rs ends j → ∀ u, Cm (fun k => impl_areReaders.l1 k (ends.length : Int) rs (rs.length : Int) ((j + 1 : Nat) : Int) gen rs com ends) u → Cm (fun k => impl_areReaders.l1 k (ends.length : Int) rs (rs.length : Int) (j : Int) gen rs com ends) u) ∧
    (¬ goodR gen rs ends j → Cm (fun k => impl_areReaders.l1 k (ends.length : Int) rs (rs.length : Int) (j : Int) gen rs com ends) false) := by
  have hy : smReader (rd_T71 rs (j : Int)) := hs _ (by rw [rd71 hj]; exact List.getElem_mem hj)
  obtain ⟨_, _, h2, h3⟩ := id hy
  unfold goodR
  generalize hyy : rd_T71 rs (j : Int) = y at *
  have no : Cm (fun k => impl_areReaders.j3 k (ends.length : Int) (j : Int) rs (rs.length : Int) (j : Int) true gen rs com ends y.f0 y.f1 y.f2 y.f3) false := by
    refine cm_step (fun k => by rw [impl_areReaders.j3]) ?_
    exact cm_yes rfl (cm_now fun _ => rfl)
  have go : headR gen ends.length y → ∀ {u : Bool}, Cm (fun k => impl_areReaders.j3 k (ends.length : Int) (j : Int) rs (rs.length : Int) (j : Int) false gen rs com ends y.f0 y.f1 y.f2 y.f3) u → Cm (fun k => impl_areReaders.l1 k (ends.length : Int) rs (rs.length : Int) (j : Int) gen rs com ends) u := by
    intro hd u hu
    obtain ⟨d1, d2, d3, d4⟩ := hd
    refine cm_step (fun k => by rw [impl_areReaders.l1]) ?_
    rw [hyy]
    refine cm_yes (by omega) (cm_yes (by omega) (cm_yes (by omega) (cm_yes (by omega) (cm_bind (areMembers_f y.f2 _ h2 (by omega)) (cm_yes d2 (cm_bind (cm_now fun _ => in_f _ _ _) (cm_yes (by simpa using d3) (cm_if (fun c => hu) (fun c => ?_)))))))))
    have d5 := d4.resolve_left c
    refine cm_yes d5.1 ?_
    rw [show decide ((y.f2.length : Int) > 0) = false from decide_eq_false (by omega)]
    exact hu
  constructor
  · rintro ⟨hd, hq, hc⟩ u hu
    exact go hd ((impl_tail gen rs com ends hr he hj hyy hy hd).1 hq hc u hu)
  · intro h
    by_cases hd : headR gen ends.length y
    · exact go hd ((impl_tail gen rs com ends hr he hj hyy hy hd).2 (fun z => h ⟨hd, z⟩))
    · refine cm_step (fun k => by rw [impl_areReaders.l1]) ?_
      rw [hyy]
      refine cm_yes (by omega) (cm_yes (by omega) (cm_yes (by omega) (cm_if (fun c3 => cm_bind (areMembers_f y.f2 _ h2 (by omega)) (cm_if (fun c2 => cm_bind (cm_now fun _ => in_f _ _ _) (cm_if (fun c1 => cm_if (fun c4 => ?_) (fun c4 => cm_if (fun c5 => ?_) (fun c5 => no))) (fun c1 => no))) (fun c2 => no))) (fun c3 => no))))
      · simp only [decide_eq_true_eq] at c1
        exact absurd ⟨by omega, c2, c1, .inl c4⟩ hd
      · simp only [decide_eq_true_eq] at c1
        rw [show decide ((y.f2.length : Int) > 0) = true from decide_eq_true (by
          have : ¬ y.f2.length = 0 := fun z => hd ⟨by omega, c2, c1, .inr ⟨c5, z⟩⟩
          omega)]
        exact no
theorem areReaders_f (gen : Int) (rs : List S71) (com ends : List Int) (hr : rs.length ≤ 4611686018427387904) (hc : com.length ≤ 4611686018427387904) (he : ends.length ≤ 4611686018427387904) (hs : ∀ y ∈ rs, smReader y) :
    ∃ b, Cm (fun k => impl_areReaders.f k gen rs com ends) b ∧ (b = true ↔ good gen rs com ends) := by
  obtain ⟨r, hn, hni⟩ := newFlag rs.length ends he
  have no : Cm (fun k => impl_areReaders.j0 k (ends.length : Int) true gen rs com ends) false := by
    refine cm_step (fun k => by rw [impl_areReaders.j0]) ?_
    exact cm_yes rfl (cm_now fun _ => rfl)
  by_cases ht : topR gen rs com ends ∧ ∀ p, p < ends.length → 0 ≤ rd ends (p : Int) ∧ rd ends (p : Int) ≤ 100
  · obtain ⟨hd, hE⟩ := ht
    obtain ⟨⟨t1, t2⟩, t3, t4⟩ := id hd
    have start : ∀ {b : Bool}, Cm (fun k => impl_areReaders.l0 k (ends.length : Int) com (com.length : Int) 0 gen rs com ends) b → Cm (fun k => impl_areReaders.f k gen rs com ends) b := by
      intro b hb
      unfold impl_areReaders.f
      refine cm_bind hn (cm_yes (hni.2 ⟨⟨t1, t2⟩, hE⟩) (cm_yes (by omega) (cm_bind (cm_now fun _ => in_f _ _ _) ?_)))
      refine cm_step (fun k => by rw [impl_areReaders.j0]) ?_
      exact cm_no (by simp; omega) hb
    have step : ∀ i, i < com.length → endR com ends i → ∀ u, Cm (fun k => impl_areReaders.l0 k (ends.length : Int) com (com.length : Int) ((i + 1 : Nat) : Int) gen rs com ends) u → Cm (fun k => impl_areReaders.l0 k (ends.length : Int) com (com.length : Int) (i : Int) gen rs com ends) u := by
      intro i hi q u hu
      refine cm_step (fun k => by rw [impl_areReaders.l0]) ?_
      simp only [wrap_n hi hc]
      exact cm_yes (by omega) (cm_yes (by omega) (cm_yes (by omega) (cm_yes (by omega) (cm_bind (cm_now fun _ => in_f _ _ _) (cm_yes (by simpa using q.2) hu)))))
    by_cases hq : ∀ p, p < com.length → endR com ends p
    · by_cases hg : ∀ j, j < rs.length → goodR gen rs ends j
      · refine ⟨true, start (yes_cm (L := fun k i => impl_areReaders.l0 k (ends.length : Int) com (com.length : Int) i gen rs com ends) com.length (fun i hi => step i hi (hq i hi)) ?_), by simp only [true_iff]; exact ⟨hd, fun p hp => hq p (by omega), hg⟩⟩
        refine cm_step (fun k => by rw [impl_areReaders.l0]) ?_
        refine cm_no (by omega) (yes_cm (L := fun k i => impl_areReaders.l1 k (ends.length : Int) rs (rs.length : Int) i gen rs com ends) rs.length (fun i hi => (impl_round gen rs com ends hr t2.2 hs hi).1 (hg i hi)) ?_)
        refine cm_step (fun k => by rw [impl_areReaders.l1]) ?_
        exact cm_no (by omega) (cm_now fun _ => rfl)
      · refine ⟨false, start (yes_cm (L := fun k i => impl_areReaders.l0 k (ends.length : Int) com (com.length : Int) i gen rs com ends) com.length (fun i hi => step i hi (hq i hi)) ?_), by simp only [Bool.false_eq_true, false_iff]; exact fun e => hg e.2.2⟩
        refine cm_step (fun k => by rw [impl_areReaders.l0]) ?_
        exact cm_no (by omega) (no_cm (L := fun k i => impl_areReaders.l1 k (ends.length : Int) rs (rs.length : Int) i gen rs com ends) rs.length (fun i => goodR gen rs ends i) (fun i hi => (impl_round gen rs com ends hr t2.2 hs hi).1) (fun i hi => (impl_round gen rs com ends hr t2.2 hs hi).2) hg)
    · refine ⟨false, start (no_cm (L := fun k i => impl_areReaders.l0 k (ends.length : Int) com (com.length : Int) i gen rs com ends) com.length (fun i => endR com ends i) step ?_ hq), by simp only [Bool.false_eq_true, false_iff]; exact fun e => hq (fun p hp => e.2.1 p (by omega))⟩
      intro i hi q
      refine cm_step (fun k => by rw [impl_areReaders.l0]) ?_
      refine cm_yes (by omega) (cm_yes (by omega) (cm_yes (by omega) (cm_yes (by omega) (cm_bind (cm_now fun _ => in_f _ _ _) (cm_no (fun c => ?_) (cm_now fun _ => rfl))))))
      simp only [decide_eq_true_eq] at c
      exact q ⟨hE i (by omega), c⟩
  · refine ⟨false, ?_, by simp only [Bool.false_eq_true, false_iff]; exact fun e => ht ⟨e.1, fun p hp => (e.2.1 p hp).1⟩⟩
    unfold impl_areReaders.f
    refine cm_bind hn (cm_if (fun c1 => cm_if (fun c2 => cm_bind (cm_now fun _ => in_f _ _ _) ?_) (fun c2 => no)) (fun c1 => no))
    have c3 := hni.1 c1
    rw [show decide (0 ≤ gen ∧ gen ≤ 1000) = false from decide_eq_false (fun z => ht ⟨⟨c3.1, by omega, z⟩, c3.2⟩)]
    exact no
theorem good_both (x : S25) (h : smReaders x) : ∃ b, Cm (fun k => spec_GoodReaders.f k x.f0 x.f1 x.f2 x.f3) b ∧ Cm (fun k => impl_areReaders.f k x.f0 x.f1 x.f2 x.f3) b ∧ (b = true ↔ good x.f0 x.f1 x.f2 x.f3) := by
  obtain ⟨_, ⟨h1, h1s⟩, h2, h3⟩ := h
  obtain ⟨b, hb, hbi⟩ := specGood_f x.f0 x.f1 x.f2 x.f3 h1 h2 h3 h1s
  obtain ⟨c, hc, hci⟩ := areReaders_f x.f0 x.f1 x.f2 x.f3 h1 h2 h3 h1s
  obtain rfl : b = c := by rw [Bool.eq_iff_iff, hbi, hci]
  exact ⟨b, hb, hc, hbi⟩
end Go.Proofs.Ytfdgmknjmljhbaa.Rd
end
section
namespace Go.Proofs.Ytfdgmknjmljhbaa.Rd
open Go.RowKit Go.Proofs.Ytfdgmknjmljhbaa.P Go.Proofs.YtfdgmknjmljhbaaW.PrintWords Go.Proofs.YtfdgmknjmljhbaaW.PrintLast Go.Proofs.YtfdgmknjmljhbaaW.PrintMore
open Go.Proofs.Ytfdgmknjmljhbaa.Pl Go.Proofs.Ytfdgmknjmljhbaa.EvN Go.Proofs.Ytfdgmknjmljhbaa.Lp Go.Proofs.Ytfdgmknjmljhbaa.Sets Go.Proofs.Ytfdgmknjmljhbaa.Hs Go.Proofs.Ytfdgmknjmljhbaa.Hg Go.Proofs.Ytfdgmknjmljhbaa.Mem
set_option linter.unusedVariables false
set_option linter.unusedSimpArgs false
theorem first_cm {ρ : Type} {L : Nat → Int → Option ρ} (n : Nat) (Q : Nat → Prop) (F : Nat → ρ) {none_ : ρ} (hn : ∀ i, i < n → ¬ Q i → ∀ u, Cm (fun k => L k ((i + 1 : Nat) : Int)) u → Cm (fun k => L k (i : Int)) u) (hy : ∀ i, i < n → Q i → Cm (fun k => L k (i : Int)) (F i)) (he : Cm (fun k => L k (n : Int)) none_) :
    ((∀ i, i < n → ¬ Q i) → Cm (fun k => L k 0) none_) ∧ ∀ i, i < n → Q i → (∀ j, j < i → ¬ Q j) → Cm (fun k => L k 0) (F i) := by
  refine ⟨fun h => yes_cm n (fun i hi => hn i hi (h i hi)) he, fun i hi q h => ?_⟩
  exact yes_cm (L := L) i (fun j hj => hn j (by omega) (h j hj)) (hy i hi q)
theorem least {n : Nat} {Q : Nat → Prop} (h : ¬ ∀ i, i < n → ¬ Q i) : ∃ i, i < n ∧ Q i ∧ ∀ j, j < i → ¬ Q j := by
  have key : ∀ m, m ≤ n → (∀ j, j < m → ¬ Q j) ∨ ∃ i, i < n ∧ Q i ∧ ∀ j, j < i → ¬ Q j := by
    intro m
    induction m with
    | zero => intro _; exact .inl (fun j hj => by omega)
    | succ m ih =>
      intro hm
      rcases ih (by omega) with h1 | h1
      · by_cases c : Q m
        · exact .inr ⟨m, by omega, c, h1⟩
        · refine .inl (fun j hj => ?_)
          rcases Nat.lt_succ_iff_lt_or_eq.1 hj with h2 | rfl
          · exact h1 j h2
          · exact c
      · exact .inr h1
  rcases key n (Nat.le_refl _) with h1 | h1
  · exact absurd h1 h
  · exact h1
def mine (gen : Int) (rs : List S71) (part : Int) (j : Nat) : Prop := (rd_T71 rs (j : Int)).f0 = true ∧ (rd_T71 rs (j : Int)).f1 = gen ∧ part ∈ (rd_T71 rs (j : Int)).f2
theorem sm_at {rs : List S71} (hs : ∀ y ∈ rs, smReader y) {j : Nat} (hj : j < rs.length) : smReader (rd_T71 rs (j : Int)) := hs _ (by rw [rd71 hj]; exact List.getElem_mem hj)
theorem owner_both (x : S25) (h : smReaders x) (part : Int) : ∃ v, Cm (fun k => spec_OwnerOf.f k x.f0 x.f1 x.f2 x.f3 part) v ∧ Cm (fun k => impl_OwnerOf.f k x.f0 x.f1 x.f2 x.f3 part) v := by
  obtain ⟨b, hb, hc, hi⟩ := good_both x h
  have no : Cm (fun k => spec_OwnerOf.j0 k part true x.f0 x.f1 x.f2 x.f3) (0, false) := by
    refine cm_step (fun k => by rw [spec_OwnerOf.j0]) ?_
    exact cm_yes rfl (cm_now fun _ => rfl)
  by_cases g : b = true
  · have hg := hi.1 g
    have hr := h.2.1.1
    have hs := h.2.1.2
    have hS := first_cm (L := fun k i => spec_OwnerOf.l0 k part x.f1 (x.f1.length : Int) i x.f0 x.f1 x.f2 x.f3) x.f1.length (mine x.f0 x.f1 part) (fun i => ((i : Int), true)) (none_ := (0, false)) (fun i hi q u hu => by
      have hy := (sm_at hs hi).2.2.1
      refine cm_step (fun k => by rw [spec_OwnerOf.l0]) ?_
      simp only [wrap_n hi hr]
      refine cm_yes (by omega) (cm_yes (by omega) (cm_yes (by omega) (cm_if (fun c0 => cm_if (fun c1 => cm_bind (has_f _ part hy) (cm_no (fun c2 => q ⟨c0, c1, by simpa using c2⟩) hu)) (fun c1 => hu)) (fun c0 => hu))))) (fun i hi q => by
      have hy := (sm_at hs hi).2.2.1
      refine cm_step (fun k => by rw [spec_OwnerOf.l0]) ?_
      exact cm_yes (by omega) (cm_yes (by omega) (cm_yes (by omega) (cm_yes q.1 (cm_yes q.2.1 (cm_bind (has_f _ part hy) (cm_yes (by simpa using q.2.2) (cm_now fun _ => rfl)))))))) (by
      refine cm_step (fun k => by rw [spec_OwnerOf.l0]) ?_
      exact cm_no (by omega) (cm_now fun _ => rfl))
    have hI := first_cm (L := fun k i => impl_Reader_of_impl_OwnerOf_1.l0 k x.f1 (x.f1.length : Int) i x.f0 x.f1 x.f2 x.f3 part) x.f1.length (mine x.f0 x.f1 part) (fun i => (i : Int)) (none_ := (-1 : Int)) (fun i hi q u hu => by
      have hy := (sm_at hs hi).2.2.1
      refine cm_step (fun k => by rw [impl_Reader_of_impl_OwnerOf_1.l0]) ?_
      simp only [wrap_n hi hr]
      refine cm_yes (by omega) (cm_yes (by omega) (cm_yes (by omega) (cm_bind (t := false) ?_ (cm_no (by simp) hu))))
      unfold impl_OwnerOf_1.f
      exact cm_if (fun c0 => cm_if (fun c1 => cm_bind (contains_f _ part hy) (cm_now fun _ => by rw [decide_eq_false (fun z => q ⟨c0, c1, z⟩)])) (fun c1 => cm_now fun _ => rfl)) (fun c0 => cm_now fun _ => rfl)) (fun i hi q => by
      have hy := (sm_at hs hi).2.2.1
      refine cm_step (fun k => by rw [impl_Reader_of_impl_OwnerOf_1.l0]) ?_
      refine cm_yes (by omega) (cm_yes (by omega) (cm_yes (by omega) (cm_bind (t := true) ?_ (cm_yes rfl (cm_now fun _ => rfl)))))
      unfold impl_OwnerOf_1.f
      exact cm_yes q.1 (cm_yes q.2.1 (cm_bind (contains_f _ part hy) (cm_now fun _ => by rw [decide_eq_true q.2.2])))) (by
      refine cm_step (fun k => by rw [impl_Reader_of_impl_OwnerOf_1.l0]) ?_
      exact cm_no (by omega) (cm_now fun _ => rfl))
    by_cases q : ∀ i, i < x.f1.length → ¬ mine x.f0 x.f1 part i
    · refine ⟨(0, false), ?_, ?_⟩
      · unfold spec_OwnerOf.f
        refine cm_bind hb (cm_yes g (cm_if (fun c => no) (fun c => ?_)))
        by_cases c2 : part ≥ (x.f3.length : Int)
        · rw [decide_eq_true c2]; exact no
        · rw [decide_eq_false c2]
          refine cm_step (fun k => by rw [spec_OwnerOf.j0]) ?_
          exact cm_no (by simp) (hS.1 q)
      · unfold impl_OwnerOf.f impl_Reader_of_impl_OwnerOf_1.f
        exact cm_bind hc (cm_yes g (cm_bind (hI.1 q) (cm_yes (by omega) (cm_now fun _ => rfl))))
    · obtain ⟨i, hi, qi, hl⟩ := least q
      have hm := (hg.2.2 i hi).1.2.1
      have hin := members_in hm part qi.2.2
      refine ⟨((i : Int), true), ?_, ?_⟩
      · unfold spec_OwnerOf.f
        refine cm_bind hb (cm_yes g (cm_no (by omega) ?_))
        rw [decide_eq_false (show ¬ part ≥ (x.f3.length : Int) by omega)]
        refine cm_step (fun k => by rw [spec_OwnerOf.j0]) ?_
        exact cm_no (by simp) (hS.2 i hi qi hl)
      · unfold impl_OwnerOf.f impl_Reader_of_impl_OwnerOf_1.f
        exact cm_bind hc (cm_yes g (cm_bind (hI.2 i hi qi hl) (cm_no (by omega) (cm_now fun _ => rfl))))
  · refine ⟨(0, false), ?_, ?_⟩
    · unfold spec_OwnerOf.f
      exact cm_bind hb (cm_no g no)
    · unfold impl_OwnerOf.f
      exact cm_bind hc (cm_no g (cm_now fun _ => rfl))
end Go.Proofs.Ytfdgmknjmljhbaa.Rd
end
section
namespace Go.Proofs.Ytfdgmknjmljhbaa.Pure
open Go.RowKit Go.Proofs.Ytfdgmknjmljhbaa.P Go.Proofs.YtfdgmknjmljhbaaW.PrintWords Go.Proofs.YtfdgmknjmljhbaaW.PrintLast Go.Proofs.YtfdgmknjmljhbaaW.PrintMore
open Go.Proofs.Ytfdgmknjmljhbaa.Pl Go.Proofs.Ytfdgmknjmljhbaa.EvN Go.Proofs.Ytfdgmknjmljhbaa.Lp Go.Proofs.Ytfdgmknjmljhbaa.Hg Go.Proofs.Ytfdgmknjmljhbaa.Rd
set_option linter.unusedVariables false
theorem FnExactOwnerOf : laws_FnExactOwnerOf.Pure := by
  intro x a1 h h1
  obtain ⟨v, hv⟩ := szReaders_ex x h 1048576
  have hs := sm_cReaders x h
  obtain ⟨⟨r, b⟩, hb, hc⟩ := owner_both _ hs a1
  refine cm_ex (v := true) ?_
  unfold laws_FnExactOwnerOf.f
  refine cm_bind hv (cm_if (fun _ => cm_now fun _ => rfl) (fun _ => ?_))
  refine cm_bind (toReaders_f x h) (cm_bind hb (cm_bind (toReaders_f x h) (cm_bind hc (cm_yes rfl ?_))))
  simp only [bne_self_eq_false]
  refine cm_step (fun k => by rw [laws_FnExactOwnerOf.j0]) ?_
  exact cm_no (by simp) (cm_bind (toReaders_f x h) (cm_bind (eqReaders_same _ hs) (cm_yes rfl (cm_now fun _ => rfl))))
end Go.Proofs.Ytfdgmknjmljhbaa.Pure
end
