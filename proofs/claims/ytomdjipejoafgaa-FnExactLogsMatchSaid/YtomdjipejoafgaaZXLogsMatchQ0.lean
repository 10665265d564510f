-- Written by programs of this session (wip/prune.py, wip/xp.py), out of the translation and the printed words; what the law does not reach is left out. Not trusted: Lean checks it.
import Derived.Test.YtomdjipejoafgaaZXLogsMatchW0
import Derived.Test.YtomdjipejoafgaaZXLogsMatchPx0
import Derived.Test.YtomdjipejoafgaaZXLogsMatchPx5
import Derived.Test.YtomdjipejoafgaaZXLogsMatchPx2
import Derived.Test.YtomdjipejoafgaaZXLogsMatchPx1
import Derived.Test.YtomdjipejoafgaaZXLogsMatchPx23
import Derived.Test.YtomdjipejoafgaaZXLogsMatchPx24
import Derived.Test.YtomdjipejoafgaaZXLogsMatchPx25
import Derived.Test.YtomdjipejoafgaaZXLogsMatchPxok
import Derived.Laws.BitsAllLaws
import Derived.Test.YtomdjipejoafgaaZXLogsMatchPx10
section
namespace Go.Proofs.Ytomdjipejoafgaa.Pl
open Go.RowKit Go.Proofs.YtomdjipejoafgaaW.PrintWords Go.Proofs.YtomdjipejoafgaaW.PrintLast Go.Proofs.YtomdjipejoafgaaW.PrintMore
theorem wrap_in {x : Int} (h0 : -9223372036854775808 ≤ x) (h1 : x ≤ 9223372036854775807) : wrap64 x = x := by
  unfold wrap64
  omega
theorem wrap_len {n m : Nat} (h : n < m) (hm : m ≤ 4611686018427387904) : wrap64 ((n : Int) + 1) = ((n + 1 : Nat) : Int) := by
  rw [wrap_in (by omega) (by omega)]
  omega
theorem round {k d : Nat} (h : d < k) : ∃ m, k = m + 1 := ⟨k - 1, by omega⟩
theorem len_mid {α : Type} {pre t : List α} {h : α} {l : List α} (e : pre ++ h :: t = l) : pre.length < l.length := by
  rw [← e]; simp
theorem len_end {α : Type} {pre l : List α} (e : pre ++ [] = l) : pre.length = l.length := by
  rw [← e]; simp
theorem app_mid {α : Type} {pre t : List α} {h : α} {l : List α} (e : pre ++ h :: t = l) : (pre ++ [h]) ++ t = l := by
  rw [← e]; simp
theorem len_one {α : Type} (pre : List α) (h : α) : (pre ++ [h]).length = pre.length + 1 := by simp
theorem no_last {α : Type} {pre : List α} (h : pre.getLast? = none) : pre = [] := by
  simpa using h
end Go.Proofs.Ytomdjipejoafgaa.Pl
end
section
namespace Go.Proofs.Ytomdjipejoafgaa.EvN
def Cm {α : Type} (f : Nat → Option α) (v : α) : Prop := ∃ K, ∀ k, K ≤ k → f k = some v
theorem cm_now {α : Type} {f : Nat → Option α} {v : α} (h : ∀ k, f k = some v) : Cm f v := ⟨0, fun k _ => h k⟩
theorem cm_step {α : Type} {f g : Nat → Option α} {v : α} (h : ∀ k, f (k + 1) = g k) (hg : Cm g v) : Cm f v := by
  obtain ⟨K, hK⟩ := hg
  refine ⟨K + 1, fun k hk => ?_⟩
  obtain ⟨m, rfl⟩ : ∃ m, k = m + 1 := ⟨k - 1, by omega⟩
  rw [h, hK m (by omega)]
theorem cm_same {α : Type} {f g : Nat → Option α} {v : α} (h : ∀ k, f k = g k) (hg : Cm g v) : Cm f v := by
  obtain ⟨K, hK⟩ := hg
  exact ⟨K, fun k hk => by rw [h, hK k hk]⟩
theorem cm_bind {α β : Type} {a : Nat → Option α} {t : α} {g : Nat → α → Option β} {v : β} (ha : Cm a t) (hg : Cm (fun k => g k t) v) : Cm (fun k => (a k).bind (g k)) v := by
  obtain ⟨K, hK⟩ := ha
  obtain ⟨M, hM⟩ := hg
  exact ⟨K + M, fun k hk => by simp only [hK k (by omega)]; exact hM k (by omega)⟩
theorem cm_yes {α : Type} {c : Prop} [Decidable c] {x y : Nat → Option α} {v : α} (h : c) (h2 : Cm x v) : Cm (fun k => if c then x k else y k) v :=
  cm_same (fun _ => if_pos h) h2
theorem cm_no {α : Type} {c : Prop} [Decidable c] {x y : Nat → Option α} {v : α} (h : ¬ c) (h2 : Cm y v) : Cm (fun k => if c then x k else y k) v :=
  cm_same (fun _ => if_neg h) h2
theorem cm_ex {α : Type} {f : Nat → Option α} {v : α} (h : Cm f v) : ∃ k, f k = some v := by
  obtain ⟨K, hK⟩ := h
  exact ⟨K, hK K (Nat.le_refl _)⟩
end Go.Proofs.Ytomdjipejoafgaa.EvN
end
section
namespace Go.Proofs.Ytomdjipejoafgaa.Lp
open Go.RowKit Go.Proofs.YtomdjipejoafgaaW.PrintWords
open Go.Proofs.Ytomdjipejoafgaa.Pl Go.Proofs.Ytomdjipejoafgaa.EvN
def okFrom {α : Type} (p : List α → α → Bool) : List α → List α → Bool
  | _, [] => true
  | pre, h :: t => p pre h && okFrom p (pre ++ [h]) t
theorem all_cm {α ρ : Type} {L : Nat → Int → Option ρ} (xs : List α) (p : List α → α → Bool) {fin no : ρ}
    (hstep : ∀ pre h t, pre ++ h :: t = xs → pre.length < xs.length → p pre h = true → ∀ v, Cm (fun k => L k ((pre.length + 1 : Nat) : Int)) v → Cm (fun k => L k (pre.length : Int)) v)
    (hno : ∀ pre h t, pre ++ h :: t = xs → pre.length < xs.length → p pre h = false → Cm (fun k => L k (pre.length : Int)) no)
    (hend : okFrom p [] xs = true → Cm (fun k => L k (xs.length : Int)) fin) : Cm (fun k => L k 0) (if okFrom p [] xs = true then fin else no) := by
  have key : ∀ (rest pre : List α), pre ++ rest = xs → (okFrom p pre rest = okFrom p [] xs) → Cm (fun k => L k (pre.length : Int)) (if okFrom p pre rest = true then fin else no) := by
    intro rest
    induction rest with
    | nil =>
      intro pre e h
      rw [List.append_nil] at e
      subst e
      simp only [okFrom, if_true] at h ⊢
      exact hend h.symm
    | cons x t ih =>
      intro pre e h
      by_cases c : p pre x = true
      · have h2 : okFrom p pre (x :: t) = okFrom p (pre ++ [x]) t := by simp only [okFrom, c, Bool.true_and]
        rw [h2] at h ⊢
        have h3 := ih (pre ++ [x]) (app_mid e) h
        rw [len_one] at h3
        exact hstep pre x t e (len_mid e) c _ h3
      · have c2 : p pre x = false := by simpa using c
        have h2 : okFrom p pre (x :: t) = false := by simp only [okFrom, c2, Bool.false_and]
        rw [h2]
        simpa using hno pre x t e (len_mid e) c2
  exact key xs [] rfl rfl
theorem okFrom_all {α : Type} (p : α → Bool) : ∀ (rest pre : List α), okFrom (fun _ h => p h) pre rest = rest.all p
  | [], _ => rfl
  | x :: t, pre => by simp only [okFrom, List.all_cons, okFrom_all p t]
theorem every_cm {α ρ : Type} {L : Nat → Int → Option ρ} (xs : List α) (p : α → Bool) {fin no : ρ}
    (hstep : ∀ pre h t, pre ++ h :: t = xs → pre.length < xs.length → p h = true → ∀ v, Cm (fun k => L k ((pre.length + 1 : Nat) : Int)) v → Cm (fun k => L k (pre.length : Int)) v)
    (hno : ∀ pre h t, pre ++ h :: t = xs → pre.length < xs.length → p h = false → Cm (fun k => L k (pre.length : Int)) no)
    (hend : xs.all p = true → Cm (fun k => L k (xs.length : Int)) fin) : Cm (fun k => L k 0) (if xs.all p = true then fin else no) := by
  have := all_cm (L := L) xs (fun _ h => p h) hstep hno (by rw [okFrom_all]; exact hend)
  rw [okFrom_all] at this
  exact this
theorem same_cm {α ρ : Type} {L : Nat → Int → Option ρ} (xs : List α) {fin : ρ}
    (hstep : ∀ pre h t, pre ++ h :: t = xs → pre.length < xs.length → ∀ v, Cm (fun k => L k ((pre.length + 1 : Nat) : Int)) v → Cm (fun k => L k (pre.length : Int)) v)
    (hend : Cm (fun k => L k (xs.length : Int)) fin) : Cm (fun k => L k 0) fin := by
  have := every_cm (L := L) xs (fun _ => true) (fin := fin) (no := fin) (fun pre h t e hl _ => hstep pre h t e hl) (fun _ _ _ _ _ hp => by cases hp) (fun _ => hend)
  have h : (xs.all fun _ => true) = true := by simp
  rw [if_pos h] at this
  exact this
theorem map_cm {α β : Type} {L : Nat → Int → List β → Option (List β)} (xs : List α) (c : α → β) (z : β)
    (hstep : ∀ pre h t acc, pre ++ h :: t = xs → pre.length < xs.length → acc.length = xs.length → ∀ u, Cm (fun k => L k ((pre.length + 1 : Nat) : Int) (acc.set pre.length (c h))) u → Cm (fun k => L k (pre.length : Int) acc) u)
    (hend : ∀ acc, acc.length = xs.length → Cm (fun k => L k (xs.length : Int) acc) acc) : Cm (fun k => L k 0 (List.replicate xs.length z)) (xs.map c) := by
  have key : ∀ (rest pre : List α) (tl : List β), pre ++ rest = xs → tl.length = rest.length → Cm (fun k => L k (pre.length : Int) (pre.map c ++ tl)) (xs.map c) := by
    intro rest
    induction rest with
    | nil =>
      intro pre tl e ht
      have ht2 : tl = [] := List.length_eq_zero_iff.1 ht
      rw [List.append_nil] at e
      subst ht2 e
      rw [List.append_nil]
      exact hend _ (by simp)
    | cons h t ih =>
      intro pre tl e ht
      match tl, ht with
      | y :: tl, ht =>
        refine hstep pre h t _ e (len_mid e) (by rw [← e]; simp at ht ⊢; omega) _ ?_
        have e2 : (pre.map c ++ y :: tl).set pre.length (c h) = (pre ++ [h]).map c ++ tl := by
          have : pre.length = (pre.map c).length := by simp
          rw [this]
          simp
        rw [e2]
        have := ih (pre ++ [h]) tl (app_mid e) (by simpa using ht)
        rw [len_one] at this
        exact this
  have := key xs [] (List.replicate xs.length z) rfl (by simp)
  simpa using this
theorem cm_if {α : Type} {c : Prop} [Decidable c] {x y : Nat → Option α} {v : α} (h : c → Cm x v) (h2 : ¬ c → Cm y v) : Cm (fun k => if c then x k else y k) v := by
  by_cases hc : c
  · exact cm_yes hc (h hc)
  · exact cm_no hc (h2 hc)
theorem getD_at {α : Type} {pre t l : List α} {h : α} (e : pre ++ h :: t = l) (d : α) : l.getD ((pre.length : Int)).toNat d = h := by
  rw [← e]; simp
theorem getLast_at {α : Type} {pre rest l : List α} (e : pre ++ rest = l) (d : α) {q : α} (h : pre.getLast? = some q) : 0 < pre.length ∧ l.getD ((pre.length : Int) - 1).toNat d = q := by
  obtain ⟨z, rfl⟩ := List.getLast?_eq_some_iff.1 h
  refine ⟨by simp, ?_⟩
  have h3 : ((((z ++ [q]).length : Nat) : Int) - 1).toNat = z.length := by simp
  rw [← e, h3]
  simp
theorem wrap_less {n : Nat} (h : 0 < n) (hm : n ≤ 4611686018427387904) : wrap64 ((n : Int) - 1) = (n : Int) - 1 := wrap_in (by omega) (by omega)
theorem cm_val {α : Type} {f : Nat → Option α} {u v : α} (h : Cm f u) (e : u = v) : Cm f v := e ▸ h
end Go.Proofs.Ytomdjipejoafgaa.Lp
end
section
namespace Go.Proofs.Ytomdjipejoafgaa.Hs
open Go.RowKit Go.Proofs.Ytomdjipejoafgaa.P Go.Proofs.YtomdjipejoafgaaW.PrintWords Go.Proofs.YtomdjipejoafgaaW.PrintLast Go.Proofs.YtomdjipejoafgaaW.PrintMore
open Go.Proofs.Ytomdjipejoafgaa.Pl Go.Proofs.Ytomdjipejoafgaa.EvN Go.Proofs.Ytomdjipejoafgaa.Lp
set_option linter.unusedSimpArgs false
set_option linter.unusedVariables false
end Go.Proofs.Ytomdjipejoafgaa.Hs
end
section
namespace Go.Proofs.Ytomdjipejoafgaa.Hg
open Go.RowKit Go.Proofs.Ytomdjipejoafgaa.P Go.Proofs.YtomdjipejoafgaaW.PrintWords Go.Proofs.YtomdjipejoafgaaW.PrintLast Go.Proofs.YtomdjipejoafgaaW.PrintMore
open Go.Proofs.Ytomdjipejoafgaa.Pl Go.Proofs.Ytomdjipejoafgaa.EvN Go.Proofs.Ytomdjipejoafgaa.Lp Go.Proofs.Ytomdjipejoafgaa.Hs
set_option linter.unusedSimpArgs false
set_option linter.unusedVariables false
theorem rdT95_at {pre t l : List S95} {h : S95} (e : pre ++ h :: t = l) : rd_T95 l (pre.length : Int) = h := getD_at e _
theorem rdT67_at {pre t l : List S67} {h : S67} (e : pre ++ h :: t = l) : rd_T67 l (pre.length : Int) = h := getD_at e _
def cEntry (x : S95) : S67 := ⟨x.f0, x.f1⟩
def smEntry (x : S67) : Prop := (True) ∧ (True)
theorem sm_cEntry (x : S95) (h : ok95 x) : smEntry (cEntry x) := by
  obtain ⟨h0, h1⟩ := h
  exact ⟨trivial, trivial⟩
theorem smS_cEntry (l : List S95) (h : l.length ≤ maxLen ∧ l.length * 16 ≤ 140737488351232 ∧ ∀ x_ ∈ l, ok95 x_) : (l.map cEntry).length ≤ 4611686018427387904 ∧ ∀ y ∈ l.map cEntry, smEntry y :=
  ⟨by have := h.2.1; simp only [List.length_map]; omega, fun y hy => by obtain ⟨z, hz, rfl⟩ := List.mem_map.1 hy; exact sm_cEntry z (h.2.2 z hz)⟩
theorem toEntry_f (x : S95) (h : ok95 x) : Cm (fun k => laws_toEntry.f x.f0 x.f1) ((cEntry x).f0, (cEntry x).f1) := by
  obtain ⟨h0, h1⟩ := h
  unfold laws_toEntry.f
  exact cm_now fun _ => rfl
theorem toEntryS_f (l : List S95) (h : l.length ≤ maxLen ∧ l.length * 16 ≤ 140737488351232 ∧ ∀ x_ ∈ l, ok95 x_) : Cm (fun k => laws_toEntryS.f k l) (l.map cEntry) := by
  have hl := h.2.1
  unfold laws_toEntryS.f
  refine cm_yes (by omega) (cm_yes (by omega) ?_)
  rw [Int.toNat_natCast]
  refine map_cm (L := fun k i s => laws_toEntryS.l0 k l s i) l cEntry z67 ?_ ?_
  · intro pre x t acc e hlt ha u hu
    have hx := h.2.2 x (by rw [← e]; simp)
    refine cm_step (fun k => by rw [laws_toEntryS.l0]) ?_
    simp only [rdT95_at e, wrap_len hlt (show l.length ≤ 4611686018427387904 by omega), Int.toNat_natCast]
    refine cm_yes (by omega) (cm_yes (by omega) (cm_bind (toEntry_f x hx) (cm_yes (by omega) ?_)))
    exact hu
  · intro acc ha
    refine cm_step (fun k => by rw [laws_toEntryS.l0]) ?_
    exact cm_no (by omega) (cm_now fun _ => rfl)
theorem eqEntry_same (x : S67) (h : smEntry x) : Cm (fun k => laws_eqEntry.f x.f0 x.f1 x.f0 x.f1) true := by
  obtain ⟨h0, h1⟩ := h
  unfold laws_eqEntry.f
  exact cm_yes rfl (cm_yes rfl (cm_now fun _ => rfl))
theorem eqEntryS_same (l : List S67) (h : l.length ≤ 4611686018427387904 ∧ ∀ y ∈ l, smEntry y) : Cm (fun k => laws_eqEntryS.f k l l) true := by
  unfold laws_eqEntryS.f
  refine cm_yes rfl ?_
  refine same_cm (L := fun k i => laws_eqEntryS.l0 k l l i) l ?_ ?_
  · intro pre x t e hlt v hv
    have hx := h.2 x (by rw [← e]; simp)
    refine cm_step (fun k => by rw [laws_eqEntryS.l0]) ?_
    simp only [rdT67_at e, wrap_len hlt h.1]
    exact cm_yes (by omega) (cm_yes (by omega) (cm_yes (by omega) (cm_bind (eqEntry_same x hx) (cm_yes rfl hv))))
  · refine cm_step (fun k => by rw [laws_eqEntryS.l0]) ?_
    exact cm_no (by omega) (cm_now fun _ => rfl)
theorem szEntryS_ex (l : List S95) (h : l.length ≤ maxLen ∧ l.length * 16 ≤ 140737488351232 ∧ ∀ x_ ∈ l, ok95 x_) (m : Int) : ∃ v, Cm (fun k => laws_szEntryS.f l m) v := by
  have hl := h.2.1
  unfold laws_szEntryS.f
  by_cases c : wrap64 (m - (l.length : Int)) < 0
  · exact ⟨_, cm_yes c (cm_now fun _ => rfl)⟩
  · exact ⟨_, cm_no c (cm_now fun _ => rfl)⟩
end Go.Proofs.Ytomdjipejoafgaa.Hg
end
section
namespace Go.Proofs.Ytomdjipejoafgaa.Sets
open Go.RowKit Go.Proofs.YtomdjipejoafgaaW.PrintWords Go.Proofs.YtomdjipejoafgaaW.PrintLast Go.Proofs.YtomdjipejoafgaaW.PrintMore
open Go.Proofs.Ytomdjipejoafgaa.Pl Go.Proofs.Ytomdjipejoafgaa.EvN Go.Proofs.Ytomdjipejoafgaa.Lp
set_option linter.unusedSimpArgs false
set_option linter.unusedVariables false
theorem and_self (a b : Nat) : a &&& b = b ↔ ∀ i, b.testBit i = true → a.testBit i = true := by
  constructor
  · intro h i h2
    have : (a &&& b).testBit i = true := by rw [h]; exact h2
    rw [Nat.testBit_and] at this
    simp_all
  · intro h
    apply Nat.eq_of_testBit_eq
    intro i
    rw [Nat.testBit_and]
    have := h i
    cases h1 : a.testBit i <;> cases h2 : b.testBit i <;> simp_all
end Go.Proofs.Ytomdjipejoafgaa.Sets
end
section
namespace Go.Proofs.Ytomdjipejoafgaa.Mem
open Go.RowKit Go.Proofs.Ytomdjipejoafgaa.P Go.Proofs.YtomdjipejoafgaaW.PrintWords Go.Proofs.YtomdjipejoafgaaW.PrintLast Go.Proofs.YtomdjipejoafgaaW.PrintMore
open Go.Proofs.Ytomdjipejoafgaa.Pl Go.Proofs.Ytomdjipejoafgaa.EvN Go.Proofs.Ytomdjipejoafgaa.Lp Go.Proofs.Ytomdjipejoafgaa.Sets
set_option linter.unusedSimpArgs false
set_option linter.unusedVariables false
theorem in_f (a b c : Int) : impl_in.f a b c = some (decide (b ≤ a ∧ a ≤ c)) := by
  unfold impl_in.f
  by_cases h : a ≥ b
  · rw [if_pos h]; congr 1; rw [decide_eq_decide]; omega
  · rw [if_neg h]; congr 1; symm; rw [decide_eq_false_iff_not]; omega
theorem l1In_f (a b c : Int) : spec_l1In.f a b c = some (decide (b ≤ a ∧ a ≤ c)) := by
  unfold spec_l1In.f
  by_cases h : a ≥ b
  · rw [if_pos h]; congr 1; rw [decide_eq_decide]; omega
  · rw [if_neg h]; congr 1; symm; rw [decide_eq_false_iff_not]; omega
theorem last_cases {α : Type} (pre : List α) : pre = [] ∨ ∃ q, pre.getLast? = some q := by
  cases e : pre.getLast? with
  | none => exact .inl (no_last e)
  | some q => exact .inr ⟨q, rfl⟩
end Go.Proofs.Ytomdjipejoafgaa.Mem
end
section
namespace Go.Proofs.Ytomdjipejoafgaa.Logs
open Go.RowKit Go.Proofs.Ytomdjipejoafgaa.P Go.Proofs.YtomdjipejoafgaaW.PrintWords Go.Proofs.YtomdjipejoafgaaW.PrintLast Go.Proofs.YtomdjipejoafgaaW.PrintMore
open Go.Proofs.Ytomdjipejoafgaa.Pl Go.Proofs.Ytomdjipejoafgaa.EvN Go.Proofs.Ytomdjipejoafgaa.Lp Go.Proofs.Ytomdjipejoafgaa.Mem Go.Proofs.Ytomdjipejoafgaa.Hg
set_option linter.unusedSimpArgs false
set_option linter.unusedVariables false
def goodLog1 (m : Int) (pre : List S67) (h : S67) : Bool := decide ((0 ≤ h.f0 ∧ h.f0 ≤ m) ∧ (0 ≤ h.f1 ∧ h.f1 ≤ 99)) && (match pre.getLast? with | some q => decide (q.f0 ≤ h.f0) | none => true)
def goodLog (m : Int) (l : List S67) : Bool := okFrom (goodLog1 m) [] l && decide (l.length ≤ 30)
theorem log_yes {m : Int} {pre : List S67} {h : S67} (hp : goodLog1 m pre h = true) : (0 ≤ h.f0 ∧ h.f0 ≤ m) ∧ (0 ≤ h.f1 ∧ h.f1 ≤ 99) ∧ ∀ q, pre.getLast? = some q → q.f0 ≤ h.f0 := by
  unfold goodLog1 at hp
  simp only [Bool.and_eq_true, decide_eq_true_eq] at hp
  refine ⟨hp.1.1, hp.1.2, fun q e => ?_⟩
  have h2 := hp.2
  rw [e] at h2
  simpa using h2
theorem log_no {m : Int} {pre : List S67} {h : S67} (hp : goodLog1 m pre h = false) (h0 : 0 ≤ h.f0 ∧ h.f0 ≤ m) (h1 : 0 ≤ h.f1 ∧ h.f1 ≤ 99) : ∃ q, pre.getLast? = some q ∧ h.f0 < q.f0 := by
  unfold goodLog1 at hp
  cases e : pre.getLast? with
  | none => rw [e] at hp; simp at hp; omega
  | some q =>
    rw [e] at hp
    simp at hp
    exact ⟨q, rfl, by omega⟩
theorem rd67_last {pre rest l : List S67} (e : pre ++ rest = l) {q : S67} (h : pre.getLast? = some q) : 0 < pre.length ∧ rd_T67 l ((pre.length : Int) - 1) = q := getLast_at e _ h
theorem l10Log_f (l : List S67) (m : Int) (hl : l.length ≤ 4611686018427387904) : Cm (fun k => spec_l10Log.f k l m) (goodLog m l) := by
  unfold spec_l10Log.f
  refine cm_val (all_cm (L := fun k i => spec_l10Log.l0 k l m l (l.length : Int) i) l (goodLog1 m) (fin := decide (l.length ≤ 30)) (no := false) ?_ ?_ ?_) ?_
  · intro pre h t e hlt hp v hv
    obtain ⟨h0, h1, h2⟩ := log_yes hp
    refine cm_step (fun k => by rw [spec_l10Log.l0]) ?_
    simp only [rdT67_at e, wrap_len hlt hl]
    refine cm_yes (by omega) (cm_yes (by omega) (cm_yes (by omega) (cm_bind (cm_now fun _ => l1In_f _ _ _) (cm_yes (by simp [h0]) (cm_bind (cm_now fun _ => l1In_f _ _ _) (cm_yes (by simp [h1]) ?_))))))
    rcases last_cases pre with rfl | ⟨q, hq⟩
    · exact cm_no (by simp) hv
    · obtain ⟨h3, h4⟩ := rd67_last e hq
      have h5 := h2 q hq
      rw [wrap_less h3 (by omega), h4]
      exact cm_yes (by omega) (cm_yes (by omega) (cm_yes (by omega) (cm_no (by omega) hv)))
  · intro pre h t e hlt hp
    refine cm_step (fun k => by rw [spec_l10Log.l0]) ?_
    simp only [rdT67_at e, wrap_len hlt hl]
    refine cm_yes (by omega) (cm_yes (by omega) (cm_yes (by omega) (cm_bind (cm_now fun _ => l1In_f _ _ _) (cm_if (fun c0 => cm_bind (cm_now fun _ => l1In_f _ _ _) (cm_if (fun c1 => ?_) (fun _ => cm_now fun _ => rfl))) (fun _ => cm_now fun _ => rfl)))))
    simp only [decide_eq_true_eq] at c0 c1
    obtain ⟨q, hq, h5⟩ := log_no hp c0 c1
    obtain ⟨h3, h4⟩ := rd67_last e hq
    rw [wrap_less h3 (by omega), h4]
    exact cm_yes (by omega) (cm_yes (by omega) (cm_yes (by omega) (cm_yes (by omega) (cm_now fun _ => rfl))))
  · intro _
    refine cm_step (fun k => by rw [spec_l10Log.l0]) ?_
    exact cm_no (by omega) (cm_now fun _ => by congr 1; rw [decide_eq_decide]; omega)
  · unfold goodLog
    cases okFrom (goodLog1 m) [] l <;> simp
def lastTerm (pre : List S67) : Int := match pre.getLast? with | some q => q.f0 | none => 0
theorem raftLog_l0 (l : List S67) (m : Int) (hl : l.length ≤ 4611686018427387904) : ∀ (rest pre : List S67), pre ++ rest = l → 0 ≤ lastTerm pre →
    Cm (fun k => impl_isRaftLog.l0 k l m (lastTerm pre) l (l.length : Int) (pre.length : Int)) (okFrom (goodLog1 m) pre rest && decide (l.length ≤ 30))
  | [], pre, e, _ => by
    have := len_end e
    refine cm_step (fun k => by rw [impl_isRaftLog.l0]) ?_
    refine cm_no (by omega) (cm_now fun _ => ?_)
    simp only [okFrom, Bool.true_and]
    congr 1
    rw [decide_eq_decide]
    omega
  | h :: t, pre, e, h0 => by
    have hlt := len_mid e
    refine cm_step (fun k => by rw [impl_isRaftLog.l0]) ?_
    simp only [rdT67_at e, wrap_len hlt hl]
    refine cm_yes (by omega) (cm_yes (by omega) (cm_yes (by omega) (cm_bind (cm_now fun _ => in_f _ _ _) ?_)))
    have hlast : lastTerm (pre ++ [h]) = h.f0 := by simp [lastTerm]
    have hg : goodLog1 m pre h = decide ((lastTerm pre ≤ h.f0 ∧ h.f0 ≤ m) ∧ (0 ≤ h.f1 ∧ h.f1 ≤ 99)) := by
      unfold goodLog1
      unfold lastTerm at h0 ⊢
      cases e2 : pre.getLast? with
      | none => simp
      | some q =>
        rw [e2] at h0
        simp only at h0 ⊢
        rw [← Bool.decide_and, decide_eq_decide]
        omega
    refine cm_if (fun c => cm_bind (cm_now fun _ => in_f _ _ _) (cm_if (fun c2 => ?_) (fun c2 => cm_now fun _ => ?_))) (fun c => cm_now fun _ => ?_)
    · simp only [decide_eq_true_eq] at c c2
      have ih := raftLog_l0 l m hl t (pre ++ [h]) (app_mid e) (by rw [hlast]; omega)
      rw [hlast, len_one] at ih
      refine cm_val ih ?_
      simp only [okFrom, hg, c, c2, and_self, decide_true, Bool.true_and]
    · simp only [decide_eq_true_eq] at c c2
      simp only [okFrom, hg, c2, and_false, decide_false, Bool.false_and]
    · simp only [decide_eq_true_eq] at c
      simp only [okFrom, hg, c, false_and, decide_false, Bool.false_and]
theorem raftLog_f (l : List S67) (m : Int) (hl : l.length ≤ 4611686018427387904) : Cm (fun k => impl_isRaftLog.f k l m) (goodLog m l) := by
  unfold impl_isRaftLog.f
  exact raftLog_l0 l m hl l [] rfl (by simp [lastTerm])
def down (x y : List S67) : Nat → Nat
  | 0 => 0
  | n + 1 => if (rd_T67 x (n : Int)).f0 = (rd_T67 y (n : Int)).f0 then n + 1 else down x y n
theorem down_le (x y : List S67) : ∀ n, down x y n ≤ n
  | 0 => Nat.le_refl _
  | n + 1 => by
    unfold down
    split
    · exact Nat.le_refl _
    · exact Nat.le_succ_of_le (down_le x y n)
def likeTo (x y : List S67) (n : Nat) : Bool := (List.range n).all (fun i => decide ((rd_T67 x (i : Int)).f0 = (rd_T67 y (i : Int)).f0 ∧ (rd_T67 x (i : Int)).f1 = (rd_T67 y (i : Int)).f1))
theorem range_at {n : Nat} {pre t : List Nat} {h : Nat} (e : pre ++ h :: t = List.range n) : h = pre.length ∧ h < n := by
  have h1 : (List.range n)[pre.length]? = some h := by rw [← e]; simp
  rw [List.getElem?_eq_some_iff] at h1
  obtain ⟨h2, h3⟩ := h1
  rw [List.getElem_range] at h3
  rw [List.length_range] at h2
  omega
theorem spec_like (x y : List S67) (n : Nat) (hx : n ≤ x.length) (hy : n ≤ y.length) (hn : n ≤ 4611686018427387904) : Cm (fun k => spec_LogsMatch.l1 k x y (n : Int) 0) (likeTo x y n, true) := by
  have hr : (List.range n).length = n := List.length_range
  refine cm_val (every_cm (L := fun k i => spec_LogsMatch.l1 k x y (n : Int) i) (List.range n) (fun i => decide ((rd_T67 x (i : Int)).f0 = (rd_T67 y (i : Int)).f0 ∧ (rd_T67 x (i : Int)).f1 = (rd_T67 y (i : Int)).f1)) (fin := (true, true)) (no := (false, true)) ?_ ?_ ?_) ?_
  · intro pre h t e hlt hp v hv
    obtain ⟨e1, e2⟩ := range_at e
    rw [hr] at hlt
    simp only [decide_eq_true_eq] at hp
    rw [e1] at hp
    refine cm_step (fun k => by rw [spec_LogsMatch.l1]) ?_
    simp only [wrap_len hlt hn]
    exact cm_yes (by omega) (cm_yes (by omega) (cm_yes (by omega) (cm_yes (by omega) (cm_no (by simp [hp]) hv))))
  · intro pre h t e hlt hp
    obtain ⟨e1, e2⟩ := range_at e
    simp only [decide_eq_false_iff_not] at hp
    rw [e1] at hp
    rw [hr] at hlt
    refine cm_step (fun k => by rw [spec_LogsMatch.l1]) ?_
    refine cm_yes (by omega) (cm_yes (by omega) (cm_yes (by omega) (cm_yes (by omega) (cm_yes ?_ (cm_now fun _ => rfl)))))
    by_cases c : (rd_T67 x (pre.length : Int)).f0 = (rd_T67 y (pre.length : Int)).f0
    · have : ¬ (rd_T67 x (pre.length : Int)).f1 = (rd_T67 y (pre.length : Int)).f1 := fun c2 => hp ⟨c, c2⟩
      simp [c, this]
    · simp [c]
  · intro _
    rw [hr]
    refine cm_step (fun k => by rw [spec_LogsMatch.l1]) ?_
    exact cm_no (by omega) (cm_now fun _ => rfl)
  · change (if likeTo x y n = true then (true, true) else (false, true)) = _
    cases likeTo x y n <;> rfl
theorem rd_take (x : List S67) {n i : Nat} (h : i < n) : rd_T67 (x.take n) (i : Int) = rd_T67 x (i : Int) := by
  unfold rd_T67
  rw [Int.toNat_natCast, List.getD_eq_getElem?_getD, List.getD_eq_getElem?_getD, List.getElem?_take, if_pos h]
theorem impl_like (x y : List S67) (n : Nat) (hx : n ≤ x.length) (hy : n ≤ y.length) (hn : n ≤ 4611686018427387904) : Cm (fun k => impl_Entry_69.f k (x.take n) (y.take n)) (likeTo x y n) := by
  have hr : (List.range n).length = n := List.length_range
  have lx : (x.take n).length = n := by rw [List.length_take]; omega
  have ly : (y.take n).length = n := by rw [List.length_take]; omega
  unfold impl_Entry_69.f
  rw [lx, ly]
  refine cm_yes rfl ?_
  refine cm_val (every_cm (L := fun k i => impl_Entry_69.l0 k (x.take n) (y.take n) (n : Int) i) (List.range n) (fun i => decide ((rd_T67 x (i : Int)).f0 = (rd_T67 y (i : Int)).f0 ∧ (rd_T67 x (i : Int)).f1 = (rd_T67 y (i : Int)).f1)) (fin := true) (no := false) ?_ ?_ ?_) ?_
  · intro pre h t e hlt hp v hv
    obtain ⟨e1, e2⟩ := range_at e
    rw [hr] at hlt
    simp only [decide_eq_true_eq] at hp
    rw [e1] at hp
    refine cm_step (fun k => by rw [impl_Entry_69.l0]) ?_
    simp only [wrap_len hlt hn, rd_take x hlt, rd_take y hlt, lx, ly]
    exact cm_yes (by omega) (cm_yes (by omega) (cm_yes (by omega) (cm_yes (by omega) (cm_no (by simp [hp]) hv))))
  · intro pre h t e hlt hp
    obtain ⟨e1, e2⟩ := range_at e
    simp only [decide_eq_false_iff_not] at hp
    rw [e1] at hp
    rw [hr] at hlt
    refine cm_step (fun k => by rw [impl_Entry_69.l0]) ?_
    simp only [rd_take x hlt, rd_take y hlt, lx, ly]
    refine cm_yes (by omega) (cm_yes (by omega) (cm_yes (by omega) (cm_yes (by omega) (cm_yes ?_ (cm_now fun _ => rfl)))))
    by_cases c : (rd_T67 x (pre.length : Int)).f0 = (rd_T67 y (pre.length : Int)).f0
    · have : ¬ (rd_T67 x (pre.length : Int)).f1 = (rd_T67 y (pre.length : Int)).f1 := fun c2 => hp ⟨c, c2⟩
      simp [c, this]
    · simp [c]
  · intro _
    rw [hr]
    refine cm_step (fun k => by rw [impl_Entry_69.l0]) ?_
    exact cm_no (by omega) (cm_now fun _ => rfl)
  · change (if likeTo x y n = true then true else false) = _
    cases likeTo x y n <;> rfl
theorem impl_down (x y : List S67) : ∀ (n : Nat), n ≤ x.length → n ≤ y.length → n ≤ 4611686018427387904 → Cm (fun k => impl_LogsMatch.l0 k x y (n : Int)) (likeTo x y (down x y n), true)
  | 0, hx, hy, hn => by
    refine cm_step (fun k => by rw [impl_LogsMatch.l0]) ?_
    refine cm_no (by omega) (cm_yes (by omega) (cm_yes (by omega) (cm_yes (by omega) (cm_bind (t := likeTo x y 0) ?_ (cm_now fun _ => rfl)))))
    exact impl_like x y 0 (by omega) (by omega) (by omega)
  | n + 1, hx, hy, hn => by
    have hw : wrap64 (((n + 1 : Nat) : Int) - 1) = (n : Int) := by rw [wrap_in (by omega) (by omega)]; omega
    refine cm_step (fun k => by rw [impl_LogsMatch.l0]) ?_
    simp only [hw]
    refine cm_yes (by omega) (cm_yes (by omega) (cm_yes (by omega) (cm_yes (by omega) (cm_if (fun c => ?_) (fun c => ?_)))))
    · have e : down x y (n + 1) = n + 1 := by unfold down; rw [if_pos c]
      rw [e]
      refine cm_yes (by omega) (cm_yes (by omega) (cm_yes (by omega) (cm_bind (t := likeTo x y (n + 1)) ?_ (cm_now fun _ => rfl))))
      simp only [Int.toNat_natCast]
      exact impl_like x y (n + 1) hx hy hn
    · have e : down x y (n + 1) = down x y n := by rw [down, if_neg c]
      rw [e]
      exact impl_down x y n (by omega) (by omega) (by omega)
theorem spec_up (x y : List S67) (hx : x.length ≤ 4611686018427387904) : Cm (fun k => spec_LogsMatch.l0 k x y 0 (x.length : Int) 0) (likeTo x y (down x y (min x.length y.length)), true) := by
  have key := same_cm (L := fun k i => spec_LogsMatch.l0 k x y ((down x y (min i.toNat y.length) : Nat) : Int) (x.length : Int) i) x (fin := (likeTo x y (down x y (min x.length y.length)), true)) ?_ ?_
  · simpa [down] using key
  · intro pre h t e hlt v hv
    simp only [Int.toNat_natCast] at hv ⊢
    refine cm_step (fun k => by rw [spec_LogsMatch.l0]) ?_
    simp only [wrap_len hlt hx]
    refine cm_yes (by omega) (cm_if (fun c => cm_yes (by omega) (cm_yes (by omega) ?_)) (fun c => ?_))
    · have e1 : min pre.length y.length = pre.length := by omega
      have e2 : min (pre.length + 1) y.length = pre.length + 1 := by omega
      rw [e2] at hv
      rw [e1]
      refine cm_if (fun c2 => ?_) (fun c2 => ?_)
      · rw [down, if_pos c2] at hv
        exact hv
      · rw [down, if_neg c2] at hv
        exact hv
    · have e1 : min pre.length y.length = y.length := by omega
      have e2 : min (pre.length + 1) y.length = y.length := by omega
      rw [e2] at hv
      rw [e1]
      exact hv
  · simp only [Int.toNat_natCast]
    have := down_le x y (min x.length y.length)
    refine cm_step (fun k => by rw [spec_LogsMatch.l0]) ?_
    exact cm_no (by omega) (spec_like x y _ (by omega) (by omega) (by omega))
def matched (x y : List S67) : Bool × Bool := if (goodLog 100 x && goodLog 100 y) = true then (likeTo x y (down x y (min x.length y.length)), true) else (false, false)
theorem spec_f (x y : List S67) (hx : x.length ≤ 4611686018427387904) (hy : y.length ≤ 4611686018427387904) : Cm (fun k => spec_LogsMatch.f k x y) (matched x y) := by
  unfold spec_LogsMatch.f matched
  have hj : ∀ q : Bool, Cm (fun k => spec_LogsMatch.j0 k x y q) (if q = true then (false, false) else (likeTo x y (down x y (min x.length y.length)), true)) := by
    intro q
    refine cm_step (fun k => by rw [spec_LogsMatch.j0]) ?_
    cases q
    · exact cm_no (by simp) (spec_up x y hx)
    · exact cm_yes rfl (cm_now fun _ => rfl)
  refine cm_bind (l10Log_f x 100 hx) (cm_if (fun c => cm_bind (l10Log_f y 100 hy) (cm_val (hj _) ?_)) (fun c => cm_val (hj _) ?_))
  · rw [c]; cases goodLog 100 y <;> rfl
  · have c2 : goodLog 100 x = false := by simpa using c
    rw [c2]; rfl
theorem impl_f (x y : List S67) (hx : x.length ≤ 4611686018427387904) (hy : y.length ≤ 4611686018427387904) : Cm (fun k => impl_LogsMatch.f k x y) (matched x y) := by
  unfold impl_LogsMatch.f matched
  have hmn : mn (x.length : Int) (y.length : Int) = ((min x.length y.length : Nat) : Int) := by unfold mn; split <;> omega
  have hj : ∀ q : Bool, Cm (fun k => impl_LogsMatch.j0 k x y q) (if q = true then (false, false) else (likeTo x y (down x y (min x.length y.length)), true)) := by
    intro q
    refine cm_step (fun k => by rw [impl_LogsMatch.j0]) ?_
    cases q
    · rw [hmn]
      exact cm_no (by simp) (impl_down x y _ (by omega) (by omega) (by omega))
    · exact cm_yes rfl (cm_now fun _ => rfl)
  refine cm_bind (raftLog_f x 100 hx) (cm_if (fun c => cm_bind (raftLog_f y 100 hy) (cm_val (hj _) ?_)) (fun c => cm_val (hj _) ?_))
  · rw [c]; cases goodLog 100 y <;> rfl
  · have c2 : goodLog 100 x = false := by simpa using c
    rw [c2]; rfl
end Go.Proofs.Ytomdjipejoafgaa.Logs
end
section
namespace Go.Proofs.Ytomdjipejoafgaa.Pure
open Go.RowKit Go.Proofs.Ytomdjipejoafgaa.P Go.Proofs.YtomdjipejoafgaaW.PrintWords Go.Proofs.YtomdjipejoafgaaW.PrintLast Go.Proofs.YtomdjipejoafgaaW.PrintMore
open Go.Proofs.Ytomdjipejoafgaa.Pl Go.Proofs.Ytomdjipejoafgaa.EvN Go.Proofs.Ytomdjipejoafgaa.Lp Go.Proofs.Ytomdjipejoafgaa.Hg Go.Proofs.Ytomdjipejoafgaa.Logs
theorem FnExactLogsMatch : laws_FnExactLogsMatch.Pure := by
  intro l0 l1 h0 h1
  obtain ⟨v, hv⟩ := szEntryS_ex l0 h0 1048576
  obtain ⟨v2, hv2⟩ := szEntryS_ex l1 h1 v
  have s0 := smS_cEntry l0 h0
  have s1 := smS_cEntry l1 h1
  refine cm_ex (v := true) ?_
  unfold laws_FnExactLogsMatch.f
  refine cm_bind hv (cm_if (fun _ => cm_now fun _ => rfl) (fun _ => cm_bind hv2 (cm_if (fun _ => cm_now fun _ => rfl) (fun _ => ?_))))
  refine cm_bind (toEntryS_f l0 h0) (cm_bind (toEntryS_f l1 h1) (cm_bind (spec_f _ _ s0.1 s1.1) (cm_bind (toEntryS_f l0 h0) (cm_bind (toEntryS_f l1 h1) (cm_bind (impl_f _ _ s0.1 s1.1) (cm_no (by simp) ?_))))))
  simp only [bne_self_eq_false]
  refine cm_step (fun k => by rw [laws_FnExactLogsMatch.j0]) ?_
  refine cm_no (by simp) (cm_bind (toEntryS_f l0 h0) (cm_bind (eqEntryS_same _ s0) (cm_yes rfl ?_)))
  exact cm_bind (toEntryS_f l1 h1) (cm_bind (eqEntryS_same _ s1) (cm_yes rfl (cm_now fun _ => rfl)))
end Go.Proofs.Ytomdjipejoafgaa.Pure
end
