-- Written by programs of this session (wip/prune.py, wip/xp.py), out of the translation and the printed words; what the law does not reach is left out. Not trusted: Lean checks it.
import Derived.Test.YtgcliajajcinpaaZFnRacksW0
import Derived.Laws.BitsAllLaws
import Derived.Test.YtgcliajajcinpaaZFnRacksPx1
import Derived.Test.YtgcliajajcinpaaZFnRacksPx10
import Derived.Test.YtgcliajajcinpaaZFnRacksPx17
import Derived.Maps.Views
import Derived.Test.YtgcliajajcinpaaZFnRacksPx20
import Derived.Test.YtgcliajajcinpaaZFnRacksPx21
import Derived.Test.YtgcliajajcinpaaZFnRacksPx19
section
namespace Go.Proofs.Ytgcliajajcinpaa.Pl
open Go.RowKit Go.Proofs.YtgcliajajcinpaaW.PrintWords Go.Proofs.YtgcliajajcinpaaW.PrintLast Go.Proofs.YtgcliajajcinpaaW.PrintMore
theorem wrap_in {x : Int} (h0 : -9223372036854775808 ≤ x) (h1 : x ≤ 9223372036854775807) : wrap64 x = x := by
  unfold wrap64
  omega
theorem wrap_len {n m : Nat} (h : n < m) (hm : m ≤ 4611686018427387904) : wrap64 ((n : Int) + 1) = ((n + 1 : Nat) : Int) := by
  rw [wrap_in (by omega) (by omega)]
  omega
theorem round {k d : Nat} (h : d < k) : ∃ m, k = m + 1 := ⟨k - 1, by omega⟩
theorem rd_mid (pre : List Int) (h : Int) (t : List Int) : rd (pre ++ h :: t) (pre.length : Int) = h := by
  simp [rd]
theorem rd_at {pre t l : List Int} {h : Int} (e : pre ++ h :: t = l) : rd l (pre.length : Int) = h := by
  rw [← e]; exact rd_mid pre h t
theorem len_mid {α : Type} {pre t : List α} {h : α} {l : List α} (e : pre ++ h :: t = l) : pre.length < l.length := by
  rw [← e]; simp
theorem len_end {α : Type} {pre l : List α} (e : pre ++ [] = l) : pre.length = l.length := by
  rw [← e]; simp
theorem app_mid {α : Type} {pre t : List α} {h : α} {l : List α} (e : pre ++ h :: t = l) : (pre ++ [h]) ++ t = l := by
  rw [← e]; simp
theorem len_one {α : Type} (pre : List α) (h : α) : (pre ++ [h]).length = pre.length + 1 := by simp
theorem rd_last {pre rest l : List Int} {p : Int} (e : pre ++ rest = l) (h : pre.getLast? = some p) : 0 < pre.length ∧ rd l ((pre.length : Int) - 1) = p := by
  obtain ⟨q, rfl⟩ := List.getLast?_eq_some_iff.1 h
  refine ⟨by simp, ?_⟩
  have h2 : q ++ [p] ++ rest = q ++ p :: rest := by simp
  rw [← e, h2, len_one, show (((q.length + 1 : Nat) : Int) - 1) = (q.length : Int) by omega]
  exact rd_mid q p rest
theorem no_last {α : Type} {pre : List α} (h : pre.getLast? = none) : pre = [] := by
  simpa using h
end Go.Proofs.Ytgcliajajcinpaa.Pl
end
section
namespace Go.Proofs.Ytgcliajajcinpaa.EvN
def Cm {α : Type} (f : Nat → Option α) (v : α) : Prop := ∃ K, ∀ k, K ≤ k → f k = some v
theorem cm_now {α : Type} {f : Nat → Option α} {v : α} (h : ∀ k, f k = some v) : Cm f v := ⟨0, fun k _ => h k⟩
theorem cm_step {α : Type} {f g : Nat → Option α} {v : α} (h : ∀ k, f (k + 1) = g k) (hg : Cm g v) : Cm f v := by
  obtain ⟨K, hK⟩ := hg
  refine ⟨K + 1, fun k hk => ?_⟩
  obtain ⟨m, rfl⟩ : ∃ m, k = m + 1 := ⟨k - 1, by omega⟩
  rw [h, hK m (by omega)]
theorem cm_same {α : Type} {f g : Nat → Option α} {v : α} (h : ∀ k, f k = g k) (hg : Cm g v) : Cm f v := by
  obtain ⟨K, hK⟩ := hg
  exact ⟨K, fun k hk => by rw [h, hK k hk]⟩
theorem cm_bind {α β : Type} {a : Nat → Option α} {t : α} {g : Nat → α → Option β} {v : β} (ha : Cm a t) (hg : Cm (fun k => g k t) v) : Cm (fun k => (a k).bind (g k)) v := by
  obtain ⟨K, hK⟩ := ha
  obtain ⟨M, hM⟩ := hg
  exact ⟨K + M, fun k hk => by simp only [hK k (by omega)]; exact hM k (by omega)⟩
theorem cm_yes {α : Type} {c : Prop} [Decidable c] {x y : Nat → Option α} {v : α} (h : c) (h2 : Cm x v) : Cm (fun k => if c then x k else y k) v :=
  cm_same (fun _ => if_pos h) h2
theorem cm_no {α : Type} {c : Prop} [Decidable c] {x y : Nat → Option α} {v : α} (h : ¬ c) (h2 : Cm y v) : Cm (fun k => if c then x k else y k) v :=
  cm_same (fun _ => if_neg h) h2
theorem cm_one {α : Type} {f : Nat → Option α} {v u : α} (h : Cm f v) (h2 : Cm f u) : v = u := by
  obtain ⟨K, hK⟩ := h
  obtain ⟨M, hM⟩ := h2
  have := (hK (K + M) (by omega)).symm.trans (hM (K + M) (by omega))
  exact Option.some.inj this
theorem cm_ex {α : Type} {f : Nat → Option α} {v : α} (h : Cm f v) : ∃ k, f k = some v := by
  obtain ⟨K, hK⟩ := h
  exact ⟨K, hK K (Nat.le_refl _)⟩
end Go.Proofs.Ytgcliajajcinpaa.EvN
end
section
namespace Go.Proofs.Ytgcliajajcinpaa.Lp
open Go.RowKit Go.Proofs.YtgcliajajcinpaaW.PrintWords
open Go.Proofs.Ytgcliajajcinpaa.Pl Go.Proofs.Ytgcliajajcinpaa.EvN
theorem fold_cm {α σ ρ : Type} {L : Nat → Int → σ → Option ρ} (xs : List α) (g : σ → α → σ) (I : List α → σ → Prop) (s0 : σ) {v : ρ} (h0 : I [] s0)
    (hstep : ∀ pre h t s, pre ++ h :: t = xs → pre.length < xs.length → I pre s → I (pre ++ [h]) (g s h) ∧ ∀ u, Cm (fun k => L k ((pre.length + 1 : Nat) : Int) (g s h)) u → Cm (fun k => L k (pre.length : Int) s) u)
    (hend : I xs (xs.foldl g s0) → Cm (fun k => L k (xs.length : Int) (xs.foldl g s0)) v) : Cm (fun k => L k 0 s0) v := by
  have key : ∀ (rest pre : List α) (s : σ), pre ++ rest = xs → I pre s → rest.foldl g s = xs.foldl g s0 → Cm (fun k => L k (pre.length : Int) s) v := by
    intro rest
    induction rest with
    | nil =>
      intro pre s e hi hf
      rw [List.append_nil] at e
      subst e
      rw [List.foldl_nil] at hf
      subst hf
      exact hend hi
    | cons h t ih =>
      intro pre s e hi hf
      obtain ⟨h1, h2⟩ := hstep pre h t s e (len_mid e) hi
      refine h2 v ?_
      have := ih (pre ++ [h]) (g s h) (app_mid e) h1 (by simpa using hf)
      rw [len_one] at this
      exact this
  exact key xs [] s0 rfl h0 rfl
def okFrom {α : Type} (p : List α → α → Bool) : List α → List α → Bool
  | _, [] => true
  | pre, h :: t => p pre h && okFrom p (pre ++ [h]) t
theorem okFrom_iff {α : Type} (p : List α → α → Bool) : ∀ (rest pre : List α), okFrom p pre rest = true ↔ ∀ a h t, a ++ h :: t = rest → p (pre ++ a) h = true
  | [], pre => by
    simp only [okFrom, true_iff]
    intro a h t e
    simp at e
  | x :: t, pre => by
    simp only [okFrom, Bool.and_eq_true]
    rw [okFrom_iff p t (pre ++ [x])]
    constructor
    · rintro ⟨h1, h2⟩ a h t' e
      cases a with
      | nil =>
        simp only [List.nil_append, List.cons.injEq] at e
        obtain ⟨rfl, rfl⟩ := e
        simpa using h1
      | cons y a =>
        simp only [List.cons_append, List.cons.injEq] at e
        obtain ⟨rfl, e⟩ := e
        have := h2 a h t' e
        simpa using this
    · intro h
      refine ⟨by simpa using h [] x t rfl, fun a h' t' e => ?_⟩
      have := h (x :: a) h' t' (by simp [e])
      simpa using this
theorem all_cm {α ρ : Type} {L : Nat → Int → Option ρ} (xs : List α) (p : List α → α → Bool) {fin no : ρ}
    (hstep : ∀ pre h t, pre ++ h :: t = xs → pre.length < xs.length → p pre h = true → ∀ v, Cm (fun k => L k ((pre.length + 1 : Nat) : Int)) v → Cm (fun k => L k (pre.length : Int)) v)
    (hno : ∀ pre h t, pre ++ h :: t = xs → pre.length < xs.length → p pre h = false → Cm (fun k => L k (pre.length : Int)) no)
    (hend : okFrom p [] xs = true → Cm (fun k => L k (xs.length : Int)) fin) : Cm (fun k => L k 0) (if okFrom p [] xs = true then fin else no) := by
  have key : ∀ (rest pre : List α), pre ++ rest = xs → (okFrom p pre rest = okFrom p [] xs) → Cm (fun k => L k (pre.length : Int)) (if okFrom p pre rest = true then fin else no) := by
    intro rest
    induction rest with
    | nil =>
      intro pre e h
      rw [List.append_nil] at e
      subst e
      simp only [okFrom, if_true] at h ⊢
      exact hend h.symm
    | cons x t ih =>
      intro pre e h
      by_cases c : p pre x = true
      · have h2 : okFrom p pre (x :: t) = okFrom p (pre ++ [x]) t := by simp only [okFrom, c, Bool.true_and]
        rw [h2] at h ⊢
        have h3 := ih (pre ++ [x]) (app_mid e) h
        rw [len_one] at h3
        exact hstep pre x t e (len_mid e) c _ h3
      · have c2 : p pre x = false := by simpa using c
        have h2 : okFrom p pre (x :: t) = false := by simp only [okFrom, c2, Bool.false_and]
        rw [h2]
        simpa using hno pre x t e (len_mid e) c2
  exact key xs [] rfl rfl
theorem okFrom_all {α : Type} (p : α → Bool) : ∀ (rest pre : List α), okFrom (fun _ h => p h) pre rest = rest.all p
  | [], _ => rfl
  | x :: t, pre => by simp only [okFrom, List.all_cons, okFrom_all p t]
theorem every_cm {α ρ : Type} {L : Nat → Int → Option ρ} (xs : List α) (p : α → Bool) {fin no : ρ}
    (hstep : ∀ pre h t, pre ++ h :: t = xs → pre.length < xs.length → p h = true → ∀ v, Cm (fun k => L k ((pre.length + 1 : Nat) : Int)) v → Cm (fun k => L k (pre.length : Int)) v)
    (hno : ∀ pre h t, pre ++ h :: t = xs → pre.length < xs.length → p h = false → Cm (fun k => L k (pre.length : Int)) no)
    (hend : xs.all p = true → Cm (fun k => L k (xs.length : Int)) fin) : Cm (fun k => L k 0) (if xs.all p = true then fin else no) := by
  have := all_cm (L := L) xs (fun _ h => p h) hstep hno (by rw [okFrom_all]; exact hend)
  rw [okFrom_all] at this
  exact this
def foundAt {α ρ : Type} (p : α → Bool) (found : Nat → α → ρ) (none_ : ρ) : Nat → List α → ρ
  | _, [] => none_
  | i, h :: t => if p h = true then found i h else foundAt p found none_ (i + 1) t
theorem find_cm {α ρ : Type} {L : Nat → Int → Option ρ} (xs : List α) (p : α → Bool) (found : Nat → α → ρ) {none_ : ρ}
    (hstep : ∀ pre h t, pre ++ h :: t = xs → pre.length < xs.length → p h = false → ∀ v, Cm (fun k => L k ((pre.length + 1 : Nat) : Int)) v → Cm (fun k => L k (pre.length : Int)) v)
    (hyes : ∀ pre h t, pre ++ h :: t = xs → pre.length < xs.length → p h = true → Cm (fun k => L k (pre.length : Int)) (found pre.length h))
    (hend : Cm (fun k => L k (xs.length : Int)) none_) : Cm (fun k => L k 0) (foundAt p found none_ 0 xs) := by
  have key : ∀ (rest pre : List α), pre ++ rest = xs → Cm (fun k => L k (pre.length : Int)) (foundAt p found none_ pre.length rest) := by
    intro rest
    induction rest with
    | nil =>
      intro pre e
      rw [List.append_nil] at e
      subst e
      exact hend
    | cons x t ih =>
      intro pre e
      unfold foundAt
      by_cases c : p x = true
      · rw [if_pos c]
        exact hyes pre x t e (len_mid e) c
      · rw [if_neg c]
        have h3 := ih (pre ++ [x]) (app_mid e)
        rw [len_one] at h3
        exact hstep pre x t e (len_mid e) (by simpa using c) _ h3
  exact key xs [] rfl
theorem found_any {α : Type} (p : α → Bool) : ∀ (l : List α) (i : Nat), decide (foundAt p (fun i _ => (i : Int)) (-1) i l ≥ 0) = l.any p
  | [], _ => by simp [foundAt]
  | h :: t, i => by
    unfold foundAt
    by_cases c : p h = true
    · rw [if_pos c]; simp [c]
    · rw [if_neg c, found_any p t (i + 1)]; simp [c]
theorem not_any {α : Type} (p q : α → Bool) (l : List α) (h : ∀ x ∈ l, p x = !q x) : (!l.any p) = l.all q := by
  induction l with
  | nil => rfl
  | cons x t ih => rw [List.any_cons, List.all_cons, h x (by simp), ← ih (fun y hy => h y (by simp [hy]))]; cases q x <;> simp
theorem same_cm {α ρ : Type} {L : Nat → Int → Option ρ} (xs : List α) {fin : ρ}
    (hstep : ∀ pre h t, pre ++ h :: t = xs → pre.length < xs.length → ∀ v, Cm (fun k => L k ((pre.length + 1 : Nat) : Int)) v → Cm (fun k => L k (pre.length : Int)) v)
    (hend : Cm (fun k => L k (xs.length : Int)) fin) : Cm (fun k => L k 0) fin := by
  have := every_cm (L := L) xs (fun _ => true) (fin := fin) (no := fin) (fun pre h t e hl _ => hstep pre h t e hl) (fun _ _ _ _ _ hp => by cases hp) (fun _ => hend)
  have h : (xs.all fun _ => true) = true := by simp
  rw [if_pos h] at this
  exact this
theorem cm_if {α : Type} {c : Prop} [Decidable c] {x y : Nat → Option α} {v : α} (h : c → Cm x v) (h2 : ¬ c → Cm y v) : Cm (fun k => if c then x k else y k) v := by
  by_cases hc : c
  · exact cm_yes hc (h hc)
  · exact cm_no hc (h2 hc)
theorem getD_at {α : Type} {pre t l : List α} {h : α} (e : pre ++ h :: t = l) (d : α) : l.getD ((pre.length : Int)).toNat d = h := by
  rw [← e]; simp
theorem take_at {α : Type} {pre t l : List α} (e : pre ++ t = l) : l.take ((pre.length : Int)).toNat = pre := by
  rw [← e]; simp
theorem wrap_less {n : Nat} (h : 0 < n) (hm : n ≤ 4611686018427387904) : wrap64 ((n : Int) - 1) = (n : Int) - 1 := wrap_in (by omega) (by omega)
theorem cm_val {α : Type} {f : Nat → Option α} {u v : α} (h : Cm f u) (e : u = v) : Cm f v := e ▸ h
end Go.Proofs.Ytgcliajajcinpaa.Lp
end
section
namespace Go.Proofs.Ytgcliajajcinpaa.Sets
open Go.RowKit Go.Proofs.YtgcliajajcinpaaW.PrintWords Go.Proofs.YtgcliajajcinpaaW.PrintLast Go.Proofs.YtgcliajajcinpaaW.PrintMore
open Go.Proofs.Ytgcliajajcinpaa.Pl Go.Proofs.Ytgcliajajcinpaa.EvN Go.Proofs.Ytgcliajajcinpaa.Lp
set_option linter.unusedSimpArgs false
set_option linter.unusedVariables false
theorem i64_in {x : Int} (h0 : 0 ≤ x) (h1 : x < 9223372036854775808) : IntKind.i64.wrap x = x := by
  simp [IntKind.wrap, IntKind.bits, IntKind.signed]
  omega
theorem ofInt_nat (a : Nat) (ha : a < 9223372036854775808) : (BitVec.ofInt 64 (a : Int)).toNat = a := by
  rw [BitVec.ofInt_natCast, BitVec.toNat_ofNat]
  exact Nat.mod_eq_of_lt (by omega)
theorem and_i64 (a b : Nat) (ha : a < 9223372036854775808) (hb : b < 9223372036854775808) : Go.bits .and .i64 (a : Int) (b : Int) = ((a &&& b : Nat) : Int) := by
  have hx : a &&& b < 2 ^ 63 := Nat.and_lt_two_pow _ (by omega)
  show IntKind.i64.wrap ((BitVec.ofInt 64 (a : Int) &&& BitVec.ofInt 64 (b : Int)).toNat : Int) = _
  rw [BitVec.toNat_and, ofInt_nat a ha, ofInt_nat b hb, i64_in (by omega) (by omega)]
theorem shl_one {m : Int} (h0 : 0 ≤ m) (h1 : m < 62) : shl .i64 1 m = ((2 ^ m.toNat : Nat) : Int) := by
  have hm : min m.toNat IntKind.i64.bits = m.toNat := by
    have : IntKind.i64.bits = 64 := rfl
    omega
  have hp : 2 ^ m.toNat < 2 ^ 62 := Nat.pow_lt_pow_right (by omega) (by omega)
  unfold shl
  rw [hm, Int.one_mul, show ((2 : Int) ^ m.toNat) = ((2 ^ m.toNat : Nat) : Int) by simp]
  generalize 2 ^ m.toNat = z at hp
  exact i64_in (by omega) (by omega)
theorem shr_nat (a : Nat) {m : Int} (h1 : m ≤ 64) : shr .i64 (a : Int) m = ((a / 2 ^ m.toNat : Nat) : Int) := by
  have hm : min m.toNat IntKind.i64.bits = m.toNat := by
    have : IntKind.i64.bits = 64 := rfl
    omega
  unfold shr
  rw [hm]
  simp
theorem bit_i64 (a : Nat) {m : Int} (ha : a < 9223372036854775808) (h0 : 0 ≤ m) (h1 : m ≤ 64) : Go.bits .and .i64 (shr .i64 (a : Int) m) 1 = if a.testBit m.toNat = true then 1 else 0 := by
  have hd : a / 2 ^ m.toNat ≤ a := Nat.div_le_self _ _
  rw [shr_nat a h1, show (1 : Int) = ((1 : Nat) : Int) from rfl, and_i64 _ _ (by omega) (by omega), Nat.and_one_is_mod, Nat.testBit_eq_decide_div_mod_eq]
  by_cases c : a / 2 ^ m.toNat % 2 = 1
  · simp [c]
  · have c2 : a / 2 ^ m.toNat % 2 = 0 := by omega
    simp [c2]
def rises (many : Int) (pre : List Int) (h : Int) : Bool := decide (0 ≤ h ∧ h < many) && (match pre.getLast? with | some q => decide (q < h) | none => true)
def members (many : Int) (l : List Int) : Bool := okFrom (rises many) [] l
theorem members_in {many : Int} {l : List Int} (h : members many l = true) : ∀ x ∈ l, 0 ≤ x ∧ x < many := by
  intro x hx
  obtain ⟨a, t, e⟩ := List.append_of_mem hx
  have := (okFrom_iff (rises many) l []).1 h a x t e.symm
  simp only [rises, Bool.and_eq_true, decide_eq_true_eq] at this
  exact this.1
end Go.Proofs.Ytgcliajajcinpaa.Sets
end
section
namespace Go.Proofs.Ytgcliajajcinpaa.Mem
open Go.RowKit Go.Proofs.Ytgcliajajcinpaa.P Go.Proofs.YtgcliajajcinpaaW.PrintWords Go.Proofs.YtgcliajajcinpaaW.PrintLast Go.Proofs.YtgcliajajcinpaaW.PrintMore
open Go.Proofs.Ytgcliajajcinpaa.Pl Go.Proofs.Ytgcliajajcinpaa.EvN Go.Proofs.Ytgcliajajcinpaa.Lp Go.Proofs.Ytgcliajajcinpaa.Sets
set_option linter.unusedSimpArgs false
set_option linter.unusedVariables false
theorem in_f (a b c : Int) : impl_in.f a b c = some (decide (b ≤ a ∧ a ≤ c)) := by
  unfold impl_in.f
  by_cases h : a ≥ b
  · rw [if_pos h]; congr 1; rw [decide_eq_decide]; omega
  · rw [if_neg h]; congr 1; symm; rw [decide_eq_false_iff_not]; omega
theorem l1In_f (a b c : Int) : spec_l1In.f a b c = some (decide (b ≤ a ∧ a ≤ c)) := by
  unfold spec_l1In.f
  by_cases h : a ≥ b
  · rw [if_pos h]; congr 1; rw [decide_eq_decide]; omega
  · rw [if_neg h]; congr 1; symm; rw [decide_eq_false_iff_not]; omega
theorem l1_at {pre t l : List (List Int)} {h : List Int} (e : pre ++ h :: t = l) : rd_L1 l (pre.length : Int) = h := getD_at e _
theorem if_self (b : Bool) : (if b = true then true else false) = b := by cases b <;> rfl
theorem rises_no {many : Int} {pre : List Int} {h : Int} (hp : rises many pre h = false) (h0 : 0 ≤ h) (h1 : h < many) : ∃ q, pre.getLast? = some q ∧ h ≤ q := by
  unfold rises at hp
  cases e : pre.getLast? with
  | none => rw [e] at hp; simp at hp; omega
  | some q =>
    rw [e] at hp
    simp at hp
    exact ⟨q, rfl, by omega⟩
theorem rises_yes {many : Int} {pre : List Int} {h : Int} (hp : rises many pre h = true) : (0 ≤ h ∧ h < many) ∧ ∀ q, pre.getLast? = some q → q < h := by
  unfold rises at hp
  simp only [Bool.and_eq_true, decide_eq_true_eq] at hp
  refine ⟨hp.1, fun q e => ?_⟩
  have h2 := hp.2
  rw [e] at h2
  simpa using h2
theorem last_cases {α : Type} (pre : List α) : pre = [] ∨ ∃ q, pre.getLast? = some q := by
  cases e : pre.getLast? with
  | none => exact .inl (no_last e)
  | some q => exact .inr ⟨q, rfl⟩
end Go.Proofs.Ytgcliajajcinpaa.Mem
end
section
namespace Go.Proofs.Ytgcliajajcinpaa.Mem
open Go.RowKit Go.Proofs.Ytgcliajajcinpaa.P Go.Proofs.YtgcliajajcinpaaW.PrintWords Go.Proofs.YtgcliajajcinpaaW.PrintLast Go.Proofs.YtgcliajajcinpaaW.PrintMore
open Go.Proofs.Ytgcliajajcinpaa.Pl Go.Proofs.Ytgcliajajcinpaa.EvN Go.Proofs.Ytgcliajajcinpaa.Lp Go.Proofs.Ytgcliajajcinpaa.Sets
set_option linter.unusedSimpArgs false
set_option linter.unusedVariables false
theorem has_f (l : List Int) (n : Int) (hl : l.length ≤ 4611686018427387904) : Cm (fun k => spec_l1Has.f k l n) (decide (n ∈ l)) := by
  unfold spec_l1Has.f
  have := every_cm (L := fun k i => spec_l1Has.l0 k n l (l.length : Int) i) l (fun x => decide (x ≠ n)) (fin := false) (no := true) ?_ ?_ ?_
  · refine cm_val this ?_
    by_cases c : n ∈ l
    · simp [c]
    · simp [c]
      intro x hx e
      subst e
      exact c hx
  · intro pre h t e hlt hp v hv
    simp only [decide_eq_true_eq] at hp
    refine cm_step (fun k => by rw [spec_l1Has.l0]) ?_
    simp only [rd_at e, wrap_len hlt hl]
    repeat (first | assumption | exact cm_now (fun _ => rfl) | refine cm_yes (by first | omega | assumption | (simp; done) | (simp; omega)) ?_ | refine cm_no (by first | omega | assumption | (simp; done) | (simp; omega)) ?_)
  · intro pre h t e hlt hp
    simp only [decide_eq_false_iff_not, ne_eq, Decidable.not_not] at hp
    refine cm_step (fun k => by rw [spec_l1Has.l0]) ?_
    simp only [rd_at e, wrap_len hlt hl]
    repeat (first | assumption | exact cm_now (fun _ => rfl) | refine cm_yes (by first | omega | assumption | (simp; done) | (simp; omega)) ?_ | refine cm_no (by first | omega | assumption | (simp; done) | (simp; omega)) ?_)
  · intro _
    refine cm_step (fun k => by rw [spec_l1Has.l0]) ?_
    repeat (first | assumption | exact cm_now (fun _ => rfl) | refine cm_yes (by first | omega | assumption | (simp; done) | (simp; omega)) ?_ | refine cm_no (by first | omega | assumption | (simp; done) | (simp; omega)) ?_)
theorem group_f (l : List Int) (many : Int) (hl : l.length ≤ 4611686018427387904) : Cm (fun k => spec_l6Group.f k l many) (members many l) := by
  unfold spec_l6Group.f
  have := all_cm (L := fun k i => spec_l6Group.l0 k l many l (l.length : Int) i) l (rises many) (fin := true) (no := false) ?_ ?_ ?_
  · exact cm_val this (if_self _)
  · intro pre h t e hlt hp v hv
    obtain ⟨⟨h0, h1⟩, h2⟩ := rises_yes hp
    refine cm_step (fun k => by rw [spec_l6Group.l0]) ?_
    simp only [rd_at e, wrap_len hlt hl]
    refine cm_yes (by omega) (cm_yes (by omega) (cm_yes (by omega) (cm_no (by omega) (cm_no (by omega) ?_))))
    rcases last_cases pre with rfl | ⟨q, hq⟩
    · exact cm_no (by simp) hv
    · obtain ⟨h3, h4⟩ := rd_last e hq
      have h5 := h2 q hq
      rw [wrap_less h3 (by omega), h4]
      repeat (first | assumption | exact cm_now (fun _ => rfl) | refine cm_yes (by first | omega | assumption | (simp; done) | (simp; omega)) ?_ | refine cm_no (by first | omega | assumption | (simp; done) | (simp; omega)) ?_)
  · intro pre h t e hlt hp
    refine cm_step (fun k => by rw [spec_l6Group.l0]) ?_
    simp only [rd_at e, wrap_len hlt hl]
    refine cm_yes (by omega) (cm_yes (by omega) (cm_yes (by omega) ?_))
    refine cm_if (fun _ => cm_now fun _ => rfl) (fun c0 => cm_if (fun _ => cm_now fun _ => rfl) (fun c1 => ?_))
    obtain ⟨q, hq, h5⟩ := rises_no hp (by omega) (by omega)
    obtain ⟨h3, h4⟩ := rd_last e hq
    rw [wrap_less h3 (by omega), h4]
    repeat (first | assumption | exact cm_now (fun _ => rfl) | refine cm_yes (by first | omega | assumption | (simp; done) | (simp; omega)) ?_ | refine cm_no (by first | omega | assumption | (simp; done) | (simp; omega)) ?_)
  · intro _
    refine cm_step (fun k => by rw [spec_l6Group.l0]) ?_
    repeat (first | assumption | exact cm_now (fun _ => rfl) | refine cm_yes (by first | omega | assumption | (simp; done) | (simp; omega)) ?_ | refine cm_no (by first | omega | assumption | (simp; done) | (simp; omega)) ?_)
theorem areMembers_f (l : List Int) (many : Int) (hl : l.length ≤ 4611686018427387904) (hm : 0 ≤ many ∧ many ≤ 4611686018427387904) : Cm (fun k => impl_areMembers.f k l many) (members many l) := by
  have hw : wrap64 (many - 1) = many - 1 := wrap_in (by omega) (by omega)
  unfold impl_areMembers.f
  have := all_cm (L := fun k i => impl_areMembers.l0 k l many l (l.length : Int) i) l (rises many) (fin := true) (no := false) ?_ ?_ ?_
  · exact cm_val this (if_self _)
  · intro pre h t e hlt hp v hv
    obtain ⟨⟨h0, h1⟩, h2⟩ := rises_yes hp
    refine cm_step (fun k => by rw [impl_areMembers.l0]) ?_
    simp only [rd_at e, wrap_len hlt hl, hw]
    refine cm_yes (by omega) (cm_yes (by omega) (cm_yes (by omega) (cm_bind (cm_now fun _ => in_f _ _ _) (cm_yes (by simp; omega) ?_))))
    rcases last_cases pre with rfl | ⟨q, hq⟩
    · exact cm_no (by simp) hv
    · obtain ⟨h3, h4⟩ := rd_last e hq
      have h5 := h2 q hq
      rw [wrap_less h3 (by omega), h4]
      repeat (first | assumption | exact cm_now (fun _ => rfl) | refine cm_yes (by first | omega | assumption | (simp; done) | (simp; omega)) ?_ | refine cm_no (by first | omega | assumption | (simp; done) | (simp; omega)) ?_)
  · intro pre h t e hlt hp
    refine cm_step (fun k => by rw [impl_areMembers.l0]) ?_
    simp only [rd_at e, wrap_len hlt hl, hw]
    refine cm_yes (by omega) (cm_yes (by omega) (cm_yes (by omega) (cm_bind (cm_now fun _ => in_f _ _ _) ?_)))
    refine cm_if (fun c0 => ?_) (fun _ => cm_now fun _ => rfl)
    simp only [decide_eq_true_eq] at c0
    obtain ⟨q, hq, h5⟩ := rises_no hp (by omega) (by omega)
    obtain ⟨h3, h4⟩ := rd_last e hq
    rw [wrap_less h3 (by omega), h4]
    repeat (first | assumption | exact cm_now (fun _ => rfl) | refine cm_yes (by first | omega | assumption | (simp; done) | (simp; omega)) ?_ | refine cm_no (by first | omega | assumption | (simp; done) | (simp; omega)) ?_)
  · intro _
    refine cm_step (fun k => by rw [impl_areMembers.l0]) ?_
    repeat (first | assumption | exact cm_now (fun _ => rfl) | refine cm_yes (by first | omega | assumption | (simp; done) | (simp; omega)) ?_ | refine cm_no (by first | omega | assumption | (simp; done) | (simp; omega)) ?_)
theorem contains_f (l : List Int) (n : Int) (hl : l.length ≤ 4611686018427387904) : Cm (fun k => slices_Contains_int_int.f k l n) (decide (n ∈ l)) := by
  unfold slices_Contains_int_int.f slices_Index_int_int.f
  refine cm_bind (t := foundAt (fun x => decide (n = x)) (fun i _ => (i : Int)) (-1) 0 l) ?_ (cm_now fun _ => ?_)
  · refine find_cm (L := fun k i => slices_Index_int_int.l0 k l n (l.length : Int) i) l (fun x => decide (n = x)) (fun i _ => (i : Int)) (none_ := (-1 : Int)) ?_ ?_ ?_
    · intro pre h t e hlt hp v hv
      simp only [decide_eq_false_iff_not] at hp
      refine cm_step (fun k => by rw [slices_Index_int_int.l0]) ?_
      simp only [rd_at e, wrap_len hlt hl]
      repeat (first | assumption | exact cm_now (fun _ => rfl) | refine cm_yes (by first | omega | assumption | (simp; done) | (simp; omega)) ?_ | refine cm_no (by first | omega | assumption | (simp; done) | (simp; omega)) ?_)
    · intro pre h t e hlt hp
      simp only [decide_eq_true_eq] at hp
      refine cm_step (fun k => by rw [slices_Index_int_int.l0]) ?_
      simp only [rd_at e, wrap_len hlt hl]
      repeat (first | assumption | exact cm_now (fun _ => rfl) | refine cm_yes (by first | omega | assumption | (simp; done) | (simp; omega)) ?_ | refine cm_no (by first | omega | assumption | (simp; done) | (simp; omega)) ?_)
    · refine cm_step (fun k => by rw [slices_Index_int_int.l0]) ?_
      repeat (first | assumption | exact cm_now (fun _ => rfl) | refine cm_yes (by first | omega | assumption | (simp; done) | (simp; omega)) ?_ | refine cm_no (by first | omega | assumption | (simp; done) | (simp; omega)) ?_)
  · rw [found_any]
    congr 1
    rw [Bool.eq_iff_iff]
    simp
end Go.Proofs.Ytgcliajajcinpaa.Mem
end
section
namespace Go.Proofs.Ytgcliajajcinpaa.Put
open Go.RowKit Go.Proofs.Ytgcliajajcinpaa.P Go.Proofs.YtgcliajajcinpaaW.PrintWords Go.Proofs.YtgcliajajcinpaaW.PrintLast Go.Proofs.YtgcliajajcinpaaW.PrintMore
open Go.Proofs.Ytgcliajajcinpaa.Pl Go.Proofs.Ytgcliajajcinpaa.EvN Go.Proofs.Ytgcliajajcinpaa.Lp
set_option linter.unusedSimpArgs false
set_option linter.unusedVariables false
def putL : List Int → Int → List Int
  | [], n => [n]
  | h :: t, n => if h < n then h :: putL t n else if h = n then h :: t else n :: h :: t
def Inc (l : List Int) : Prop := l.Pairwise (· < ·)
theorem mem_put (x n : Int) : ∀ l : List Int, x ∈ putL l n ↔ x = n ∨ x ∈ l
  | [] => by simp [putL]
  | h :: t => by
    unfold putL
    by_cases c : h < n
    · rw [if_pos c]
      simp only [List.mem_cons, mem_put x n t]
      constructor
      · rintro (h1 | h1 | h1)
        · exact .inr (.inl h1)
        · exact .inl h1
        · exact .inr (.inr h1)
      · rintro (h1 | h1 | h1)
        · exact .inr (.inl h1)
        · exact .inl h1
        · exact .inr (.inr h1)
    · rw [if_neg c]
      by_cases c2 : h = n
      · rw [if_pos c2]
        subst c2
        simp
      · rw [if_neg c2]
        simp
theorem put_inc (n : Int) : ∀ l : List Int, Inc l → Inc (putL l n)
  | [], _ => by simp [putL, Inc]
  | h :: t, hi => by
    have hi2 := List.pairwise_cons.1 hi
    unfold putL
    by_cases c : h < n
    · rw [if_pos c]
      refine List.pairwise_cons.2 ⟨fun x hx => ?_, put_inc n t hi2.2⟩
      rcases (mem_put x n t).1 hx with rfl | hx
      · exact c
      · exact hi2.1 x hx
    · rw [if_neg c]
      by_cases c2 : h = n
      · rw [if_pos c2]; exact hi
      · rw [if_neg c2]
        refine List.pairwise_cons.2 ⟨fun x hx => ?_, hi⟩
        rcases List.mem_cons.1 hx with rfl | hx
        · omega
        · have := hi2.1 x hx
          omega
theorem put_len (n : Int) : ∀ l : List Int, Inc l → (putL l n).length = if n ∈ l then l.length else l.length + 1
  | [], _ => by simp [putL]
  | h :: t, hi => by
    have hi2 := List.pairwise_cons.1 hi
    unfold putL
    by_cases c : h < n
    · rw [if_pos c, List.length_cons, put_len n t hi2.2]
      have : ¬ n = h := by omega
      by_cases c3 : n ∈ t
      · rw [if_pos c3, if_pos (by simp [c3])]; simp
      · rw [if_neg c3, if_neg (by simp [this, c3])]; simp
    · rw [if_neg c]
      by_cases c2 : h = n
      · rw [if_pos c2, if_pos (by simp [c2])]
      · rw [if_neg c2, if_neg ?_]
        · simp
        · intro hm
          rcases List.mem_cons.1 hm with hm | hm
          · exact c2 hm.symm
          · have := hi2.1 n hm
            omega
theorem put_le (n : Int) : ∀ l : List Int, (putL l n).length ≤ l.length + 1
  | [] => by simp [putL]
  | h :: t => by
    have := put_le n t
    unfold putL
    by_cases c : h < n
    · rw [if_pos c]; simp only [List.length_cons]; omega
    · rw [if_neg c]
      by_cases c2 : h = n
      · rw [if_pos c2]; simp
      · rw [if_neg c2]; simp
def putAll (s l : List Int) : List Int := l.foldl putL s
theorem putAll_inc : ∀ (l s : List Int), Inc s → Inc (putAll s l)
  | [], s, h => h
  | x :: t, s, h => putAll_inc t (putL s x) (put_inc x s h)
theorem mem_putAll (x : Int) : ∀ (l s : List Int), x ∈ putAll s l ↔ x ∈ s ∨ x ∈ l
  | [], s => by simp [putAll]
  | y :: t, s => by
    have := mem_putAll x t (putL s y)
    show x ∈ putAll (putL s y) t ↔ _
    rw [this, mem_put]
    simp only [List.mem_cons]
    constructor
    · rintro ((h | h) | h)
      · exact .inr (.inl h)
      · exact .inl h
      · exact .inr (.inr h)
    · rintro (h | h | h)
      · exact .inl (.inr h)
      · exact .inl (.inl h)
      · exact .inr h
theorem put_f (l : List Int) (n : Int) (hl : l.length ≤ 1048576) : Cm (fun k => spec_l1Put.f k l n) (putL l n) := by
  unfold spec_l1Put.f
  have key : ∀ (rest pre : List Int), pre ++ rest = l → Cm (fun k => spec_l1Put.l0 k l n (pre.length : Int)) (pre ++ putL rest n) := by
    intro rest
    induction rest with
    | nil =>
      intro pre e
      have h1 := len_end e
      have h2 : l.take ((pre.length : Int)).toNat = pre := take_at e
      have h3 : l.drop ((pre.length : Int)).toNat = [] := by rw [← e]; simp
      refine cm_step (fun k => by rw [spec_l1Put.l0]) ?_
      rw [h2, h3]
      refine cm_no (by omega) (cm_yes (by omega) (cm_yes (by omega) (cm_bind (cm_now fun _ => rfl) (cm_yes (by simp; omega) (cm_bind (cm_now fun _ => rfl) (cm_yes (by simp; omega) (cm_bind (cm_now fun _ => rfl) (cm_bind (cm_now fun _ => rfl) (cm_yes (by simp; omega) (cm_now fun _ => ?_))))))))))
      simp [putL]
    | cons h t ih =>
      intro pre e
      have hlt := len_mid e
      have h2 : l.take ((pre.length : Int)).toNat = pre := take_at e
      have h3 : l.drop ((pre.length : Int)).toNat = h :: t := by rw [← e]; simp
      have h4 := congrArg List.length e
      simp only [List.length_append, List.length_cons] at h4
      have ih2 := ih (pre ++ [h]) (app_mid e)
      rw [len_one] at ih2
      refine cm_step (fun k => by rw [spec_l1Put.l0]) ?_
      simp only [rd_at e, wrap_len hlt (show l.length ≤ 4611686018427387904 by omega)]
      rw [h2, h3]
      refine cm_yes (by omega) (cm_yes (by omega) ?_)
      by_cases c : h < n
      · have e1 : putL (h :: t) n = h :: putL t n := by rw [putL, if_pos c]
        rw [e1]
        refine cm_yes c (cm_val ih2 (by simp))
      · by_cases c2 : h = n
        · have e1 : putL (h :: t) n = h :: t := by rw [putL, if_neg c, if_pos c2]
          rw [e1, e]
          refine cm_no c (cm_yes c2 (cm_now fun _ => rfl))
        · have e1 : putL (h :: t) n = n :: h :: t := by rw [putL, if_neg c, if_neg c2]
          rw [e1]
          refine cm_no c (cm_no c2 (cm_yes (by omega) (cm_bind (cm_now fun _ => rfl) (cm_yes (by simp; omega) (cm_bind (cm_now fun _ => rfl) (cm_yes (by simp; omega) (cm_bind (cm_now fun _ => rfl) (cm_bind (cm_now fun _ => rfl) (cm_yes (by simp; omega) (cm_now fun _ => ?_))))))))))
          simp
  exact key l [] rfl
end Go.Proofs.Ytgcliajajcinpaa.Put
end
section
namespace Go.Proofs.Ytgcliajajcinpaa.Rack
open Go.RowKit Go.Proofs.Ytgcliajajcinpaa.P Go.Proofs.YtgcliajajcinpaaW.PrintWords Go.Proofs.YtgcliajajcinpaaW.PrintLast Go.Proofs.YtgcliajajcinpaaW.PrintMore
open Go.Proofs.Ytgcliajajcinpaa.Pl Go.Proofs.Ytgcliajajcinpaa.EvN Go.Proofs.Ytgcliajajcinpaa.Lp Go.Proofs.Ytgcliajajcinpaa.Sets Go.Proofs.Ytgcliajajcinpaa.Mem Go.Proofs.Ytgcliajajcinpaa.Put
set_option linter.unusedSimpArgs false
set_option linter.unusedVariables false
def racks (l : List Int) : Bool := l.all (fun r => decide (0 ≤ r ∧ r ≤ 3)) && decide (1 ≤ l.length ∧ l.length ≤ 6)
theorem racks_iff {l : List Int} : racks l = true ↔ (∀ r ∈ l, 0 ≤ r ∧ r ≤ 3) ∧ (1 ≤ l.length ∧ l.length ≤ 6) := by
  simp [racks]
theorem l13Racks_f (l : List Int) (hl : l.length ≤ 4611686018427387904) : Cm (fun k => spec_l13Racks.f k l) (racks l) := by
  unfold spec_l13Racks.f
  have := every_cm (L := fun k i => spec_l13Racks.l0 k l l (l.length : Int) i) l (fun r => decide (0 ≤ r ∧ r ≤ 3)) (fin := decide (1 ≤ l.length ∧ l.length ≤ 6)) (no := false) ?_ ?_ ?_
  · refine cm_val this ?_
    unfold racks
    cases l.all fun r => decide (0 ≤ r ∧ r ≤ 3) <;> simp
  · intro pre h t e hlt hp v hv
    refine cm_step (fun k => by rw [spec_l13Racks.l0]) ?_
    simp only [rd_at e, wrap_len hlt hl, l1In_f]
    exact cm_yes (by omega) (cm_yes (by omega) (cm_yes (by omega) (cm_bind (cm_now fun _ => rfl) (cm_yes hp hv))))
  · intro pre h t e hlt hp
    refine cm_step (fun k => by rw [spec_l13Racks.l0]) ?_
    simp only [rd_at e, wrap_len hlt hl, l1In_f]
    exact cm_yes (by omega) (cm_yes (by omega) (cm_yes (by omega) (cm_bind (cm_now fun _ => rfl) (cm_no (by simpa using hp) (cm_now fun _ => rfl)))))
  · intro _
    refine cm_step (fun k => by rw [spec_l13Racks.l0]) ?_
    simp only [l1In_f]
    refine cm_no (by omega) (cm_bind (cm_now fun _ => rfl) (cm_now fun _ => ?_))
    congr 1
    rw [decide_eq_decide]
    omega
theorem anyR_index (l : List Int) (hl : l.length ≤ 4611686018427387904) (p : Int → Bool) (hc : ∀ h ∈ l, Cm (fun k => impl_areRacks_1.f h) (p h)) :
    Cm (fun k => slices_IndexFunc_int_int_of_impl_areRacks_1.f k l) (foundAt p (fun i _ => (i : Int)) (-1) 0 l) := by
  unfold slices_IndexFunc_int_int_of_impl_areRacks_1.f
  refine find_cm (L := fun k i => slices_IndexFunc_int_int_of_impl_areRacks_1.l0 k l (l.length : Int) i) l p (fun i _ => (i : Int)) (none_ := (-1 : Int)) ?_ ?_ ?_
  · intro pre h t e hlt hp v hv
    refine cm_step (fun k => by rw [slices_IndexFunc_int_int_of_impl_areRacks_1.l0]) ?_
    simp only [rd_at e, wrap_len hlt hl]
    refine cm_yes (by omega) (cm_yes (by omega) (cm_yes (by omega) (cm_bind (hc h (by rw [← e]; simp)) ?_)))
    exact cm_no (by simpa using hp) hv
  · intro pre h t e hlt hp
    refine cm_step (fun k => by rw [slices_IndexFunc_int_int_of_impl_areRacks_1.l0]) ?_
    simp only [rd_at e, wrap_len hlt hl]
    refine cm_yes (by omega) (cm_yes (by omega) (cm_yes (by omega) (cm_bind (hc h (by rw [← e]; simp)) ?_)))
    exact cm_yes hp (cm_now fun _ => rfl)
  · refine cm_step (fun k => by rw [slices_IndexFunc_int_int_of_impl_areRacks_1.l0]) ?_
    exact cm_no (by omega) (cm_now fun _ => rfl)
theorem anyR (l : List Int) (hl : l.length ≤ 4611686018427387904) (p : Int → Bool) (hc : ∀ h ∈ l, Cm (fun k => impl_areRacks_1.f h) (p h)) : Cm (fun k => slices_ContainsFunc_int_int_of_impl_areRacks_1.f k l) (l.any p) := by
  unfold slices_ContainsFunc_int_int_of_impl_areRacks_1.f
  refine cm_bind (anyR_index l hl p hc) (cm_now fun _ => ?_)
  rw [found_any]
theorem areRacks_f (l : List Int) (hl : l.length ≤ 4611686018427387904) : Cm (fun k => impl_areRacks.f k l) (racks l) := by
  unfold impl_areRacks.f
  simp only [in_f]
  refine cm_bind (cm_now fun _ => rfl) ?_
  by_cases c : 1 ≤ l.length ∧ l.length ≤ 6
  · refine cm_yes (by simp; omega) (cm_bind (anyR l hl (fun r => !decide (0 ≤ r ∧ r ≤ 3)) (fun r _ => cm_now fun _ => ?_)) (cm_now fun _ => ?_))
    · unfold impl_areRacks_1.f
      rw [in_f]
      rfl
    · rw [not_any _ (fun r => decide (0 ≤ r ∧ r ≤ 3)) l (fun _ _ => rfl)]
      simp [racks, c]
  · refine cm_no (by simp; omega) (cm_now fun _ => ?_)
    simp [racks, c]
def many (l : List Int) : Nat := (putAll [] l).length
theorem inc_nil : Inc [] := List.Pairwise.nil
theorem keys_len : ∀ (s : List Int) (A : List Lit) (L : List Int), Inc L → (∀ x : Int, A.any (fun y => y.sameKey (Lit.int .i64 x)) = decide (x ∈ L)) → A.length = L.length → ((s.map (fun x => Lit.int .i64 x)).foldl Go.Maps.addKey A).length = (putAll L s).length
  | [], A, L, _, _, h => h
  | x :: t, A, L, hL, hA, h => by
    have h1 : (putAll L (x :: t)) = putAll (putL L x) t := rfl
    rw [h1, List.map_cons, List.foldl_cons]
    refine keys_len t _ _ (put_inc x L hL) (fun y => ?_) ?_
    · unfold Go.Maps.addKey
      rw [hA x]
      by_cases c : x ∈ L
      · rw [if_pos (by simp [c]), hA y]
        rw [decide_eq_decide, mem_put]
        constructor
        · exact .inr
        · rintro (rfl | h2)
          · exact c
          · exact h2
      · rw [if_neg (by simp [c]), List.any_append, hA y]
        have e2 : ([Lit.int IntKind.i64 x].any fun z => z.sameKey (Lit.int IntKind.i64 y)) = decide (y = x) := by
          simp [Lit.sameKey]
          by_cases c2 : x = y <;> simp [c2, eq_comm]
        rw [e2]
        rw [Bool.eq_iff_iff]
        simp [mem_put, or_comm]
    · unfold Go.Maps.addKey
      rw [hA x, put_len x L hL]
      by_cases c : x ∈ L
      · rw [if_pos (by simp [c]), if_pos c, h]
      · rw [if_neg (by simp [c]), if_neg c, List.length_append, h]; rfl
def rackOf (rs : List Int) (g : List Int) : List Int := g.map (fun h => rd rs h)
theorem rd_in {l : List Int} {i : Int} (h : i < (l.length : Int)) (h0 : 0 ≤ i) : rd l i ∈ l := by
  unfold rd
  have h2 : i.toNat < l.length := by omega
  rw [List.getD_eq_getElem?_getD, List.getElem?_eq_getElem h2]
  exact List.getElem_mem h2
theorem different_go (rs : List Int) (hr : racks rs = true) : ∀ (g s : List Int), (∀ h ∈ g, 0 ≤ h ∧ h < (rs.length : Int)) → s.length + g.length < 1048576 → impl_differentRacks.go rs s g = some ((((s ++ rackOf rs g).map (fun x => Lit.int .i64 x)).foldl Go.Maps.addKey []).length : Int)
  | [], s, _, _ => by simp [impl_differentRacks.go, rackOf]
  | h :: t, s, hg, hl => by
    have h0 := hg h (by simp)
    have h1 := (racks_iff.1 hr).1 _ (rd_in h0.2 h0.1)
    have h2 : (Lit.int .i64 (rd rs h)).wf = true := by
      have e0 : IntKind.i64.min = -9223372036854775808 := rfl
      have e1 : IntKind.i64.max = 9223372036854775807 := rfl
      simp [Lit.wf, e0, e1]
      omega
    simp only [List.length_cons] at hl
    rw [impl_differentRacks.go, if_pos h0.1, if_pos h0.2, if_pos h2, if_pos (by omega), different_go rs hr t (s ++ [rd rs h]) (fun x hx => hg x (by simp [hx])) (by simp; omega)]
    simp [rackOf]
theorem different_f (rs g : List Int) (hr : racks rs = true) (hg : ∀ h ∈ g, 0 ≤ h ∧ h < (rs.length : Int)) (hl : g.length < 1048576) : impl_differentRacks.f rs g = some ((many (rackOf rs g) : Nat) : Int) := by
  unfold impl_differentRacks.f
  rw [different_go rs hr g [] hg (by simp; omega), List.nil_append, keys_len (rackOf rs g) [] [] inc_nil (by simp) rfl]
  rfl
theorem l13Many_f (rs g : List Int) (hr : rs.length ≤ 1048576) (hg : ∀ h ∈ g, 0 ≤ h ∧ h < (rs.length : Int)) (hl : g.length < 1048576) : Cm (fun k => spec_l13Many.f k rs g) ((many (rackOf rs g) : Nat) : Int) := by
  unfold spec_l13Many.f
  refine fold_cm (L := fun k i s => spec_l13Many.l0 k rs s g (g.length : Int) i) g (fun s h => putL s (rd rs h)) (fun pre s => s.length ≤ pre.length) [] (by simp) ?_ ?_
  · intro pre h t s e hlt hi
    have h0 := hg h (by rw [← e]; simp)
    have h1 := put_le (rd rs h) s
    refine ⟨by rw [len_one]; omega, fun u hu => ?_⟩
    refine cm_step (fun k => by rw [spec_l13Many.l0]) ?_
    simp only [rd_at e, wrap_len hlt (show g.length ≤ 4611686018427387904 by omega)]
    repeat (first | assumption | exact cm_now (fun _ => rfl) | refine cm_bind (put_f _ _ (by omega)) ?_ | refine cm_yes (by first | omega | assumption | (simp; done) | (simp; omega)) ?_ | refine cm_no (by first | omega | assumption | (simp; done) | (simp; omega)) ?_)
  · intro _
    refine cm_step (fun k => by rw [spec_l13Many.l0]) ?_
    refine cm_no (by omega) (cm_now fun _ => ?_)
    have : ∀ (g s : List Int), g.foldl (fun s h => putL s (rd rs h)) s = putAll s (rackOf rs g) := by
      intro g
      induction g with
      | nil => intro s; rfl
      | cons h t ih => intro s; rw [List.foldl_cons, ih]; rfl
    rw [this]
    rfl
theorem membersOf_from (a : Nat) (ha : a < 9223372036854775808) : ∀ (d i : Nat) (acc : List Int), i + d = 7 → acc.length ≤ i → Cm (fun k => impl_membersOf.l0 k (a : Int) acc (i : Int)) (acc ++ ((List.range' i d).filter (fun m => a.testBit m)).map (fun m : Nat => (m : Int)))
  | 0, i, acc, h, _ => by
    refine cm_step (fun k => by rw [impl_membersOf.l0]) ?_
    refine cm_no (by omega) (cm_now fun _ => by simp)
  | d + 1, i, acc, h, hl => by
    refine cm_step (fun k => by rw [impl_membersOf.l0]) ?_
    rw [bit_i64 a ha (by omega) (by omega), wrap_len (n := i) (m := 7) (by omega) (by omega), Int.toNat_natCast, List.range'_succ]
    refine cm_yes (by omega) (cm_yes (by omega) ?_)
    by_cases c : a.testBit i = true
    · have h1 := membersOf_from a ha d (i + 1) (acc ++ [(i : Int)]) (by omega) (by simp; omega)
      refine cm_yes (by simp [c]) (cm_yes (by omega) (cm_val h1 ?_))
      simp [List.filter_cons, c]
    · have h1 := membersOf_from a ha d (i + 1) acc (by omega) (by omega)
      refine cm_no (by simp [c]) (cm_val h1 ?_)
      simp [List.filter_cons, c]
def membersN (a : Nat) : List Int := ((List.range 7).filter (fun m => a.testBit m)).map (fun m : Nat => (m : Int))
theorem membersOf_f (a : Nat) (ha : a < 9223372036854775808) : Cm (fun k => impl_membersOf.f k (a : Int)) (membersN a) := by
  unfold impl_membersOf.f membersN
  have := membersOf_from a ha 7 0 [] (by omega) (by simp)
  rw [List.range_eq_range']
  simpa using this
theorem all_members (n : Nat) (h : 1 ≤ n ∧ n ≤ 6) : membersN (2 ^ n - 1) = (List.range n).map (fun m : Nat => (m : Int)) := by
  have : n = 1 ∨ n = 2 ∨ n = 3 ∨ n = 4 ∨ n = 5 ∨ n = 6 := by omega
  rcases this with rfl | rfl | rfl | rfl | rfl | rfl <;> decide
theorem all_racks (rs : List Int) : rackOf rs ((List.range rs.length).map (fun m : Nat => (m : Int))) = rs := by
  unfold rackOf
  rw [List.map_map]
  apply List.ext_getElem
  · simp
  · intro i h1 h2
    simp [rd, h2]
def safe (rs : List Int) (l : List (List Int)) : Bool × Bool := if racks rs = true ∧ (l.all fun g => members (rs.length : Int) g) = true then (l.all (fun g => decide ¬ ((many (rackOf rs g) : Nat) : Int) < mn (g.length : Int) ((many rs : Nat) : Int)), true) else (false, false)
theorem rising_len {n : Nat} {g : List Int} (h : members (n : Int) g = true) : g.length ≤ n := by
  have key : ∀ (rest pre : List Int), (∀ a x t, a ++ x :: t = pre ++ rest → rises (n : Int) a x = true) → ((pre.length : Int) ≤ (match pre.getLast? with | some q => q + 1 | none => 0)) → (pre ++ rest).length ≤ n := by
    intro rest
    induction rest with
    | nil =>
      intro pre hp hq
      rcases last_cases pre with rfl | ⟨q, hq2⟩
      · simp
      · rw [hq2] at hq
        obtain ⟨z, rfl⟩ := List.getLast?_eq_some_iff.1 hq2
        have := (rises_yes (hp z q [] (by simp))).1
        simp only [List.append_nil]
        simp only at hq
        omega
    | cons x t ih =>
      intro pre hp hq
      have hx := rises_yes (hp pre x t rfl)
      have := ih (pre ++ [x]) (fun a y u e => hp a y u (by rw [e]; simp)) (by
        simp only [List.getLast?_append, List.getLast?_singleton, Option.some_or, List.length_append, List.length_cons, List.length_nil]
        rcases last_cases pre with rfl | ⟨q, hq2⟩
        · simp; omega
        · rw [hq2] at hq
          have := hx.2 q hq2
          simp only at hq
          omega)
      simpa using this
  have := key g [] (fun a x t e => by have := (okFrom_iff (rises (n : Int)) g []).1 h a x t e; simpa using this) (by simp)
  simpa using this
theorem spec_safe_f (rs : List Int) (l : List (List Int)) (hr : rs.length ≤ 4611686018427387904) (hl : l.length ≤ 4611686018427387904) (hs : ∀ g ∈ l, g.length ≤ 4611686018427387904) : Cm (fun k => spec_RackSafe.f k rs l) (safe rs l) := by
  unfold spec_RackSafe.f
  by_cases c : racks rs = true
  · have hr2 := (racks_iff.1 c).2
    refine cm_bind (l13Racks_f rs hr) (cm_yes c ?_)
    refine fold_cm (L := fun k i s => spec_RackSafe.l0 k rs l s rs (rs.length : Int) i) rs putL (fun pre s => s.length ≤ pre.length) [] (by simp) ?_ ?_
    · intro pre h t s e hlt hi
      have h1 := put_le h s
      refine ⟨by rw [len_one]; omega, fun u hu => ?_⟩
      refine cm_step (fun k => by rw [spec_RackSafe.l0]) ?_
      simp only [rd_at e, wrap_len hlt hr]
      repeat (first | assumption | exact cm_now (fun _ => rfl) | refine cm_bind (put_f _ _ (by omega)) ?_ | refine cm_yes (by first | omega | assumption | (simp; done) | (simp; omega)) ?_ | refine cm_no (by first | omega | assumption | (simp; done) | (simp; omega)) ?_)
    · intro _
      refine cm_step (fun k => by rw [spec_RackSafe.l0]) ?_
      refine cm_no (by omega) ?_
      have h2 := every_cm (L := fun k i => spec_RackSafe.l1 k rs l (rs.foldl putL []) l (l.length : Int) i) l (fun g => members (rs.length : Int) g) (fin := (l.all (fun g => decide ¬ ((many (rackOf rs g) : Nat) : Int) < mn (g.length : Int) ((many rs : Nat) : Int)), true)) (no := (false, false)) ?_ ?_ ?_
      · refine cm_val h2 ?_
        unfold safe
        by_cases c2 : (l.all fun g => members (rs.length : Int) g) = true
        · rw [if_pos c2, if_pos ⟨c, c2⟩]
        · rw [if_neg c2, if_neg (fun z => c2 z.2)]
      · intro pre g t e hlt hp v hv
        have hg := hs g (by rw [← e]; simp)
        refine cm_step (fun k => by rw [spec_RackSafe.l1]) ?_
        simp only [l1_at e, wrap_len hlt hl]
        repeat (first | assumption | exact cm_now (fun _ => rfl) | refine cm_bind (group_f _ _ hg) ?_ | refine cm_yes (by first | omega | assumption | (simp; done) | (simp; omega) | exact hp) ?_ | refine cm_no (by first | omega | assumption | (simp; done) | (simp; omega) | exact hp) ?_)
      · intro pre g t e hlt hp
        have hg := hs g (by rw [← e]; simp)
        refine cm_step (fun k => by rw [spec_RackSafe.l1]) ?_
        simp only [l1_at e, wrap_len hlt hl]
        repeat (first | assumption | exact cm_now (fun _ => rfl) | refine cm_bind (group_f _ _ hg) ?_ | refine cm_yes (by first | omega | assumption | (simp; done) | (simp; omega) | exact (by simpa using hp)) ?_ | refine cm_no (by first | omega | assumption | (simp; done) | (simp; omega) | exact (by simpa using hp)) ?_)
      · intro hall
        rw [List.all_eq_true] at hall
        have hm : ((rs.foldl putL []).length : Int) = ((many rs : Nat) : Int) := rfl
        refine cm_step (fun k => by rw [spec_RackSafe.l1]) ?_
        refine cm_no (by omega) ?_
        have h3 := every_cm (L := fun k i => spec_RackSafe.l2 k rs (rs.foldl putL []) l (l.length : Int) i) l (fun g => decide ¬ ((many (rackOf rs g) : Nat) : Int) < mn (g.length : Int) ((many rs : Nat) : Int)) (fin := (true, true)) (no := (false, true)) ?_ ?_ ?_
        · refine cm_val h3 ?_
          cases l.all (fun g => decide ¬ ((many (rackOf rs g) : Nat) : Int) < mn (g.length : Int) ((many rs : Nat) : Int)) <;> rfl
        · intro pre g t e hlt hp v hv
          have hg := hall g (by rw [← e]; simp)
          have hg2 := rising_len hg
          have h4 := l13Many_f rs g (by omega) (members_in hg) (by omega)
          simp only [decide_eq_true_eq] at hp
          unfold mn at hp
          refine cm_step (fun k => by rw [spec_RackSafe.l2]) ?_
          simp only [l1_at e, wrap_len hlt hl, hm]
          refine cm_yes (by omega) (cm_yes (by omega) (cm_yes (by omega) (cm_if (fun c3 => cm_bind h4 (cm_no ?_ hv)) (fun c3 => cm_bind h4 (cm_no ?_ hv)))))
          · split at hp <;> omega
          · split at hp <;> omega
        · intro pre g t e hlt hp
          have hg := hall g (by rw [← e]; simp)
          have hg2 := rising_len hg
          have h4 := l13Many_f rs g (by omega) (members_in hg) (by omega)
          simp only [decide_eq_false_iff_not, Decidable.not_not] at hp
          unfold mn at hp
          refine cm_step (fun k => by rw [spec_RackSafe.l2]) ?_
          simp only [l1_at e, wrap_len hlt hl, hm]
          refine cm_yes (by omega) (cm_yes (by omega) (cm_yes (by omega) (cm_if (fun c3 => cm_bind h4 (cm_yes ?_ (cm_now fun _ => rfl))) (fun c3 => cm_bind h4 (cm_yes ?_ (cm_now fun _ => rfl))))))
          · split at hp <;> omega
          · split at hp <;> omega
        · intro _
          refine cm_step (fun k => by rw [spec_RackSafe.l2]) ?_
          repeat (first | assumption | exact cm_now (fun _ => rfl) | refine cm_yes (by first | omega | assumption | (simp; done) | (simp; omega)) ?_ | refine cm_no (by first | omega | assumption | (simp; done) | (simp; omega)) ?_)
  · refine cm_bind (l13Racks_f rs hr) (cm_no c (cm_now fun _ => ?_))
    unfold safe
    rw [if_neg (fun z => c z.1)]
theorem anyS1_index (rs : List Int) (l : List (List Int)) (hl : l.length ≤ 4611686018427387904) (p : (List Int) → Bool) (hc : ∀ h ∈ l, Cm (fun k => impl_RackSafe_1.f k h rs) (p h)) :
    Cm (fun k => slices_IndexFunc_int_int_of_impl_RackSafe_1.f k l rs) (foundAt p (fun i _ => (i : Int)) (-1) 0 l) := by
  unfold slices_IndexFunc_int_int_of_impl_RackSafe_1.f
  refine find_cm (L := fun k i => slices_IndexFunc_int_int_of_impl_RackSafe_1.l0 k l (l.length : Int) i rs) l p (fun i _ => (i : Int)) (none_ := (-1 : Int)) ?_ ?_ ?_
  · intro pre h t e hlt hp v hv
    refine cm_step (fun k => by rw [slices_IndexFunc_int_int_of_impl_RackSafe_1.l0]) ?_
    simp only [l1_at e, wrap_len hlt hl]
    refine cm_yes (by omega) (cm_yes (by omega) (cm_yes (by omega) (cm_bind (hc h (by rw [← e]; simp)) ?_)))
    exact cm_no (by simpa using hp) hv
  · intro pre h t e hlt hp
    refine cm_step (fun k => by rw [slices_IndexFunc_int_int_of_impl_RackSafe_1.l0]) ?_
    simp only [l1_at e, wrap_len hlt hl]
    refine cm_yes (by omega) (cm_yes (by omega) (cm_yes (by omega) (cm_bind (hc h (by rw [← e]; simp)) ?_)))
    exact cm_yes hp (cm_now fun _ => rfl)
  · refine cm_step (fun k => by rw [slices_IndexFunc_int_int_of_impl_RackSafe_1.l0]) ?_
    exact cm_no (by omega) (cm_now fun _ => rfl)
theorem anyS1 (rs : List Int) (l : List (List Int)) (hl : l.length ≤ 4611686018427387904) (p : (List Int) → Bool) (hc : ∀ h ∈ l, Cm (fun k => impl_RackSafe_1.f k h rs) (p h)) : Cm (fun k => slices_ContainsFunc_int_int_of_impl_RackSafe_1.f k l rs) (l.any p) := by
  unfold slices_ContainsFunc_int_int_of_impl_RackSafe_1.f
  refine cm_bind (anyS1_index rs l hl p hc) (cm_now fun _ => ?_)
  rw [found_any]
theorem anyS2_index (rs : List Int) (m : Int) (l : List (List Int)) (hl : l.length ≤ 4611686018427387904) (p : (List Int) → Bool) (hc : ∀ h ∈ l, Cm (fun k => impl_RackSafe_2.f h rs m) (p h)) :
    Cm (fun k => slices_IndexFunc_int_int_of_impl_RackSafe_2.f k l rs m) (foundAt p (fun i _ => (i : Int)) (-1) 0 l) := by
  unfold slices_IndexFunc_int_int_of_impl_RackSafe_2.f
  refine find_cm (L := fun k i => slices_IndexFunc_int_int_of_impl_RackSafe_2.l0 k l (l.length : Int) i rs m) l p (fun i _ => (i : Int)) (none_ := (-1 : Int)) ?_ ?_ ?_
  · intro pre h t e hlt hp v hv
    refine cm_step (fun k => by rw [slices_IndexFunc_int_int_of_impl_RackSafe_2.l0]) ?_
    simp only [l1_at e, wrap_len hlt hl]
    refine cm_yes (by omega) (cm_yes (by omega) (cm_yes (by omega) (cm_bind (hc h (by rw [← e]; simp)) ?_)))
    exact cm_no (by simpa using hp) hv
  · intro pre h t e hlt hp
    refine cm_step (fun k => by rw [slices_IndexFunc_int_int_of_impl_RackSafe_2.l0]) ?_
    simp only [l1_at e, wrap_len hlt hl]
    refine cm_yes (by omega) (cm_yes (by omega) (cm_yes (by omega) (cm_bind (hc h (by rw [← e]; simp)) ?_)))
    exact cm_yes hp (cm_now fun _ => rfl)
  · refine cm_step (fun k => by rw [slices_IndexFunc_int_int_of_impl_RackSafe_2.l0]) ?_
    exact cm_no (by omega) (cm_now fun _ => rfl)
theorem anyS2 (rs : List Int) (m : Int) (l : List (List Int)) (hl : l.length ≤ 4611686018427387904) (p : (List Int) → Bool) (hc : ∀ h ∈ l, Cm (fun k => impl_RackSafe_2.f h rs m) (p h)) : Cm (fun k => slices_ContainsFunc_int_int_of_impl_RackSafe_2.f k l rs m) (l.any p) := by
  unfold slices_ContainsFunc_int_int_of_impl_RackSafe_2.f
  refine cm_bind (anyS2_index rs m l hl p hc) (cm_now fun _ => ?_)
  rw [found_any]
theorem impl_safe_f (rs : List Int) (l : List (List Int)) (hr : rs.length ≤ 4611686018427387904) (hl : l.length ≤ 4611686018427387904) (hs : ∀ g ∈ l, g.length ≤ 4611686018427387904) : Cm (fun k => impl_RackSafe.f k rs l) (safe rs l) := by
  unfold impl_RackSafe.f
  by_cases c : racks rs = true
  · have hr2 := (racks_iff.1 c).2
    refine cm_bind (areRacks_f rs hr) (cm_yes c (cm_bind (anyS1 rs l hl (fun g => !members (rs.length : Int) g) (fun g hg => ?_)) ?_))
    · unfold impl_RackSafe_1.f
      exact cm_bind (areMembers_f g _ (hs g hg) (by omega)) (cm_now fun _ => rfl)
    · by_cases c2 : (l.all fun g => members (rs.length : Int) g) = true
      · have e1 : (l.any fun g => !members (rs.length : Int) g) = false := by
          have := not_any (fun g => !members (rs.length : Int) g) (fun g => members (rs.length : Int) g) l (fun _ _ => rfl)
          rw [c2] at this
          simpa using this
        rw [e1]
        have hall := List.all_eq_true.1 c2
        unfold safe
        rw [if_pos ⟨c, c2⟩]
        refine cm_step (fun k => by rw [impl_RackSafe.j0]) ?_
        refine cm_no (by simp) ?_
        have e2 : wrap64 (shl .i64 1 (rs.length : Int) - 1) = ((2 ^ rs.length - 1 : Nat) : Int) := by
          rw [shl_one (by omega) (by omega), Int.toNat_natCast]
          have h1 : 2 ^ rs.length ≤ 2 ^ 6 := Nat.pow_le_pow_right (by omega) hr2.2
          have h2 : 0 < 2 ^ rs.length := Nat.two_pow_pos _
          generalize 2 ^ rs.length = z at h1 h2
          rw [wrap_in (by omega) (by omega)]
          omega
        rw [e2]
        have h1 : 2 ^ rs.length ≤ 2 ^ 6 := Nat.pow_le_pow_right (by omega) hr2.2
        refine cm_bind (membersOf_f _ (by omega)) ?_
        rw [all_members _ hr2, different_f rs _ c (by
          intro h hh
          obtain ⟨i, hi, rfl⟩ := List.mem_map.1 hh
          rw [List.mem_range] at hi
          omega) (by simp; omega), all_racks]
        refine cm_bind (cm_now fun _ => rfl) (cm_bind (anyS2 rs _ l hl (fun g => decide (((many (rackOf rs g) : Nat) : Int) < mn (g.length : Int) ((many rs : Nat) : Int))) (fun g hg => cm_now fun _ => ?_)) (cm_now fun _ => ?_))
        · have hg1 := hall g hg
          have hg2 := rising_len hg1
          unfold impl_RackSafe_2.f
          rw [different_f rs g c (members_in hg1) (by omega)]
          rfl
        · rw [not_any _ (fun g => decide ¬ ((many (rackOf rs g) : Nat) : Int) < mn (g.length : Int) ((many rs : Nat) : Int)) l (fun g _ => by rw [decide_not, Bool.not_not])]
      · have e1 : (l.any fun g => !members (rs.length : Int) g) = true := by
          have := not_any (fun g => !members (rs.length : Int) g) (fun g => members (rs.length : Int) g) l (fun _ _ => rfl)
          have c3 : (l.all fun g => members (rs.length : Int) g) = false := by simpa using c2
          rw [c3] at this
          simpa using this
        rw [e1]
        unfold safe
        rw [if_neg (fun z => c2 z.2)]
        refine cm_step (fun k => by rw [impl_RackSafe.j0]) ?_
        repeat (first | assumption | exact cm_now (fun _ => rfl) | refine cm_yes (by first | omega | assumption | (simp; done) | (simp; omega)) ?_ | refine cm_no (by first | omega | assumption | (simp; done) | (simp; omega)) ?_)
  · refine cm_bind (areRacks_f rs hr) (cm_no c ?_)
    unfold safe
    rw [if_neg (fun z => c z.1)]
    refine cm_step (fun k => by rw [impl_RackSafe.j0]) ?_
    repeat (first | assumption | exact cm_now (fun _ => rfl) | refine cm_yes (by first | omega | assumption | (simp; done) | (simp; omega)) ?_ | refine cm_no (by first | omega | assumption | (simp; done) | (simp; omega)) ?_)
end Go.Proofs.Ytgcliajajcinpaa.Rack
end
section
namespace Go.Proofs.Ytgcliajajcinpaa.Pick
open Go.RowKit Go.Proofs.YtgcliajajcinpaaW.PrintWords
open Go.Proofs.Ytgcliajajcinpaa.Pl Go.Proofs.Ytgcliajajcinpaa.EvN Go.Proofs.Ytgcliajajcinpaa.Lp
set_option linter.unusedVariables false
set_option linter.unusedSimpArgs false
theorem iter_cm {σ ρ : Type} {L : Nat → Int → σ → Option ρ} (n : Nat) (st : Nat → σ) {v : ρ} (hs : ∀ i, i < n → ∀ u, Cm (fun k => L k ((i + 1 : Nat) : Int) (st (i + 1))) u → Cm (fun k => L k (i : Int) (st i)) u)
    (he : Cm (fun k => L k (n : Int) (st n)) v) : Cm (fun k => L k 0 (st 0)) v := by
  have key : ∀ (d i : Nat), i + d = n → Cm (fun k => L k (i : Int) (st i)) v := by
    intro d
    induction d with
    | zero => intro i e; rw [Nat.add_zero] at e; subst e; exact he
    | succ d ih => intro i e; exact hs i (by omega) v (ih (i + 1) (by omega))
  exact key n 0 (by omega)
theorem wrap_n {i n : Nat} (h : i < n) (hn : n ≤ 4611686018427387904) : wrap64 ((i : Int) + 1) = ((i + 1 : Nat) : Int) := by
  rw [show ((i + 1 : Nat) : Int) = (i : Int) + 1 by omega]
  exact wrap_in (by omega) (by omega)
end Go.Proofs.Ytgcliajajcinpaa.Pick
end
section
namespace Go.Proofs.Ytgcliajajcinpaa.Racks
open Go.RowKit Go.Proofs.Ytgcliajajcinpaa.P Go.Proofs.YtgcliajajcinpaaW.PrintWords Go.Proofs.YtgcliajajcinpaaW.PrintLast Go.Proofs.YtgcliajajcinpaaW.PrintMore
open Go.Proofs.Ytgcliajajcinpaa.Pl Go.Proofs.Ytgcliajajcinpaa.EvN Go.Proofs.Ytgcliajajcinpaa.Lp Go.Proofs.Ytgcliajajcinpaa.Sets Go.Proofs.Ytgcliajajcinpaa.Mem Go.Proofs.Ytgcliajajcinpaa.Pick Go.Proofs.Ytgcliajajcinpaa.Rack
set_option linter.unusedSimpArgs false
set_option linter.unusedVariables false
theorem of_k {α : Type} {F : Nat → Option α} (hm : ∀ k, LeO (F k) (F (k + 1))) {n : Nat} {v : α} (h : F n = some v) : Cm F v := by
  refine ⟨n, fun k hk => ?_⟩
  obtain ⟨d, rfl⟩ := Nat.le.dest hk
  induction d with
  | zero => exact h
  | succ d ih => exact hm (n + d) v (ih (by omega))
def scan (p : Nat → Bool) (v : Nat → Int) : Nat → Nat → Int
  | 0, _ => -1
  | d + 1, j => if p j then v j else scan p v d (j + 1)
theorem scan_succ (p : Nat → Bool) (v : Nat → Int) (d j : Nat) : scan p v (d + 1) j = if p j = true then v j else scan p v d (j + 1) := rfl
theorem scan_yes {p : Nat → Bool} {v : Nat → Int} : ∀ (d j : Nat), (∃ i, j ≤ i ∧ i < j + d ∧ p i = true) → ∃ i, j ≤ i ∧ i < j + d ∧ p i = true ∧ scan p v d j = v i
  | 0, j, ⟨i, h1, h2, _⟩ => absurd h2 (by omega)
  | d + 1, j, ⟨i, h1, h2, h3⟩ => by
    unfold scan
    by_cases c : p j = true
    · exact ⟨j, Nat.le_refl _, by omega, c, by rw [if_pos c]⟩
    · have hij : i ≠ j := fun e => c (e ▸ h3)
      obtain ⟨m, a, b, e, f⟩ := scan_yes d (j + 1) ⟨i, by omega, by omega, h3⟩
      exact ⟨m, by omega, by omega, e, by rw [if_neg c]; exact f⟩
theorem scan_no {p : Nat → Bool} {v : Nat → Int} : ∀ (d j : Nat), (∀ i, j ≤ i → i < j + d → p i = false) → scan p v d j = -1
  | 0, j, _ => rfl
  | d + 1, j, h => by
    unfold scan
    rw [if_neg (by simp [h j (Nat.le_refl _) (by omega)])]
    exact scan_no d (j + 1) (fun i h1 h2 => h i (by omega) (by omega))
theorem scan_cases (p : Nat → Bool) (v : Nat → Int) (d j : Nat) : (∃ i, j ≤ i ∧ i < j + d ∧ p i = true ∧ scan p v d j = v i) ∨ ((∀ i, j ≤ i → i < j + d → p i = false) ∧ scan p v d j = -1) := by
  by_cases h : ∃ i, j ≤ i ∧ i < j + d ∧ p i = true
  · exact .inl (scan_yes d j h)
  · have h2 : ∀ i, j ≤ i → i < j + d → p i = false := fun i h1 h2 => by
      cases c : p i with
      | false => rfl
      | true => exact absurd ⟨i, h1, h2, c⟩ h
    exact .inr ⟨h2, scan_no d j h2⟩
theorem scan_congr {p q : Nat → Bool} (v : Nat → Int) (h : ∀ i, p i = q i) (d j : Nat) : scan p v d j = scan q v d j := by
  rw [show p = q from funext h]
theorem down_cm {ρ : Type} {L : Nat → Int → Int → Option ρ} (p : Nat → Bool) (v : Nat → Int) (n : Nat) (hn : 1 ≤ n) {u : ρ}
    (step : ∀ j : Nat, 1 ≤ j → j < n → ∀ s u, Cm (fun k => L k (if p j = true then v j else s) ((j : Int) - 1)) u → Cm (fun k => L k s (j : Int)) u)
    (he : Cm (fun k => L k (scan p v (n - 1) 1) 0) u) : Cm (fun k => L k (-1) ((n : Int) - 1)) u := by
  have key : ∀ j : Nat, j + 1 ≤ n → Cm (fun k => L k (scan p v (n - 1 - j) (j + 1)) (j : Int)) u := by
    intro j
    induction j with
    | zero => intro _; exact he
    | succ j ih =>
      intro h
      refine step (j + 1) (by omega) (by omega) _ _ ?_
      have := ih (by omega)
      rw [show n - 1 - j = (n - 1 - (j + 1)) + 1 by omega] at this
      rw [scan_succ] at this
      rw [show (((j + 1 : Nat) : Int)) - 1 = (j : Int) by omega]
      exact this
  have := key (n - 1) (by omega)
  rw [Nat.sub_self] at this
  rw [show ((n : Int) - 1) = ((n - 1 : Nat) : Int) by omega]
  exact this
theorem up_cm {ρ : Type} {L : Nat → Int → Int → Option ρ} (p : Nat → Bool) (v : Nat → Int) (hv : ∀ j, 0 ≤ v j) (n : Nat) (hn : 1 ≤ n) {u : ρ}
    (step : ∀ j : Nat, 1 ≤ j → j < n → ∀ u, Cm (fun k => L k (if p j = true then v j else -1) ((j + 1 : Nat) : Int)) u → Cm (fun k => L k (-1) (j : Int)) u)
    (he : ∀ j : Nat, 1 ≤ j → j ≤ n → (scan p v (n - 1) 1 < 0 → j = n) → Cm (fun k => L k (scan p v (n - 1) 1) (j : Int)) u) : Cm (fun k => L k (-1) 1) u := by
  have key : ∀ (d j : Nat), 1 ≤ j → j + d = n → scan p v d j = scan p v (n - 1) 1 → Cm (fun k => L k (-1) (j : Int)) u := by
    intro d
    induction d with
    | zero =>
      intro j h1 h2 e
      have := he j h1 (by omega) (fun _ => by omega)
      rw [← e] at this
      exact this
    | succ d ih =>
      intro j h1 h2 e
      refine step j h1 (by omega) u ?_
      rw [scan_succ] at e
      by_cases c : p j = true
      · rw [if_pos c] at e ⊢
        have := he (j + 1) (by omega) (by omega) (fun h => by have := hv j; omega)
        rw [← e] at this
        exact this
      · rw [if_neg c] at e ⊢
        exact ih (j + 1) (by omega) (by omega) e
  exact key (n - 1) 1 (Nat.le_refl _) (by omega) rfl
def at_ (n h k : Nat) : Int := (((h + k) % n : Nat) : Int)
theorem at_in (n h k : Nat) (hn : 1 ≤ n) : 0 ≤ at_ n h k ∧ at_ n h k < (n : Int) := by
  have := Nat.mod_lt (h + k) (show n > 0 by omega)
  unfold at_
  omega
theorem at_f (n h k : Nat) (hh : h < 100) (hk : k < 100) : Int.tmod (wrap64 ((h : Int) + (k : Int))) (n : Int) = at_ n h k := by
  rw [wrap_in (by omega) (by omega), show ((h : Int) + (k : Int)) = ((h + k : Nat) : Int) by omega]
  rfl
def has (R l : List Int) (r : Int) : Bool := l.any (fun z => decide (rd R z = r))
def fr (R l : List Int) (n h k : Nat) : Bool := !has R l (rd R (at_ n h k))
def out (l : List Int) (n h k : Nat) : Bool := !decide (at_ n h k ∈ l)
def nx (R l : List Int) (n h : Nat) : Int := if scan (fr R l n h) (at_ n h) (n - 1) 1 < 0 then scan (out l n h) (at_ n h) (n - 1) 1 else scan (fr R l n h) (at_ n h) (n - 1) 1
theorem has_congr {R l m : List Int} (h : ∀ z, z ∈ l ↔ z ∈ m) (r : Int) : has R l r = has R m r := by
  have : has R l r = true ↔ has R m r = true := by
    simp only [has, List.any_eq_true, h]
  cases a : has R l r <;> cases b : has R m r <;> simp_all
theorem nx_congr {R l m : List Int} (h : ∀ z, z ∈ l ↔ z ∈ m) (n i : Nat) : nx R l n i = nx R m n i := by
  unfold nx
  rw [scan_congr (at_ n i) (p := fr R l n i) (q := fr R m n i) (fun k => by unfold fr; rw [has_congr h]), scan_congr (at_ n i) (p := out l n i) (q := out m n i) (fun k => by unfold out; simp only [h])]
theorem fr_out {R l : List Int} {n h k : Nat} (hf : fr R l n h k = true) : at_ n h k ∉ l := by
  intro hm
  simp only [fr, has, Bool.not_eq_true', List.any_eq_false, decide_eq_true_eq] at hf
  exact hf _ hm rfl
theorem nx_in {R l : List Int} {n h : Nat} (hn : 1 ≤ n) (hx : ∃ k, 1 ≤ k ∧ k < n ∧ at_ n h k ∉ l) : 0 ≤ nx R l n h ∧ nx R l n h < (n : Int) ∧ nx R l n h ∉ l := by
  unfold nx
  rcases scan_cases (fr R l n h) (at_ n h) (n - 1) 1 with ⟨i, h1, h2, h3, h4⟩ | ⟨_, h4⟩
  · have := at_in n h i hn
    rw [h4, if_neg (by omega)]
    exact ⟨this.1, this.2, fr_out h3⟩
  · rw [h4, if_pos (by omega)]
    obtain ⟨k, a, b, c⟩ := hx
    obtain ⟨i, h1, h2, h3, h5⟩ := scan_yes (p := out l n h) (v := at_ n h) (n - 1) 1 ⟨k, a, by omega, by simpa [out] using c⟩
    have := at_in n h i hn
    rw [h5]
    exact ⟨this.1, this.2, by simpa [out] using h3⟩
def ins (x : Int) : List Int → List Int
  | [] => [x]
  | y :: t => if x < y then x :: y :: t else y :: ins x t
theorem ins_mem (x z : Int) : ∀ l, z ∈ ins x l ↔ z = x ∨ z ∈ l
  | [] => by simp [ins]
  | y :: t => by
    unfold ins
    by_cases c : x < y
    · rw [if_pos c]; simp
    · rw [if_neg c]
      simp only [List.mem_cons, ins_mem x z t]
      constructor
      · rintro (h | h | h) <;> simp [h]
      · rintro (h | h | h) <;> simp [h]
theorem ins_len (x : Int) : ∀ l, (ins x l).length = l.length + 1
  | [] => rfl
  | y :: t => by
    unfold ins
    by_cases c : x < y
    · rw [if_pos c]; rfl
    · rw [if_neg c, List.length_cons, ins_len x t]; rfl
set_option maxRecDepth 100000 in
theorem put1_all : ∀ a : Nat, a < 6 → ∀ b : Nat, b < 6 → a ≠ b → spec_l1Put.f 8 [(a : Int)] (b : Int) = some (ins b [(a : Int)]) := by decide +kernel
set_option maxRecDepth 100000 in
theorem put2_all_b : ((List.range 6).all fun a => (List.range 6).all fun b => (List.range 6).all fun c => decide (a = b) || decide (a = c) || decide (b = c) || decide (spec_l1Put.f 8 (ins b [(a : Int)]) (c : Int) = some (ins c (ins b [(a : Int)])))) = true := by decide +kernel
theorem put2_all : ∀ a : Nat, a < 6 → ∀ b : Nat, b < 6 → ∀ c : Nat, c < 6 → (a ≠ b ∧ a ≠ c ∧ b ≠ c) → spec_l1Put.f 8 (ins b [(a : Int)]) (c : Int) = some (ins c (ins b [(a : Int)])) := by
  intro a ha b hb c hc hn
  have h := put2_all_b
  rw [List.all_eq_true] at h
  have h := h a (List.mem_range.2 ha)
  rw [List.all_eq_true] at h
  have h := h b (List.mem_range.2 hb)
  rw [List.all_eq_true] at h
  have h := h c (List.mem_range.2 hc)
  simpa [hn.1, hn.2.1, hn.2.2] using h
set_option maxRecDepth 100000 in
theorem sort1_all : ∀ a : Nat, a < 6 → slices_Sort_int_int.f 20 [(a : Int)] = some [(a : Int)] := by decide +kernel
set_option maxRecDepth 100000 in
theorem sort2_all : ∀ a : Nat, a < 6 → ∀ b : Nat, b < 6 → a ≠ b → slices_Sort_int_int.f 20 [(a : Int), (b : Int)] = some (ins b [(a : Int)]) := by decide +kernel
set_option maxRecDepth 100000 in
theorem sort3_all_b : ((List.range 6).all fun a => (List.range 6).all fun b => (List.range 6).all fun c => decide (a = b) || decide (a = c) || decide (b = c) || decide (slices_Sort_int_int.f 20 [(a : Int), (b : Int), (c : Int)] = some (ins c (ins b [(a : Int)])))) = true := by decide +kernel
theorem sort3_all : ∀ a : Nat, a < 6 → ∀ b : Nat, b < 6 → ∀ c : Nat, c < 6 → (a ≠ b ∧ a ≠ c ∧ b ≠ c) → slices_Sort_int_int.f 20 [(a : Int), (b : Int), (c : Int)] = some (ins c (ins b [(a : Int)])) := by
  intro a ha b hb c hc hn
  have h := sort3_all_b
  rw [List.all_eq_true] at h
  have h := h a (List.mem_range.2 ha)
  rw [List.all_eq_true] at h
  have h := h b (List.mem_range.2 hb)
  rw [List.all_eq_true] at h
  have h := h c (List.mem_range.2 hc)
  simpa [hn.1, hn.2.1, hn.2.2] using h
end Go.Proofs.Ytgcliajajcinpaa.Racks
end
section
namespace Go.Proofs.Ytgcliajajcinpaa.Racks2
open Go.RowKit Go.Proofs.Ytgcliajajcinpaa.P Go.Proofs.YtgcliajajcinpaaW.PrintWords Go.Proofs.YtgcliajajcinpaaW.PrintLast Go.Proofs.YtgcliajajcinpaaW.PrintMore
open Go.Proofs.Ytgcliajajcinpaa.Pl Go.Proofs.Ytgcliajajcinpaa.EvN Go.Proofs.Ytgcliajajcinpaa.Lp Go.Proofs.Ytgcliajajcinpaa.Sets Go.Proofs.Ytgcliajajcinpaa.Mem Go.Proofs.Ytgcliajajcinpaa.Pick Go.Proofs.Ytgcliajajcinpaa.Rack Go.Proofs.Ytgcliajajcinpaa.Racks
set_option linter.unusedSimpArgs false
set_option linter.unusedVariables false
def In (n : Nat) (l : List Int) : Prop := l.length ≤ 6 ∧ ∀ z ∈ l, 0 ≤ z ∧ z < (n : Int)
theorem hasRack_f (R l : List Int) (r : Int) (hl : In R.length l) : Cm (fun k => spec_l13HasRack.f k R l r) (has R l r) := by
  unfold spec_l13HasRack.f
  have h6 := hl.1
  have := every_cm (L := fun k i => spec_l13HasRack.l0 k R r l (l.length : Int) i) l (fun z => !decide (rd R z = r)) (fin := false) (no := true) ?_ ?_ ?_
  · refine cm_val this ?_
    unfold has
    rw [← not_any (fun z => decide (rd R z = r)) (fun z => !decide (rd R z = r)) l (fun _ _ => by simp)]
    cases l.any (fun z => decide (rd R z = r)) <;> simp
  · intro pre z t e hlt hp v hv
    have hz := hl.2 z (by rw [← e]; simp)
    refine cm_step (fun k => by rw [spec_l13HasRack.l0]) ?_
    simp only [rd_at e, wrap_len hlt (show l.length ≤ 4611686018427387904 by omega)]
    exact cm_yes (by omega) (cm_yes (by omega) (cm_yes (by omega) (cm_yes hz.1 (cm_yes hz.2 (cm_no (by simpa using hp) hv)))))
  · intro pre z t e hlt hp
    have hz := hl.2 z (by rw [← e]; simp)
    refine cm_step (fun k => by rw [spec_l13HasRack.l0]) ?_
    simp only [rd_at e, wrap_len hlt (show l.length ≤ 4611686018427387904 by omega)]
    exact cm_yes (by omega) (cm_yes (by omega) (cm_yes (by omega) (cm_yes hz.1 (cm_yes hz.2 (cm_yes (by simpa using hp) (cm_now fun _ => rfl))))))
  · intro _
    refine cm_step (fun k => by rw [spec_l13HasRack.l0]) ?_
    exact cm_no (by omega) (cm_now fun _ => rfl)
theorem fresh_f (R l : List Int) (hl : In R.length l) (hR : R.length ≤ 6) : Cm (fun k => spec_l13Fresh.f k R l) (R.any (fun r => !has R l r)) := by
  unfold spec_l13Fresh.f
  have := every_cm (L := fun k i => spec_l13Fresh.l0 k R l R (R.length : Int) i) R (fun r => has R l r) (fin := false) (no := true) ?_ ?_ ?_
  · refine cm_val this ?_
    rw [← not_any (fun r => !has R l r) (fun r => has R l r) R (fun _ _ => by simp)]
    cases R.any (fun r => !has R l r) <;> simp
  · intro pre z t e hlt hp v hv
    refine cm_step (fun k => by rw [spec_l13Fresh.l0]) ?_
    simp only [rd_at e, wrap_len hlt (show R.length ≤ 4611686018427387904 by omega)]
    exact cm_yes (by omega) (cm_yes (by omega) (cm_yes (by omega) (cm_bind (hasRack_f R l z hl) (cm_yes hp hv))))
  · intro pre z t e hlt hp
    refine cm_step (fun k => by rw [spec_l13Fresh.l0]) ?_
    simp only [rd_at e, wrap_len hlt (show R.length ≤ 4611686018427387904 by omega)]
    exact cm_yes (by omega) (cm_yes (by omega) (cm_yes (by omega) (cm_bind (hasRack_f R l z hl) (cm_no (by simpa using hp) (cm_now fun _ => rfl)))))
  · intro _
    refine cm_step (fun k => by rw [spec_l13Fresh.l0]) ?_
    exact cm_no (by omega) (cm_now fun _ => rfl)
theorem anyK_index (R : List Int) (x : Int) (l : List Int) (hl : l.length ≤ 4611686018427387904) (p : Int → Bool) (hc : ∀ h ∈ l, Cm (fun k => impl_RacksOf_1.f h R x) (p h)) :
    Cm (fun k => slices_IndexFunc_int_int_of_impl_RacksOf_1.f k l R x) (foundAt p (fun i _ => (i : Int)) (-1) 0 l) := by
  unfold slices_IndexFunc_int_int_of_impl_RacksOf_1.f
  refine find_cm (L := fun k i => slices_IndexFunc_int_int_of_impl_RacksOf_1.l0 k l (l.length : Int) i R x) l p (fun i _ => (i : Int)) (none_ := (-1 : Int)) ?_ ?_ ?_
  · intro pre h t e hlt hp v hv
    refine cm_step (fun k => by rw [slices_IndexFunc_int_int_of_impl_RacksOf_1.l0]) ?_
    simp only [rd_at e, wrap_len hlt hl]
    refine cm_yes (by omega) (cm_yes (by omega) (cm_yes (by omega) (cm_bind (hc h (by rw [← e]; simp)) ?_)))
    exact cm_no (by simpa using hp) hv
  · intro pre h t e hlt hp
    refine cm_step (fun k => by rw [slices_IndexFunc_int_int_of_impl_RacksOf_1.l0]) ?_
    simp only [rd_at e, wrap_len hlt hl]
    refine cm_yes (by omega) (cm_yes (by omega) (cm_yes (by omega) (cm_bind (hc h (by rw [← e]; simp)) ?_)))
    exact cm_yes hp (cm_now fun _ => rfl)
  · refine cm_step (fun k => by rw [slices_IndexFunc_int_int_of_impl_RacksOf_1.l0]) ?_
    exact cm_no (by omega) (cm_now fun _ => rfl)
theorem anyK (R : List Int) (x : Int) (l : List Int) (hl : l.length ≤ 4611686018427387904) (p : Int → Bool) (hc : ∀ h ∈ l, Cm (fun k => impl_RacksOf_1.f h R x) (p h)) : Cm (fun k => slices_ContainsFunc_int_int_of_impl_RacksOf_1.f k l R x) (l.any p) := by
  unfold slices_ContainsFunc_int_int_of_impl_RacksOf_1.f
  refine cm_bind (anyK_index R x l hl p hc) (cm_now fun _ => ?_)
  rw [found_any]
theorem any_f (R l : List Int) (x : Int) (hl : In R.length l) (hx : 0 ≤ x ∧ x < (R.length : Int)) : Cm (fun k => slices_ContainsFunc_int_int_of_impl_RacksOf_1.f k l R x) (has R l (rd R x)) := by
  have h6 := hl.1
  refine anyK R x l (by omega) (fun z => decide (rd R z = rd R x)) (fun z hz => ?_)
  have := hl.2 z hz
  unfold impl_RacksOf_1.f
  exact cm_yes this.1 (cm_yes this.2 (cm_yes hx.1 (cm_yes hx.2 (cm_now fun _ => rfl))))
theorem fresh_iff (R l : List Int) {n h : Nat} (hR : R.length = n) (hh : h < n) (hm : (h : Int) ∈ l) :
    R.any (fun r => !has R l r) = decide (¬ scan (fr R l n h) (at_ n h) (n - 1) 1 < 0) := by
  rcases scan_cases (fr R l n h) (at_ n h) (n - 1) 1 with ⟨i, h1, h2, h3, h4⟩ | ⟨h3, h4⟩
  · have ha := at_in n h i (by omega)
    rw [h4, decide_eq_true (by omega : ¬ at_ n h i < 0), List.any_eq_true]
    exact ⟨_, rd_in (by omega) ha.1, h3⟩
  · rw [h4, decide_eq_false (by omega), List.any_eq_false]
    intro r hr
    obtain ⟨i, hi, rfl⟩ := List.getElem_of_mem hr
    by_cases e : i = h
    · subst e
      have : has R l R[i] = true := by
        unfold has
        rw [List.any_eq_true]
        refine ⟨_, hm, ?_⟩
        rw [decide_eq_true_eq]
        show R.getD _ _ = _
        simp [List.getD, hi]
      simp [this]
    · have key : ∃ k, 1 ≤ k ∧ k < n ∧ (h + k) % n = i := by
        by_cases c : h < i
        · exact ⟨i - h, by omega, by omega, by rw [show h + (i - h) = i by omega]; exact Nat.mod_eq_of_lt (by omega)⟩
        · exact ⟨i + n - h, by omega, by omega, by rw [show h + (i + n - h) = i + n by omega, Nat.add_mod_right]; exact Nat.mod_eq_of_lt (by omega)⟩
      obtain ⟨k, a, b, c⟩ := key
      have h5 := h3 k a (by omega)
      have h6 : rd R (at_ n h k) = R[i] := by
        unfold at_
        rw [c]
        show R.getD _ _ = _
        simp [List.getD, hi]
      unfold fr at h5
      rw [h6] at h5
      simpa using h5
theorem spec_round (R : List Int) {n h : Nat} (hR : R.length = n) (hn : n ≤ 6) (hh : h < n) (c : Int) (o : List (List Int)) (l : List Int) (hl : In n l) (hm : (h : Int) ∈ l) (hc : (l.length : Int) < c) (m : List Int) (hput : Cm (fun k => spec_l1Put.f k l (nx R l n h)) m) (u : List (List Int) × Bool)
    (hu : Cm (fun k => spec_RacksOf.l1 k R c (n : Int) o (h : Int) m (n : Int) (h : Int)) u) : Cm (fun k => spec_RacksOf.l1 k R c (n : Int) o (h : Int) l (n : Int) (h : Int)) u := by
  have h6 := hl.1
  have hl2 : In R.length l := by rw [hR]; exact hl
  have hF := fresh_f R l hl2 (by omega)
  rw [fresh_iff R l hR hh hm] at hF
  have hend : ∀ j : Int, Cm (fun k => spec_RacksOf.j5 k R c (n : Int) o (h : Int) l (nx R l n h) j (n : Int) (h : Int) false) u := by
    intro j
    refine cm_step (fun k => by rw [spec_RacksOf.j5]) ?_
    exact cm_no (by simp) (cm_bind hput hu)
  refine cm_step (fun k => by rw [spec_RacksOf.l1]) ?_
  simp only [wrap_in (x := (n : Int) - 1) (by omega) (by omega)]
  refine cm_yes hc ?_
  refine down_cm (L := fun k s j => spec_RacksOf.l2 k R c (n : Int) o (h : Int) l s j (n : Int) (h : Int)) (fr R l n h) (at_ n h) n (by omega) ?_ ?_
  · intro j h1 h2 s u hu
    have ha := at_in n h j (by omega)
    refine cm_step (fun k => by rw [spec_RacksOf.l2]) ?_
    simp only [at_f n h j (by omega) (by omega), wrap_in (x := (j : Int) - 1) (by omega) (by omega)]
    refine cm_yes (by omega) (cm_no (by omega) (cm_yes ha.1 (cm_yes (by omega) (cm_bind (hasRack_f R l _ hl2) ?_))))
    by_cases q : has R l (rd R (at_ n h j)) = true
    · rw [if_neg (by simp [fr, q])] at hu
      exact cm_yes q hu
    · rw [if_pos (by simpa [fr] using q)] at hu
      exact cm_no q hu
  · refine cm_step (fun k => by rw [spec_RacksOf.l2]) ?_
    simp only [wrap_in (x := (n : Int) - 1) (by omega) (by omega)]
    refine cm_no (by omega) ?_
    by_cases q : scan (fr R l n h) (at_ n h) (n - 1) 1 < 0
    · have e1 : scan (fr R l n h) (at_ n h) (n - 1) 1 = -1 := by
        rcases scan_cases (fr R l n h) (at_ n h) (n - 1) 1 with ⟨i, _, _, _, h4⟩ | ⟨_, h4⟩
        · have := at_in n h i (by omega)
          omega
        · exact h4
      have e2 : nx R l n h = scan (out l n h) (at_ n h) (n - 1) 1 := by unfold nx; rw [if_pos q]
      rw [e2] at hend
      rw [decide_eq_false (by omega)] at hF
      rw [e1]
      refine down_cm (L := fun k s j => spec_RacksOf.l3 k R c (n : Int) o (h : Int) l s j (n : Int) (h : Int)) (out l n h) (at_ n h) n (by omega) ?_ ?_
      · intro j h1 h2 s u hu
        refine cm_step (fun k => by rw [spec_RacksOf.l3]) ?_
        refine cm_yes (by omega) (cm_bind hF ?_)
        refine cm_step (fun k => by rw [spec_RacksOf.j5]) ?_
        simp only [at_f n h j (by omega) (by omega), wrap_in (x := (j : Int) - 1) (by omega) (by omega)]
        refine cm_yes rfl (cm_no (by omega) (cm_bind (has_f l _ (by omega)) ?_))
        by_cases w : at_ n h j ∈ l
        · rw [if_neg (by simp [out, w])] at hu
          exact cm_yes (by simpa using w) hu
        · rw [if_pos (by simpa [out] using w)] at hu
          exact cm_no (by simpa using w) hu
      · refine cm_step (fun k => by rw [spec_RacksOf.l3]) ?_
        exact cm_no (by omega) (hend 0)
    · have e2 : nx R l n h = scan (fr R l n h) (at_ n h) (n - 1) 1 := by unfold nx; rw [if_neg q]
      rw [← e2]
      rw [decide_eq_true q] at hF
      refine cm_step (fun k => by rw [spec_RacksOf.l3]) ?_
      exact cm_if (fun _ => cm_bind hF (hend _)) (fun _ => hend _)
theorem impl_round (R : List Int) {n h : Nat} (hR : R.length = n) (hn : n ≤ 6) (hh : h < n) (c : Int) (o : List (List Int)) (l : List Int) (hl : In n l) (hc : (l.length : Int) < c) (u : List (List Int) × Bool)
    (hu : Cm (fun k => impl_RacksOf.l1 k c (n : Int) o (h : Int) (l ++ [nx R l n h]) (n : Int) (h : Int) R) u) : Cm (fun k => impl_RacksOf.l1 k c (n : Int) o (h : Int) l (n : Int) (h : Int) R) u := by
  have h6 := hl.1
  have hl2 : In R.length l := by rw [hR]; exact hl
  have hend : ∀ j : Int, Cm (fun k => impl_RacksOf.j6 k c (n : Int) o (h : Int) l (nx R l n h) j (n : Int) (h : Int) false R) u := by
    intro j
    refine cm_step (fun k => by rw [impl_RacksOf.j6]) ?_
    exact cm_no (by simp) (cm_yes (by omega) hu)
  have hj4 : ∀ (s j : Int), Cm (fun k => impl_RacksOf.l3 k c (n : Int) o (h : Int) l s 1 (n : Int) (h : Int) R) u → Cm (fun k => impl_RacksOf.j4 k c (n : Int) o (h : Int) l s j (n : Int) (h : Int) false R) u := by
    intro s j hs
    refine cm_step (fun k => by rw [impl_RacksOf.j4]) ?_
    exact cm_no (by simp) hs
  refine cm_step (fun k => by rw [impl_RacksOf.l1]) ?_
  refine cm_yes hc ?_
  refine up_cm (L := fun k s j => impl_RacksOf.l2 k c (n : Int) o (h : Int) l s j (n : Int) (h : Int) R) (fr R l n h) (at_ n h) (fun j => (at_in n h j (by omega)).1) n (by omega) ?_ ?_
  · intro j h1 h2 u hu
    have ha := at_in n h j (by omega)
    refine cm_step (fun k => by rw [impl_RacksOf.l2]) ?_
    refine cm_yes (by omega) ?_
    refine cm_step (fun k => by rw [impl_RacksOf.j4]) ?_
    simp only [at_f n h j (by omega) (by omega), wrap_n h2 (show n ≤ 4611686018427387904 by omega)]
    refine cm_yes (by decide) (cm_no (by omega) (cm_bind (any_f R l _ hl2 (by omega)) ?_))
    by_cases q : has R l (rd R (at_ n h j)) = true
    · rw [if_neg (by simp [fr, q])] at hu
      exact cm_yes q hu
    · rw [if_pos (by simpa [fr] using q)] at hu
      exact cm_no q hu
  · intro j h1 h2 hj
    have h3 : Cm (fun k => impl_RacksOf.l3 k c (n : Int) o (h : Int) l (scan (fr R l n h) (at_ n h) (n - 1) 1) 1 (n : Int) (h : Int) R) u := by
      by_cases q : scan (fr R l n h) (at_ n h) (n - 1) 1 < 0
      · have e1 : scan (fr R l n h) (at_ n h) (n - 1) 1 = -1 := by
          rcases scan_cases (fr R l n h) (at_ n h) (n - 1) 1 with ⟨i, _, _, _, h4⟩ | ⟨_, h4⟩
          · have := at_in n h i (by omega)
            omega
          · exact h4
        have e2 : nx R l n h = scan (out l n h) (at_ n h) (n - 1) 1 := by unfold nx; rw [if_pos q]
        rw [e2] at hend
        rw [e1]
        refine up_cm (L := fun k s j => impl_RacksOf.l3 k c (n : Int) o (h : Int) l s j (n : Int) (h : Int) R) (out l n h) (at_ n h) (fun j => (at_in n h j (by omega)).1) n (by omega) ?_ ?_
        · intro j h1 h2 u hu
          refine cm_step (fun k => by rw [impl_RacksOf.l3]) ?_
          refine cm_yes (by omega) ?_
          refine cm_step (fun k => by rw [impl_RacksOf.j6]) ?_
          simp only [at_f n h j (by omega) (by omega), wrap_n h2 (show n ≤ 4611686018427387904 by omega)]
          refine cm_yes (by decide) (cm_no (by omega) (cm_bind (contains_f l _ (by omega)) ?_))
          by_cases w : at_ n h j ∈ l
          · rw [if_neg (by simp [out, w])] at hu
            exact cm_yes (by simpa using w) hu
          · rw [if_pos (by simpa [out] using w)] at hu
            exact cm_no (by simpa using w) hu
        · intro j h1 h2 hj
          refine cm_step (fun k => by rw [impl_RacksOf.l3]) ?_
          refine cm_if (fun a => ?_) (fun _ => hend _)
          rw [decide_eq_false (by omega)]
          exact hend _
      · have e2 : nx R l n h = scan (fr R l n h) (at_ n h) (n - 1) 1 := by unfold nx; rw [if_neg q]
        rw [← e2]
        refine cm_step (fun k => by rw [impl_RacksOf.l3]) ?_
        refine cm_if (fun a => ?_) (fun _ => hend _)
        rw [decide_eq_false (by omega)]
        exact hend _
    refine cm_step (fun k => by rw [impl_RacksOf.l2]) ?_
    refine cm_if (fun a => ?_) (fun _ => hj4 _ _ h3)
    rw [decide_eq_false (by omega)]
    exact hj4 _ _ h3
theorem ex1 {n h : Nat} (hn : 2 ≤ n) (hn6 : n ≤ 6) (hh : h < n) : ∃ k, 1 ≤ k ∧ k < n ∧ at_ n h k ∉ [(h : Int)] := by
  refine ⟨1, by omega, by omega, ?_⟩
  have : n = 2 ∨ n = 3 ∨ n = 4 ∨ n = 5 ∨ n = 6 := by omega
  simp only [List.mem_singleton, at_]
  rcases this with rfl | rfl | rfl | rfl | rfl <;> omega
theorem ex2 {n h : Nat} (hn : 3 ≤ n) (hn6 : n ≤ 6) (hh : h < n) (y : Int) : ∃ k, 1 ≤ k ∧ k < n ∧ at_ n h k ∉ [(h : Int), y] := by
  have h1 : at_ n h 1 ≠ at_ n h 2 ∧ at_ n h 1 ≠ (h : Int) ∧ at_ n h 2 ≠ (h : Int) := by
    have : n = 3 ∨ n = 4 ∨ n = 5 ∨ n = 6 := by omega
    simp only [at_]
    rcases this with rfl | rfl | rfl | rfl <;> omega
  by_cases c : at_ n h 1 = y
  · refine ⟨2, by omega, by omega, ?_⟩
    simp only [List.mem_cons, List.not_mem_nil, or_false, not_or]
    exact ⟨h1.2.2, fun e => h1.1 (c.trans e.symm)⟩
  · refine ⟨1, by omega, by omega, ?_⟩
    simp only [List.mem_cons, List.not_mem_nil, or_false, not_or]
    exact ⟨h1.2.1, c⟩
def row (R : List Int) (n : Nat) (c : Int) (h : Nat) : List Int :=
  if c = 1 then [(h : Int)] else if c = 2 then ins (nx R [(h : Int)] n h) [(h : Int)] else ins (nx R [(h : Int), nx R [(h : Int)] n h] n h) (ins (nx R [(h : Int)] n h) [(h : Int)])
theorem row_len (R : List Int) (n : Nat) (c : Int) (h : Nat) : (row R n c h).length ≤ 3 := by
  unfold row
  split
  · simp
  · split <;> simp [ins_len]
theorem two_rows (R : List Int) {n h : Nat} (hR : R.length = n) (hn : n ≤ 6) (hh : h < n) (c : Int) (h1 : 1 ≤ c) (h3 : c ≤ 3) (hcn : c ≤ (n : Int)) (o : List (List Int)) (ho : o.length ≤ 6) (u : List (List Int) × Bool) :
    (Cm (fun k => spec_RacksOf.l0 k R c (n : Int) (o ++ [row R n c h]) (n : Int) ((h + 1 : Nat) : Int)) u → Cm (fun k => spec_RacksOf.l1 k R c (n : Int) o (h : Int) [(h : Int)] (n : Int) (h : Int)) u)
    ∧ (Cm (fun k => impl_RacksOf.l0 k c (n : Int) (o ++ [row R n c h]) (n : Int) ((h + 1 : Nat) : Int) R) u → Cm (fun k => impl_RacksOf.l1 k c (n : Int) o (h : Int) [(h : Int)] (n : Int) (h : Int) R) u) := by
  have hs : ∀ m : List Int, ¬ (m.length : Int) < c → Cm (fun k => spec_RacksOf.l0 k R c (n : Int) (o ++ [m]) (n : Int) ((h + 1 : Nat) : Int)) u → Cm (fun k => spec_RacksOf.l1 k R c (n : Int) o (h : Int) m (n : Int) (h : Int)) u := by
    intro m hm hu
    refine cm_step (fun k => by rw [spec_RacksOf.l1]) ?_
    simp only [wrap_n hh (show n ≤ 4611686018427387904 by omega)]
    exact cm_no hm (cm_yes (by omega) hu)
  have hi : ∀ m r : List Int, ¬ (m.length : Int) < c → Cm (fun k => slices_Sort_int_int.f k m) r → Cm (fun k => impl_RacksOf.l0 k c (n : Int) (o ++ [r]) (n : Int) ((h + 1 : Nat) : Int) R) u → Cm (fun k => impl_RacksOf.l1 k c (n : Int) o (h : Int) m (n : Int) (h : Int) R) u := by
    intro m r hm hr hu
    refine cm_step (fun k => by rw [impl_RacksOf.l1]) ?_
    simp only [wrap_n hh (show n ≤ 4611686018427387904 by omega)]
    exact cm_no hm (cm_bind hr (cm_yes (by omega) hu))
  have in1 : In n [(h : Int)] := ⟨by simp, by simp; omega⟩
  by_cases c1 : c = 1
  · subst c1
    have er : row R n 1 h = [(h : Int)] := by unfold row; rw [if_pos rfl]
    rw [er]
    exact ⟨hs _ (by simp), hi _ _ (by simp) (of_k (slices_Sort_int_int.mono _) (sort1_all h (by omega)))⟩
  obtain ⟨y0, y1, y2⟩ := nx_in (R := R) (l := [(h : Int)]) (n := n) (h := h) (by omega) (ex1 (by omega) hn hh)
  obtain ⟨y, hy⟩ := Int.eq_ofNat_of_zero_le y0
  rw [hy] at y1 y2
  have yne : h ≠ y := fun e => y2 (by simp [e])
  have p1 := of_k (spec_l1Put.mono _ _) (put1_all h (by omega) y (by omega) yne)
  by_cases c2 : c = 2
  · subst c2
    have er : row R n 2 h = ins y [(h : Int)] := by unfold row; rw [if_neg (by omega), if_pos rfl, hy]
    rw [er]
    refine ⟨fun hu => ?_, fun hu => ?_⟩
    · refine spec_round R hR hn hh 2 o _ in1 (by simp) (by simp) (ins y [(h : Int)]) (by rw [hy]; exact p1) u (hs _ (by simp [ins_len]) hu)
    · refine impl_round R hR hn hh 2 o _ in1 (by simp) u ?_
      rw [hy]
      exact hi _ _ (by simp) (of_k (slices_Sort_int_int.mono _) (sort2_all h (by omega) y (by omega) yne)) hu
  have e3 : c = 3 := by omega
  subst e3
  obtain ⟨z0, z1, z2⟩ := nx_in (R := R) (l := [(h : Int), (y : Int)]) (n := n) (h := h) (by omega) (ex2 (by omega) hn hh y)
  obtain ⟨z, hz⟩ := Int.eq_ofNat_of_zero_le z0
  rw [hz] at z1 z2
  have zne : h ≠ z := fun e => z2 (by simp [e])
  have zne2 : y ≠ z := fun e => z2 (by simp [e])
  have hz2 : nx R (ins y [(h : Int)]) n h = (z : Int) := by
    rw [← hz]
    refine nx_congr (fun w => ?_) n h
    rw [ins_mem]
    simp only [List.mem_cons, List.not_mem_nil, or_false]
    exact or_comm
  have er : row R n 3 h = ins z (ins y [(h : Int)]) := by unfold row; rw [if_neg (by omega), if_neg (by omega), hy, hz]
  have in2 : In n (ins y [(h : Int)]) := ⟨by simp [ins_len], fun w hw => by
    rw [ins_mem] at hw
    rcases hw with rfl | hw
    · omega
    · simp at hw
      omega⟩
  have in3 : In n [(h : Int), (y : Int)] := ⟨by simp, by simp; omega⟩
  rw [er]
  refine ⟨fun hu => ?_, fun hu => ?_⟩
  · refine spec_round R hR hn hh 3 o _ in1 (by simp) (by simp) (ins y [(h : Int)]) (by rw [hy]; exact p1) u ?_
    refine spec_round R hR hn hh 3 o _ in2 (by rw [ins_mem]; simp) (by simp [ins_len]) (ins z (ins y [(h : Int)])) ?_ u (hs _ (by simp [ins_len]) hu)
    rw [hz2]
    exact of_k (spec_l1Put.mono _ _) (put2_all h (by omega) y (by omega) z (by omega) ⟨yne, zne, zne2⟩)
  · refine impl_round R hR hn hh 3 o _ in1 (by simp) u ?_
    rw [hy]
    refine impl_round R hR hn hh 3 o _ in3 (by simp) u ?_
    show Cm (fun k => impl_RacksOf.l1 k 3 (n : Int) o (h : Int) ([(h : Int), (y : Int)] ++ [nx R [(h : Int), (y : Int)] n h]) (n : Int) (h : Int) R) u
    rw [hz]
    exact hi _ _ (by simp) (of_k (slices_Sort_int_int.mono _) (sort3_all h (by omega) y (by omega) z (by omega) ⟨yne, zne, zne2⟩)) hu
theorem racks_both (R : List Int) (c : Int) (hR : R.length ≤ 1048576) :
    ∃ r1 r2, Cm (fun k => spec_RacksOf.f k R c) (r1, r2) ∧ Cm (fun k => impl_RacksOf.f k R c) (r1, r2) ∧ (r1.length ≤ 6 ∧ ∀ y ∈ r1, y.length ≤ 3) := by
  unfold spec_RacksOf.f impl_RacksOf.f
  have hb1 : ∀ x, Cm (fun k => spec_RacksOf.j0 k R c x true) (([] : List (List Int)), false) := by
    intro x
    refine cm_step (fun k => by rw [spec_RacksOf.j0]) ?_
    exact cm_yes rfl (cm_now fun _ => rfl)
  have hb2 : ∀ x, Cm (fun k => impl_RacksOf.j0 k c x true R) (([] : List (List Int)), false) := by
    intro x
    refine cm_step (fun k => by rw [impl_RacksOf.j0]) ?_
    exact cm_yes rfl (cm_now fun _ => rfl)
  have s1 := l13Racks_f R (by omega)
  have s2 := areRacks_f R (by omega)
  simp only [l1In_f, in_f]
  by_cases g : racks R = true
  · have g2 := (racks_iff.1 g).2
    by_cases a : 1 ≤ c ∧ c ≤ 3
    · by_cases b : c ≤ (R.length : Int)
      · refine ⟨(List.range R.length).map (row R R.length c), true, cm_bind s1 (cm_yes g (cm_bind (cm_now fun _ => rfl) (cm_yes (by simpa using a) ?_))), cm_bind s2 (cm_yes g (cm_bind (cm_now fun _ => rfl) (cm_yes (by simpa using a) ?_))), by simpa using g2.2, ?_⟩
        · rw [decide_eq_false (by omega)]
          refine cm_step (fun k => by rw [spec_RacksOf.j0]) ?_
          refine cm_no (by simp) ?_
          refine iter_cm (L := fun k i s => spec_RacksOf.l0 k R c (R.length : Int) s (R.length : Int) i) R.length (fun i => (List.range i).map (row R R.length c)) ?_ ?_
          · intro i hi u hu
            refine cm_step (fun k => by rw [spec_RacksOf.l0]) ?_
            refine cm_yes (by omega) ((two_rows R rfl g2.2 hi c a.1 a.2 b _ (by simp; omega) u).1 ?_)
            rw [List.range_succ, List.map_append] at hu
            exact hu
          · refine cm_step (fun k => by rw [spec_RacksOf.l0]) ?_
            exact cm_no (by omega) (cm_now fun _ => rfl)
        · rw [decide_eq_false (by omega)]
          refine cm_step (fun k => by rw [impl_RacksOf.j0]) ?_
          refine cm_no (by simp) ?_
          refine iter_cm (L := fun k i s => impl_RacksOf.l0 k c (R.length : Int) s (R.length : Int) i R) R.length (fun i => (List.range i).map (row R R.length c)) ?_ ?_
          · intro i hi u hu
            refine cm_step (fun k => by rw [impl_RacksOf.l0]) ?_
            refine cm_yes (by omega) ((two_rows R rfl g2.2 hi c a.1 a.2 b _ (by simp; omega) u).2 ?_)
            rw [List.range_succ, List.map_append] at hu
            exact hu
          · refine cm_step (fun k => by rw [impl_RacksOf.l0]) ?_
            exact cm_no (by omega) (cm_now fun _ => rfl)
        · intro y hy
          obtain ⟨i, _, rfl⟩ := List.mem_map.1 hy
          exact row_len _ _ _ _
      · refine ⟨[], false, cm_bind s1 (cm_yes g (cm_bind (cm_now fun _ => rfl) (cm_yes (by simpa using a) ?_))), cm_bind s2 (cm_yes g (cm_bind (cm_now fun _ => rfl) (cm_yes (by simpa using a) ?_))), by simp, by simp⟩
        · rw [decide_eq_true (by omega)]; exact hb1 _
        · rw [decide_eq_true (by omega)]; exact hb2 _
    · exact ⟨[], false, cm_bind s1 (cm_yes g (cm_bind (cm_now fun _ => rfl) (cm_no (by simpa using a) (hb1 _)))), cm_bind s2 (cm_yes g (cm_bind (cm_now fun _ => rfl) (cm_no (by simpa using a) (hb2 _)))), by simp, by simp⟩
  · exact ⟨[], false, cm_bind s1 (cm_no g (hb1 _)), cm_bind s2 (cm_no g (hb2 _)), by simp, by simp⟩
end Go.Proofs.Ytgcliajajcinpaa.Racks2
end
section
namespace Go.Proofs.Ytgcliajajcinpaa.Draw
open Go.RowKit Go.Proofs.Ytgcliajajcinpaa.P Go.Proofs.YtgcliajajcinpaaW.PrintWords Go.Proofs.YtgcliajajcinpaaW.PrintLast Go.Proofs.YtgcliajajcinpaaW.PrintMore
open Go.Proofs.Ytgcliajajcinpaa.Pl Go.Proofs.Ytgcliajajcinpaa.EvN Go.Proofs.Ytgcliajajcinpaa.Lp Go.Proofs.Ytgcliajajcinpaa.Pick
set_option linter.unusedSimpArgs false
set_option linter.unusedVariables false
theorem wf_u8 {x : Int} (h : (Lit.int .u8 x).wf = true) : 0 ≤ x ∧ x ≤ 255 := by
  simp [Lit.wf] at h
  have h1 : IntKind.u8.min = 0 := by decide
  have h2 : IntKind.u8.max = 255 := by decide
  omega
def Bytes (s : List Int) : Prop := s.length ≤ 4611686018427387904 ∧ ∀ x ∈ s, 0 ≤ x ∧ x ≤ 255
theorem and_255 (a : Int) : 0 ≤ Go.bits .and .u64 a 255 ∧ Go.bits .and .u64 a 255 ≤ 255 := by
  have h : (BitVec.ofInt 64 a &&& BitVec.ofInt 64 255).toNat ≤ 255 := by
    rw [BitVec.toNat_and]
    exact Nat.and_le_right
  show 0 ≤ IntKind.u64.wrap ((BitVec.ofInt 64 a &&& BitVec.ofInt 64 255).toNat : Int) ∧ IntKind.u64.wrap ((BitVec.ofInt 64 a &&& BitVec.ofInt 64 255).toNat : Int) ≤ 255
  generalize (BitVec.ofInt 64 a &&& BitVec.ofInt 64 255).toNat = z at h
  simp [IntKind.wrap, IntKind.bits, IntKind.signed]
  omega
theorem rd_mem {l : List Int} {i : Int} (h0 : 0 ≤ i) (h : i < (l.length : Int)) : rd l i ∈ l := by
  have h2 : i.toNat < l.length := by omega
  have : rd l i = l[i.toNat] := by
    show l.getD _ _ = _
    simp [List.getD, h2]
  rw [this]
  exact List.getElem_mem h2
theorem next_f {s : List Int} (hs : Bytes s) (p st : Int) (h0 : 0 ≤ p) (h1 : p ≤ 4611686018427387904) : ∃ b q u, spec_l1Cur_next.f s p st = some (b, q, u) ∧ (0 ≤ b ∧ b ≤ 255) ∧ (p ≤ q ∧ q ≤ p + 1) := by
  have hw : wrap64 (p + 1) = p + 1 := wrap_in (by omega) (by omega)
  have hb : ∀ a : Int, 0 ≤ wrap64 (Go.bits .and .u64 a 255) ∧ wrap64 (Go.bits .and .u64 a 255) ≤ 255 := by
    intro a
    have := and_255 a
    rw [wrap_in (by omega) (by omega)]
    exact this
  unfold spec_l1Cur_next.f
  rw [hw]
  by_cases c : p < (s.length : Int)
  · rw [if_pos c, if_pos h0]
    have hr := hs.2 _ (rd_mem h0 c)
    by_cases d : p + 1 ≤ (s.length : Int)
    · rw [if_pos d]
      exact ⟨_, _, _, rfl, by rw [wrap_in (by omega) (by omega)]; exact hr, by omega⟩
    · rw [if_neg d]
      exact ⟨_, _, _, rfl, hb _, by omega⟩
  · rw [if_neg c]
    by_cases d : p + 1 ≤ (s.length : Int)
    · rw [if_pos d]
      exact ⟨_, _, _, rfl, by omega, by omega⟩
    · rw [if_neg d]
      exact ⟨_, _, _, rfl, hb _, by omega⟩
theorem pick_f {s : List Int} (hs : Bytes s) (p st : Int) (h0 : 0 ≤ p) (h1 : p ≤ 4611686018427387000) (a : Int) : ∃ b q u, spec_l1Cur_pick.f s p st a = some (b, q, u) ∧ (0 ≤ b ∧ (b < a ∨ b = 0)) ∧ (p ≤ q ∧ q ≤ p + 2) := by
  unfold spec_l1Cur_pick.f
  by_cases c : a ≤ 1
  · rw [if_pos c]
    exact ⟨_, _, _, rfl, by omega, by omega⟩
  · rw [if_neg c]
    obtain ⟨b, q, u, e, hb, hq⟩ := next_f hs p st h0 (by omega)
    rw [e]
    simp only [Option.bind_some]
    by_cases d : a > 200
    · rw [if_pos d]
      obtain ⟨b2, q2, u2, e2, hb2, hq2⟩ := next_f hs q u (by omega) (by omega)
      rw [e2]
      simp only [Option.bind_some]
      rw [if_neg (by omega)]
      refine ⟨_, _, _, rfl, ?_, by omega⟩
      rw [wrap_in (x := b * 256) (by omega) (by omega), wrap_in (x := b * 256 + b2) (by omega) (by omega)]
      exact ⟨Int.tmod_nonneg _ (by omega), .inl (Int.tmod_lt_of_pos _ (by omega))⟩
    · rw [if_neg d, if_neg (by omega)]
      exact ⟨_, _, _, rfl, ⟨Int.tmod_nonneg _ (by omega), .inl (Int.tmod_lt_of_pos _ (by omega))⟩, by omega⟩
theorem one_f {s : List Int} (hs : Bytes s) (p st : Int) (h0 : 0 ≤ p) (h1 : p ≤ 4611686018427387000) (a : Int) : ∃ b q u, spec_l1Cur_one.f s p st a = some (b, q, u) ∧ (p ≤ q ∧ q ≤ p + 2) := by
  obtain ⟨b, q, u, e, _, hq⟩ := pick_f hs p st h0 h1 a
  unfold spec_l1Cur_one.f
  rw [e]
  exact ⟨_, _, _, rfl, hq⟩
theorem among_f {s : List Int} (hs : Bytes s) (p st : Int) (h0 : 0 ≤ p) (h1 : p ≤ 4611686018427387000) (l : List Int) (hl : 1 ≤ l.length) : ∃ b q u, spec_l1Cur_among.f s p st l = some (b, q, u) ∧ b ∈ l ∧ (p ≤ q ∧ q ≤ p + 2) := by
  obtain ⟨b, q, u, e, hb, hq⟩ := pick_f hs p st h0 h1 (l.length : Int)
  unfold spec_l1Cur_among.f
  rw [e]
  simp only [Option.bind_some]
  rw [if_pos hb.1, if_pos (by omega)]
  exact ⟨_, _, _, rfl, rd_mem hb.1 (by omega), hq⟩
theorem some_go {s : List Int} (hs : Bytes s) (n : Nat) (hn : n ≤ 100) : ∀ (d i : Nat) (acc : List Int) (p st : Int), i + d = n → acc.length ≤ i → 0 ≤ p → p + 2 * (d : Int) ≤ 4611686018427380000 → ∃ r q u, Cm (fun k => spec_l1Cur_some.l0 k (n : Int) acc (i : Int) s p st) (r, q, u) ∧ r.length ≤ n + 1 ∧ (p ≤ q ∧ q ≤ p + 2 * d + 4)
  | 0, i, acc, p, st, hi, ha, h0, h1 => by
    obtain ⟨b, q, u, e, hq⟩ := one_f hs p st h0 (by omega) 30
    have key : ∃ r q2 u2, Cm (fun k => spec_l1Cur_some.l0 k (n : Int) acc (i : Int) s p st) (r, q2, u2) ∧ r.length ≤ n + 1 ∧ (q ≤ q2 ∧ q2 ≤ q + 2) := by
      cases b with
      | true =>
        obtain ⟨b2, q2, u2, e2, _, hq2⟩ := pick_f hs q u (by omega) (by omega) 9
        refine ⟨acc ++ [b2], q2, u2, ?_, by rw [List.length_append]; simp only [List.length_cons, List.length_nil]; omega, hq2⟩
        refine cm_step (fun k => by rw [spec_l1Cur_some.l0]) ?_
        refine cm_no (by omega) ?_
        refine cm_bind (cm_now fun _ => e) ?_
        refine cm_yes rfl ?_
        refine cm_bind (cm_now fun _ => e2) ?_
        refine cm_yes (by omega) ?_
        exact cm_now fun _ => rfl
      | false =>
        refine ⟨acc, q, u, ?_, by omega, by omega⟩
        refine cm_step (fun k => by rw [spec_l1Cur_some.l0]) ?_
        refine cm_no (by omega) ?_
        refine cm_bind (cm_now fun _ => e) ?_
        refine cm_no (fun h => Bool.false_ne_true h) ?_
        exact cm_now fun _ => rfl
    obtain ⟨r, q2, u2, a, b, c⟩ := key
    exact ⟨r, q2, u2, a, b, by omega⟩
  | d + 1, i, acc, p, st, hi, ha, h0, h1 => by
    obtain ⟨b, q, u, e, hq⟩ := one_f hs p st h0 (by omega) 2
    cases b with
    | true =>
      obtain ⟨r, q2, u2, a, b, c⟩ := some_go hs n hn d (i + 1) (acc ++ [(i : Int)]) q u (by omega) (by simp; omega) (by omega) (by omega)
      refine ⟨r, q2, u2, cm_step (fun k => by rw [spec_l1Cur_some.l0]) ?_, b, by omega⟩
      simp only [wrap_n (show i < n by omega) (show n ≤ 4611686018427387904 by omega)]
      exact cm_yes (by omega) (cm_bind (cm_now fun _ => e) (cm_yes rfl (cm_yes (by omega) a)))
    | false =>
      obtain ⟨r, q2, u2, a, b, c⟩ := some_go hs n hn d (i + 1) acc q u (by omega) (by omega) (by omega) (by omega)
      refine ⟨r, q2, u2, cm_step (fun k => by rw [spec_l1Cur_some.l0]) ?_, b, by omega⟩
      simp only [wrap_n (show i < n by omega) (show n ≤ 4611686018427387904 by omega)]
      exact cm_yes (by omega) (cm_bind (cm_now fun _ => e) (cm_no (by simp) a))
theorem some_f {s : List Int} (hs : Bytes s) (n : Nat) (hn : n ≤ 100) (p st : Int) (h0 : 0 ≤ p) (h1 : p ≤ 4611686018427370000) : ∃ r q u, Cm (fun k => spec_l1Cur_some.f k s p st (n : Int)) (r, q, u) ∧ r.length ≤ n + 1 ∧ (p ≤ q ∧ q ≤ p + 2 * n + 4) := by
  unfold spec_l1Cur_some.f
  exact some_go hs n hn n 0 [] p st (by omega) (by simp) h0 (by omega)
end Go.Proofs.Ytgcliajajcinpaa.Draw
end
section
namespace Go.Proofs.Ytgcliajajcinpaa.Racks3
open Go.RowKit Go.Proofs.Ytgcliajajcinpaa.P Go.Proofs.YtgcliajajcinpaaW.PrintWords Go.Proofs.YtgcliajajcinpaaW.PrintLast Go.Proofs.YtgcliajajcinpaaW.PrintMore
open Go.Proofs.Ytgcliajajcinpaa.Pl Go.Proofs.Ytgcliajajcinpaa.EvN Go.Proofs.Ytgcliajajcinpaa.Lp Go.Proofs.Ytgcliajajcinpaa.Sets Go.Proofs.Ytgcliajajcinpaa.Mem Go.Proofs.Ytgcliajajcinpaa.Pick Go.Proofs.Ytgcliajajcinpaa.Put Go.Proofs.Ytgcliajajcinpaa.Rack Go.Proofs.Ytgcliajajcinpaa.Racks Go.Proofs.Ytgcliajajcinpaa.Racks2 Go.Proofs.Ytgcliajajcinpaa.Draw
set_option linter.unusedSimpArgs false
set_option linter.unusedVariables false
def rows (R : List Int) (c : Int) : List (List Int) := (List.range R.length).map (row R R.length c)
def racksOf (R : List Int) (c : Int) : List (List Int) × Bool := if racks R = true ∧ (1 ≤ c ∧ c ≤ 3) ∧ c ≤ (R.length : Int) then (rows R c, true) else ([], false)
theorem racksOf_f (R : List Int) (c : Int) (hR : R.length ≤ 1048576) : Cm (fun k => spec_RacksOf.f k R c) (racksOf R c) ∧ Cm (fun k => impl_RacksOf.f k R c) (racksOf R c) := by
  obtain ⟨r1, r2, h1, h2, _⟩ := racks_both R c hR
  suffices h : (r1, r2) = racksOf R c by rw [← h]; exact ⟨h1, h2⟩
  refine cm_one h1 ?_
  unfold spec_RacksOf.f racksOf
  have hb1 : ∀ x, Cm (fun k => spec_RacksOf.j0 k R c x true) (([] : List (List Int)), false) := by
    intro x
    refine cm_step (fun k => by rw [spec_RacksOf.j0]) ?_
    exact cm_yes rfl (cm_now fun _ => rfl)
  have s1 := l13Racks_f R (by omega)
  simp only [l1In_f]
  by_cases g : racks R = true
  · have g2 := (racks_iff.1 g).2
    by_cases a : 1 ≤ c ∧ c ≤ 3
    · by_cases b : c ≤ (R.length : Int)
      · rw [if_pos ⟨g, a, b⟩]
        refine cm_bind s1 (cm_yes g (cm_bind (cm_now fun _ => rfl) (cm_yes (by simpa using a) ?_)))
        rw [decide_eq_false (by omega)]
        refine cm_step (fun k => by rw [spec_RacksOf.j0]) ?_
        refine cm_no (by simp) ?_
        refine iter_cm (L := fun k i s => spec_RacksOf.l0 k R c (R.length : Int) s (R.length : Int) i) R.length (fun i => (List.range i).map (row R R.length c)) ?_ ?_
        · intro i hi u hu
          refine cm_step (fun k => by rw [spec_RacksOf.l0]) ?_
          refine cm_yes (by omega) ((two_rows R rfl g2.2 hi c a.1 a.2 b _ (by simp; omega) u).1 ?_)
          rw [List.range_succ, List.map_append] at hu
          exact hu
        · refine cm_step (fun k => by rw [spec_RacksOf.l0]) ?_
          exact cm_no (by omega) (cm_now fun _ => rfl)
      · rw [if_neg (fun h => b h.2.2)]
        refine cm_bind s1 (cm_yes g (cm_bind (cm_now fun _ => rfl) (cm_yes (by simpa using a) ?_)))
        rw [decide_eq_true (by omega)]
        exact hb1 _
    · rw [if_neg (fun h => a h.2.1)]
      exact cm_bind s1 (cm_yes g (cm_bind (cm_now fun _ => rfl) (cm_no (by simpa using a) (hb1 _))))
  · rw [if_neg (fun h => g h.1)]
    exact cm_bind s1 (cm_no g (hb1 _))
theorem racksOf_len (R : List Int) (c : Int) (hR : R.length ≤ 6) : (racksOf R c).1.length ≤ 6 ∧ ∀ y ∈ (racksOf R c).1, y.length ≤ 3 := by
  unfold racksOf rows
  split
  · refine ⟨by simpa using hR, fun y hy => ?_⟩
    obtain ⟨i, _, rfl⟩ := List.mem_map.1 hy
    exact row_len _ _ _ _
  · simp
theorem many_one {l : List Int} {a : Int} (ha : a ∈ l) : 1 ≤ many l := by
  have h1 := (mem_putAll a l []).2 (.inr ha)
  unfold many
  cases e : putAll [] l with
  | nil => rw [e] at h1; simp at h1
  | cons x t => simp
theorem many_two {l : List Int} {a b : Int} (ha : a ∈ l) (hb : b ∈ l) (hab : a ≠ b) : 2 ≤ many l := by
  have h1 := (mem_putAll a l []).2 (.inr ha)
  have h2 := (mem_putAll b l []).2 (.inr hb)
  unfold many
  match e : putAll [] l with
  | [] => rw [e] at h1; simp at h1
  | [x] => rw [e] at h1 h2; simp at h1 h2; omega
  | x :: y :: t => simp
theorem many_three {l : List Int} {a b c : Int} (ha : a ∈ l) (hb : b ∈ l) (hc : c ∈ l) (hab : a ≠ b) (hac : a ≠ c) (hbc : b ≠ c) : 3 ≤ many l := by
  have h1 := (mem_putAll a l []).2 (.inr ha)
  have h2 := (mem_putAll b l []).2 (.inr hb)
  have h3 := (mem_putAll c l []).2 (.inr hc)
  unfold many
  match e : putAll [] l with
  | [] => rw [e] at h1; simp at h1
  | [x] => rw [e] at h1 h2; simp at h1 h2; omega
  | [x, y] => rw [e] at h1 h2 h3; simp at h1 h2 h3; omega
  | x :: y :: z :: t => simp
theorem many_le_one {l : List Int} {a : Int} (h : ∀ x ∈ l, x = a) : many l ≤ 1 := by
  have hi := putAll_inc l [] inc_nil
  have hm : ∀ x ∈ putAll [] l, x = a := fun x hx => by
    rcases (mem_putAll x l []).1 hx with h1 | h1
    · simp at h1
    · exact h x h1
  unfold many
  match e : putAll [] l with
  | [] => simp
  | [x] => simp
  | x :: y :: t =>
    rw [e] at hi hm
    have h1 := hm x (by simp)
    have h2 := hm y (by simp)
    have h3 := (List.pairwise_cons.1 hi).1 y (by simp)
    omega
theorem many_le_two {l : List Int} {a b : Int} (h : ∀ x ∈ l, x = a ∨ x = b) : many l ≤ 2 := by
  have hi := putAll_inc l [] inc_nil
  have hm : ∀ x ∈ putAll [] l, x = a ∨ x = b := fun x hx => by
    rcases (mem_putAll x l []).1 hx with h1 | h1
    · simp at h1
    · exact h x h1
  unfold many
  match e : putAll [] l with
  | [] => simp
  | [x] => simp
  | [x, y] => simp
  | x :: y :: z :: t =>
    rw [e] at hi hm
    have h1 := hm x (by simp)
    have h2 := hm y (by simp)
    have h4 := hm z (by simp)
    have hi2 := List.pairwise_cons.1 hi
    have h3 := hi2.1 y (by simp)
    have h5 := (List.pairwise_cons.1 hi2.2).1 z (by simp)
    omega
theorem nx_rack (R l : List Int) {n h : Nat} (hR : R.length = n) (hh : h < n) (hm : (h : Int) ∈ l) : has R l (rd R (nx R l n h)) = false ∨ ∀ r ∈ R, has R l r = true := by
  have hf := fresh_iff R l hR hh hm
  rcases scan_cases (fr R l n h) (at_ n h) (n - 1) 1 with ⟨i, h1, h2, h3, h4⟩ | ⟨h3, h4⟩
  · left
    have ha := at_in n h i (by omega)
    unfold nx
    rw [h4, if_neg (by omega)]
    simpa [fr] using h3
  · right
    rw [h4, decide_eq_false (by omega), List.any_eq_false] at hf
    intro r hr
    simpa using hf r hr
theorem mem2 {n a b : Int} (h0 : 0 ≤ a) (h : a < b) (hb : b < n) : members n [a, b] = true := by
  simp [members, okFrom, rises]
  omega
theorem mem3 {n a b c : Int} (h0 : 0 ≤ a) (h : a < b) (h2 : b < c) (hc : c < n) : members n [a, b, c] = true := by
  simp [members, okFrom, rises]
  omega
theorem ins2 {n a b : Int} (ha : 0 ≤ a ∧ a < n) (hb : 0 ≤ b ∧ b < n) (hab : a ≠ b) : members n (ins b [a]) = true := by
  unfold ins
  by_cases c : b < a
  · rw [if_pos c]; exact mem2 hb.1 c ha.2
  · rw [if_neg c]; exact mem2 ha.1 (by omega) hb.2
theorem ins3 {n a b c : Int} (ha : 0 ≤ a ∧ a < n) (hb : 0 ≤ b ∧ b < n) (hc : 0 ≤ c ∧ c < n) (hab : a ≠ b) (hac : a ≠ c) (hbc : b ≠ c) : members n (ins c (ins b [a])) = true := by
  by_cases h : b < a
  · have e : ins b [a] = [b, a] := by simp [ins, h]
    rw [e]
    by_cases h1 : c < b
    · have e : ins c [b, a] = [c, b, a] := by simp [ins, h1]
      rw [e]; exact mem3 hc.1 h1 h ha.2
    · by_cases h2 : c < a
      · have e : ins c [b, a] = [b, c, a] := by simp [ins, h1, h2]
        rw [e]; exact mem3 hb.1 (by omega) h2 ha.2
      · have e : ins c [b, a] = [b, a, c] := by simp [ins, h1, h2]
        rw [e]; exact mem3 hb.1 h (by omega) hc.2
  · have e : ins b [a] = [a, b] := by simp [ins, h]
    rw [e]
    by_cases h1 : c < a
    · have e : ins c [a, b] = [c, a, b] := by simp [ins, h1]
      rw [e]; exact mem3 hc.1 h1 (by omega) hb.2
    · by_cases h2 : c < b
      · have e : ins c [a, b] = [a, c, b] := by simp [ins, h1, h2]
        rw [e]; exact mem3 ha.1 (by omega) h2 hb.2
      · have e : ins c [a, b] = [a, b, c] := by simp [ins, h1, h2]
        rw [e]; exact mem3 ha.1 (by omega) (by omega) hc.2
theorem row_good (R : List Int) {n h : Nat} (hR : R.length = n) (hn : n ≤ 6) (hh : h < n) (c : Int) (h1 : 1 ≤ c) (h3 : c ≤ 3) (hcn : c ≤ (n : Int)) :
    members (n : Int) (row R n c h) = true ∧ ((row R n c h).length : Int) = c ∧ (h : Int) ∈ row R n c h ∧ ¬ ((many (rackOf R (row R n c h)) : Nat) : Int) < mn c ((many R : Nat) : Int) := by
  have hmin : ∀ m : Nat, c ≤ (m : Int) ∨ many R ≤ m → ¬ (m : Int) < mn c ((many R : Nat) : Int) := by
    intro m hm
    unfold mn
    split <;> omega
  by_cases c1 : c = 1
  · subst c1
    have er : row R n 1 h = [(h : Int)] := by unfold row; rw [if_pos rfl]
    rw [er]
    refine ⟨by simp [members, okFrom, rises]; omega, by simp, by simp, hmin _ (.inl ?_)⟩
    have := many_one (l := rackOf R [(h : Int)]) (a := rd R (h : Int)) (by simp [rackOf])
    omega
  obtain ⟨y0, y1, y2⟩ := nx_in (R := R) (l := [(h : Int)]) (n := n) (h := h) (by omega) (ex1 (by omega) hn hh)
  have n1 := nx_rack R [(h : Int)] hR hh (by simp)
  generalize ey : nx R [(h : Int)] n h = y at y0 y1 y2 n1
  have yne : (h : Int) ≠ y := fun e => y2 (by simp [e])
  have same1 : (∀ r ∈ R, has R [(h : Int)] r = true) → many R ≤ 1 := fun hs => many_le_one (a := rd R (h : Int)) (fun x hx => by
    have := hs x hx
    simp [has] at this
    exact this.symm)
  have diff1 : has R [(h : Int)] (rd R y) = false → rd R (h : Int) ≠ rd R y := by
    intro hf
    simpa [has] using hf
  by_cases c2 : c = 2
  · subst c2
    have er : row R n 2 h = ins y [(h : Int)] := by unfold row; rw [if_neg (by omega), if_pos rfl, ey]
    rw [er]
    have m1 : rd R (h : Int) ∈ rackOf R (ins y [(h : Int)]) := List.mem_map.2 ⟨_, (ins_mem _ _ _).2 (.inr (by simp)), rfl⟩
    have m2 : rd R y ∈ rackOf R (ins y [(h : Int)]) := List.mem_map.2 ⟨_, (ins_mem _ _ _).2 (.inl rfl), rfl⟩
    refine ⟨ins2 (by omega) ⟨y0, y1⟩ yne, by simp [ins_len], (ins_mem _ _ _).2 (.inr (by simp)), hmin _ ?_⟩
    rcases n1 with hf | hs
    · have := many_two m1 m2 (diff1 hf)
      left; omega
    · have := many_one m1
      have := same1 hs
      right; omega
  have e3 : c = 3 := by omega
  subst e3
  obtain ⟨z0, z1, z2⟩ := nx_in (R := R) (l := [(h : Int), y]) (n := n) (h := h) (by omega) (ex2 (by omega) hn hh y)
  have n2 := nx_rack R [(h : Int), y] hR hh (by simp)
  generalize ez : nx R [(h : Int), y] n h = z at z0 z1 z2 n2
  have zne : (h : Int) ≠ z := fun e => z2 (by simp [e])
  have zne2 : y ≠ z := fun e => z2 (by simp [e])
  have er : row R n 3 h = ins z (ins y [(h : Int)]) := by unfold row; rw [if_neg (by omega), if_neg (by omega), ey, ez]
  rw [er]
  have m1 : rd R (h : Int) ∈ rackOf R (ins z (ins y [(h : Int)])) := List.mem_map.2 ⟨_, (ins_mem _ _ _).2 (.inr ((ins_mem _ _ _).2 (.inr (by simp)))), rfl⟩
  have m2 : rd R y ∈ rackOf R (ins z (ins y [(h : Int)])) := List.mem_map.2 ⟨_, (ins_mem _ _ _).2 (.inr ((ins_mem _ _ _).2 (.inl rfl))), rfl⟩
  have m3 : rd R z ∈ rackOf R (ins z (ins y [(h : Int)])) := List.mem_map.2 ⟨_, (ins_mem _ _ _).2 (.inl rfl), rfl⟩
  refine ⟨ins3 (by omega) ⟨y0, y1⟩ ⟨z0, z1⟩ yne zne zne2, by simp [ins_len], (ins_mem _ _ _).2 (.inr ((ins_mem _ _ _).2 (.inr (by simp)))), hmin _ ?_⟩
  rcases n1 with hf | hs
  · have d1 := diff1 hf
    rcases n2 with hg | hs2
    · have d2 : rd R (h : Int) ≠ rd R z ∧ rd R y ≠ rd R z := by
        simpa [has] using hg
      have := many_three m1 m2 m3 d1 d2.1 d2.2
      left; omega
    · have a1 := many_le_two (l := R) (a := rd R (h : Int)) (b := rd R y) (fun x hx => by
        have := hs2 x hx
        simp [has] at this
        rcases this with e | e
        · exact .inl e.symm
        · exact .inr e.symm)
      have := many_two m1 m2 d1
      right; omega
  · have := many_one m1
    have := same1 hs
    right; omega
theorem rows_safe (R : List Int) (c : Int) (hr : racks R = true) (hc : 1 ≤ c ∧ c ≤ 3) (hcn : c ≤ (R.length : Int)) : safe R (rows R c) = (true, true) := by
  have g2 := (racks_iff.1 hr).2
  have key : ∀ g ∈ rows R c, members (R.length : Int) g = true ∧ ¬ ((many (rackOf R g) : Nat) : Int) < mn (g.length : Int) ((many R : Nat) : Int) := by
    intro g hg
    obtain ⟨h, hh, rfl⟩ := List.mem_map.1 hg
    have := row_good R rfl g2.2 (List.mem_range.1 hh) c hc.1 hc.2 hcn
    exact ⟨this.1, by rw [this.2.1]; exact this.2.2.2⟩
  unfold safe
  rw [if_pos ⟨hr, by rw [List.all_eq_true]; exact fun g hg => (key g hg).1⟩]
  have : ((rows R c).all fun g => decide ¬ ((many (rackOf R g) : Nat) : Int) < mn (g.length : Int) ((many R : Nat) : Int)) = true := by
    rw [List.all_eq_true]
    exact fun g hg => decide_eq_true (key g hg).2
  rw [this]
theorem racks_go {s : List Int} (hs : Bytes s) : ∀ (d : Nat) (acc : List Int) (p st : Int), acc.length + d ≤ 6 → 1 ≤ acc.length + d → 0 ≤ p → p + 2 * (d : Int) ≤ 4611686018427380000 →
    ∃ R q u, Cm (fun k => spec_l1Cur_racks.l0 k acc (d : Int) s p st) (R, q, u) ∧ R.length ≤ 6 ∧ (p ≤ q ∧ q ≤ p + 2 * (d : Int) + 4)
  | 0, acc, p, st, ha, ha1, h0, h1 => by
    obtain ⟨b, q, u, e, hq⟩ := one_f hs p st h0 (by omega) 30
    cases b with
    | true =>
      obtain ⟨b2, q2, u2, e2, _, hq2⟩ := among_f hs q u (by omega) (by omega) [(-1), 3, 4] (by simp)
      refine ⟨acc.set (0 : Int).toNat b2, q2, u2, ?_, by simp; omega, by omega⟩
      refine cm_step (fun k => by rw [spec_l1Cur_racks.l0]) ?_
      refine cm_no (by omega) ?_
      refine cm_bind (cm_now fun _ => e) ?_
      refine cm_yes rfl ?_
      refine cm_bind (cm_now fun _ => e2) ?_
      refine cm_yes (by omega) ?_
      exact cm_now fun _ => rfl
    | false =>
      refine ⟨acc, q, u, ?_, by omega, by omega⟩
      refine cm_step (fun k => by rw [spec_l1Cur_racks.l0]) ?_
      refine cm_no (by omega) ?_
      refine cm_bind (cm_now fun _ => e) ?_
      refine cm_no (fun h => Bool.false_ne_true h) ?_
      exact cm_now fun _ => rfl
  | d + 1, acc, p, st, ha, ha1, h0, h1 => by
    obtain ⟨b, q, u, e, hb, hq⟩ := pick_f hs p st h0 (by omega) 4
    obtain ⟨R, q2, u2, a, b2, c⟩ := racks_go hs d (acc ++ [b]) q u (by rw [List.length_append]; simp only [List.length_cons, List.length_nil]; omega) (by rw [List.length_append]; simp only [List.length_cons, List.length_nil]; omega) (by omega) (by omega)
    refine ⟨R, q2, u2, ?_, b2, by omega⟩
    refine cm_step (fun k => by rw [spec_l1Cur_racks.l0]) ?_
    simp only [show wrap64 (((d + 1 : Nat) : Int) - 1) = (d : Int) from by rw [wrap_in (by omega) (by omega)]; omega]
    refine cm_yes (by omega) ?_
    refine cm_bind (cm_now fun _ => e) ?_
    refine cm_yes (by omega) ?_
    exact a
theorem racks_draw {s : List Int} (hs : Bytes s) (p st : Int) (h0 : 0 ≤ p) (h1 : p ≤ 4611686018427370000) : ∃ R q u, Cm (fun k => spec_l1Cur_racks.f k s p st) (R, q, u) ∧ R.length ≤ 6 ∧ (p ≤ q ∧ q ≤ p + 100) := by
  obtain ⟨b, q, u, e, hb, hq⟩ := pick_f hs p st h0 (by omega) 6
  obtain ⟨n, rfl⟩ := Int.eq_ofNat_of_zero_le hb.1
  obtain ⟨R, q2, u2, a, b2, c⟩ := racks_go hs (n + 1) [] q u (by simp; omega) (by simp) (by omega) (by omega)
  refine ⟨R, q2, u2, ?_, b2, by omega⟩
  unfold spec_l1Cur_racks.f
  refine cm_bind (cm_now fun _ => e) ?_
  simp only [show wrap64 (1 + (n : Int)) = ((n + 1 : Nat) : Int) from by rw [wrap_in (by omega) (by omega)]; omega]
  exact a
theorem draw_racksOf {s : List Int} (hs : Bytes s) : ∃ R c, Cm (fun k => spec_DrawRacksOf.f k s) (R, c) ∧ R.length ≤ 6 := by
  obtain ⟨R, q, u, a, b, c⟩ := racks_draw hs 0 0 (by omega) (by omega)
  obtain ⟨v, q2, u2, e, _⟩ := pick_f hs q u (by omega) (by omega) 5
  refine ⟨R, v, ?_, b⟩
  unfold spec_DrawRacksOf.f
  refine cm_bind a ?_
  refine cm_bind (cm_now fun _ => e) ?_
  exact cm_now fun _ => rfl
theorem safe_go {s : List Int} (hs : Bytes s) (R : List Int) (hR : R.length ≤ 6) : ∀ (d : Nat) (acc : List (List Int)) (p st : Int), acc.length + d ≤ 10 → (∀ g ∈ acc, g.length ≤ 10) → 0 ≤ p → p + 100 * (d : Int) ≤ 4611686018427360000 →
    ∃ l, Cm (fun k => spec_DrawRackSafe.l0 k R acc (d : Int) s p st) (R, l) ∧ l.length ≤ 10 ∧ ∀ g ∈ l, g.length ≤ 10
  | 0, acc, p, st, ha, ha2, h0, h1 => by
    refine ⟨acc, ?_, by omega, ha2⟩
    refine cm_step (fun k => by rw [spec_DrawRackSafe.l0]) ?_
    refine cm_no (by omega) ?_
    exact cm_now fun _ => rfl
  | d + 1, acc, p, st, ha, ha2, h0, h1 => by
    obtain ⟨g, q, u, a, b, c⟩ := some_f hs R.length (by omega) p st h0 (by omega)
    obtain ⟨l, a2, b2, c2⟩ := safe_go hs R hR d (acc ++ [g]) q u (by rw [List.length_append]; simp only [List.length_cons, List.length_nil]; omega) (fun y hy => by
      rcases List.mem_append.1 hy with hy | hy
      · exact ha2 y hy
      · simp at hy; subst hy; omega) (by omega) (by omega)
    refine ⟨l, ?_, b2, c2⟩
    refine cm_step (fun k => by rw [spec_DrawRackSafe.l0]) ?_
    simp only [show wrap64 (((d + 1 : Nat) : Int) - 1) = (d : Int) from by rw [wrap_in (by omega) (by omega)]; omega]
    refine cm_yes (by omega) ?_
    refine cm_bind a ?_
    refine cm_yes (by omega) ?_
    exact a2
theorem draw_rackSafe {s : List Int} (hs : Bytes s) : ∃ R l, Cm (fun k => spec_DrawRackSafe.f k s) (R, l) ∧ R.length ≤ 6 ∧ l.length ≤ 10 ∧ ∀ g ∈ l, g.length ≤ 10 := by
  obtain ⟨R, q, u, a, b, c⟩ := racks_draw hs 0 0 (by omega) (by omega)
  obtain ⟨v, q2, u2, e, hv, hq2⟩ := pick_f hs q u (by omega) (by omega) 3
  have hl := racksOf_len R (wrap64 (1 + v)) b
  have hgo : ∀ (t : Bool) (p st : Int), 0 ≤ p → p ≤ 1000 → ∃ l, Cm (fun k => spec_DrawRackSafe.j0 k R (racksOf R (wrap64 (1 + v))).1 t s p st) (R, l) ∧ l.length ≤ 10 ∧ ∀ g ∈ l, g.length ≤ 10 := by
    intro t p st h0 h1
    cases t with
    | true =>
      obtain ⟨v3, q3, u3, e3, hv3, hq3⟩ := pick_f hs p st h0 (by omega) 4
      obtain ⟨n, rfl⟩ := Int.eq_ofNat_of_zero_le hv3.1
      obtain ⟨l, a2, b2, c2⟩ := safe_go hs R b n [] q3 u3 (by simp; omega) (by simp) (by omega) (by omega)
      refine ⟨l, ?_, b2, c2⟩
      refine cm_step (fun k => by rw [spec_DrawRackSafe.j0]) ?_
      refine cm_yes rfl ?_
      refine cm_bind (cm_now fun _ => e3) ?_
      exact a2
    | false =>
      refine ⟨(racksOf R (wrap64 (1 + v))).1, ?_, by have := hl.1; omega, fun g hg => by have := hl.2 g hg; omega⟩
      refine cm_step (fun k => by rw [spec_DrawRackSafe.j0]) ?_
      refine cm_no (fun h => Bool.false_ne_true h) ?_
      exact cm_now fun _ => rfl
  have hr := (racksOf_f R (wrap64 (1 + v)) (by omega)).1
  by_cases w : (racksOf R (wrap64 (1 + v))).2 = true
  · obtain ⟨t, q4, u4, e4, hq4⟩ := one_f hs q2 u2 (by omega) (by omega) 3
    obtain ⟨l, a2, b2, c2⟩ := hgo t q4 u4 (by omega) (by omega)
    refine ⟨R, l, ?_, b, b2, c2⟩
    unfold spec_DrawRackSafe.f
    refine cm_bind a ?_
    refine cm_bind (cm_now fun _ => e) ?_
    refine cm_bind hr ?_
    refine cm_yes w ?_
    refine cm_bind (cm_now fun _ => e4) ?_
    exact a2
  · obtain ⟨l, a2, b2, c2⟩ := hgo true q2 u2 (by omega) (by omega)
    refine ⟨R, l, ?_, b, b2, c2⟩
    unfold spec_DrawRackSafe.f
    refine cm_bind a ?_
    refine cm_bind (cm_now fun _ => e) ?_
    refine cm_bind hr ?_
    refine cm_no w ?_
    exact a2
theorem sameInts_self (l : List Int) (hl : l.length ≤ 4611686018427387904) : Cm (fun k => laws_sameInts.f k l l) true := by
  unfold laws_sameInts.f
  refine cm_yes rfl ?_
  refine same_cm (L := fun k i => laws_sameInts.l0 k l l (l.length : Int) i) l ?_ ?_
  · intro pre h t e hlt v hv
    refine cm_step (fun k => by rw [laws_sameInts.l0]) ?_
    simp only [wrap_len hlt hl]
    exact cm_yes (by omega) (cm_yes (by omega) (cm_yes (by omega) (cm_yes (by omega) (cm_yes (by trivial) hv))))
  · refine cm_step (fun k => by rw [laws_sameInts.l0]) ?_
    exact cm_no (by omega) (cm_now fun _ => rfl)
theorem sameLists_self (l : List (List Int)) (hl : l.length ≤ 4611686018427387904) (hs : ∀ g ∈ l, g.length ≤ 4611686018427387904) : Cm (fun k => laws_sameLists.f k l l) true := by
  unfold laws_sameLists.f
  refine cm_yes rfl ?_
  refine same_cm (L := fun k i => laws_sameLists.l0 k l l (l.length : Int) i) l ?_ ?_
  · intro pre h t e hlt v hv
    have hg := hs h (by rw [← e]; simp)
    refine cm_step (fun k => by rw [laws_sameLists.l0]) ?_
    simp only [wrap_len hlt hl, l1_at e]
    exact cm_yes (by omega) (cm_yes (by omega) (cm_yes (by omega) (cm_yes (by omega) (cm_bind (sameInts_self h hg) (cm_yes rfl hv)))))
  · refine cm_step (fun k => by rw [laws_sameLists.l0]) ?_
    exact cm_no (by omega) (cm_now fun _ => rfl)
theorem lawHas_f (l : List Int) (x : Int) (hl : l.length ≤ 4611686018427387904) (hx : x ∈ l) : Cm (fun k => laws_has.f k l x) true := by
  unfold laws_has.f
  have := every_cm (L := fun k i => laws_has.l0 k x l (l.length : Int) i) l (fun y => !decide (y = x)) (fin := false) (no := true) ?_ ?_ ?_
  · refine cm_val this ?_
    rw [if_neg]
    rw [List.all_eq_true]
    intro h
    have := h x hx
    simp at this
  · intro pre h t e hlt hp v hv
    refine cm_step (fun k => by rw [laws_has.l0]) ?_
    simp only [wrap_len hlt hl, rd_at e]
    exact cm_yes (by omega) (cm_yes (by omega) (cm_yes (by omega) (cm_no (by simpa using hp) hv)))
  · intro pre h t e hlt hp
    refine cm_step (fun k => by rw [laws_has.l0]) ?_
    simp only [wrap_len hlt hl, rd_at e]
    exact cm_yes (by omega) (cm_yes (by omega) (cm_yes (by omega) (cm_yes (by simpa using hp) (cm_now fun _ => rfl))))
  · intro _
    refine cm_step (fun k => by rw [laws_has.l0]) ?_
    exact cm_no (by omega) (cm_now fun _ => rfl)
end Go.Proofs.Ytgcliajajcinpaa.Racks3
end
section
namespace Go.Proofs.Ytgcliajajcinpaa.Pure
open Go.RowKit Go.Proofs.Ytgcliajajcinpaa.P Go.Proofs.YtgcliajajcinpaaW.PrintWords Go.Proofs.YtgcliajajcinpaaW.PrintLast Go.Proofs.YtgcliajajcinpaaW.PrintMore
open Go.Proofs.Ytgcliajajcinpaa.Pl Go.Proofs.Ytgcliajajcinpaa.EvN Go.Proofs.Ytgcliajajcinpaa.Lp Go.Proofs.Ytgcliajajcinpaa.Sets Go.Proofs.Ytgcliajajcinpaa.Mem Go.Proofs.Ytgcliajajcinpaa.Pick Go.Proofs.Ytgcliajajcinpaa.Put Go.Proofs.Ytgcliajajcinpaa.Rack Go.Proofs.Ytgcliajajcinpaa.Racks Go.Proofs.Ytgcliajajcinpaa.Racks2 Go.Proofs.Ytgcliajajcinpaa.Draw Go.Proofs.Ytgcliajajcinpaa.Racks3
set_option linter.unusedVariables false
theorem FnRacks : laws_FnRacks.Pure := by
  intro l0 l1 a0 a1 a2 b0 b1 b2
  refine cm_ex (v := true) ?_
  unfold laws_FnRacks.f
  refine cm_if (fun _ => cm_now fun _ => rfl) (fun _ => ?_)
  have hs0 : Bytes l0 := ⟨by omega, fun x hx => wf_u8 (a2 x hx)⟩
  have hs1 : Bytes l1 := ⟨by omega, fun x hx => wf_u8 (b2 x hx)⟩
  obtain ⟨R, c, d0, hR⟩ := draw_racksOf hs0
  obtain ⟨Q, l, d1, hQ, hl, hg⟩ := draw_rackSafe hs1
  have e1 := racksOf_f R c (by omega)
  have hlen := racksOf_len R c hR
  have hsm : ∀ g ∈ l, g.length ≤ 4611686018427387904 := fun g h => by have := hg g h; omega
  have f1 := impl_safe_f Q l (by omega) (by omega) hsm
  have f2 := spec_safe_f Q l (by omega) (by omega) hsm
  have hsm2 : ∀ g ∈ (racksOf R c).1, g.length ≤ 4611686018427387904 := fun g h => by have := hlen.2 g h; omega
  refine cm_bind d0 ?_
  refine cm_bind e1.2 ?_
  refine cm_bind e1.1 ?_
  refine cm_no (by simp) ?_
  refine cm_bind (sameLists_self _ (by have := hlen.1; omega) hsm2) ?_
  refine cm_step (fun k => by rw [laws_FnRacks.j0]) ?_
  refine cm_no (by simp) ?_
  by_cases w : racks R = true ∧ (1 ≤ c ∧ c ≤ 3) ∧ c ≤ (R.length : Int)
  · have er : racksOf R c = (rows R c, true) := by unfold racksOf; rw [if_pos w]
    rw [er] at hsm2 hlen ⊢
    have g2 := (racks_iff.1 w.1).2
    have hr1 : (rows R c).length = R.length := by simp [rows]
    refine cm_yes rfl ?_
    have s1 := impl_safe_f R (rows R c) (by omega) (by omega) hsm2
    rw [rows_safe R c w.1 w.2.1 w.2.2] at s1
    refine cm_bind s1 ?_
    refine cm_yes rfl ?_
    refine cm_yes rfl ?_
    refine cm_step (fun k => by rw [laws_FnRacks.j1]) ?_
    refine cm_no (by simp [hr1]) ?_
    refine same_cm (L := fun k i => laws_FnRacks.l0 k l1 c (rows R c) ((rows R c).length : Int) i) (rows R c) ?_ ?_
    · intro pre g t e hlt v hv
      have hp : pre.length < R.length := by omega
      have eg : g = row R R.length c pre.length := by
        have h1 : (rows R c)[pre.length]? = some g := by rw [← e]; simp
        simp [rows, hp] at h1
        exact h1.symm
      have good := row_good R rfl g2.2 hp c w.2.1.1 w.2.1.2 w.2.2
      rw [← eg] at good
      have := row_len R R.length c pre.length
      rw [← eg] at this
      refine cm_step (fun k => by rw [laws_FnRacks.l0]) ?_
      simp only [l1_at e, wrap_len hlt (show (rows R c).length ≤ 4611686018427387904 by omega)]
      exact cm_yes (by omega) (cm_yes (by omega) (cm_yes (by omega) (cm_yes good.2.1 (cm_bind (lawHas_f g _ (by omega) good.2.2.1) (cm_yes rfl hv)))))
    · refine cm_step (fun k => by rw [laws_FnRacks.l0]) ?_
      refine cm_no (by omega) ?_
      refine cm_bind d1 ?_
      refine cm_bind f1 ?_
      refine cm_bind f2 ?_
      exact cm_yes (by simp) (cm_now fun _ => by simp)
  · have er : racksOf R c = ([], false) := by unfold racksOf; rw [if_neg w]
    rw [er]
    refine cm_no (by simp) ?_
    refine cm_bind d1 ?_
    refine cm_bind f1 ?_
    refine cm_bind f2 ?_
    exact cm_yes (by simp) (cm_now fun _ => by simp)
end Go.Proofs.Ytgcliajajcinpaa.Pure
end
