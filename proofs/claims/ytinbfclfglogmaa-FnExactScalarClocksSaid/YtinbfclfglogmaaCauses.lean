/- Causes: the events right ahead of one, and the scalar clocks: what both programs come to. -/
import Derived.Test.YtinbfclfglogmaaPx3
import Derived.Test.YtinbfclfglogmaaPx16
import Derived.Test.YtinbfclfglogmaaEvents
namespace Go.Proofs.Ytinbfclfglogmaa.Causes
open Go.RowKit Go.Proofs.Ytinbfclfglogmaa.P Go.Proofs.YtinbfclfglogmaaW.PrintWords Go.Proofs.YtinbfclfglogmaaW.PrintLast Go.Proofs.YtinbfclfglogmaaW.PrintMore
open Go.Proofs.Ytinbfclfglogmaa.Pl Go.Proofs.Ytinbfclfglogmaa.EvN Go.Proofs.Ytinbfclfglogmaa.Lp Go.Proofs.Ytinbfclfglogmaa.Mem Go.Proofs.Ytinbfclfglogmaa.Xm Go.Proofs.Ytinbfclfglogmaa.Hg Go.Proofs.Ytinbfclfglogmaa.Events
set_option linter.unusedSimpArgs false
set_option linter.unusedVariables false

def ev (l : List S65) (i : Nat) : S65 := rd_T65 l (i : Int)
theorem ev_at {pre t l : List S65} {h : S65} (e : pre ++ h :: t = l) : ev l pre.length = h := rdT65_at e
theorem split_at {l : List S65} {i : Nat} (h : i < l.length) : l.take i ++ ev l i :: l.drop (i + 1) = l := by
  unfold ev rd_T65
  rw [Int.toNat_natCast, List.getD_eq_getElem?_getD, List.getElem?_eq_getElem h, Option.getD_some]
  have := List.take_append_drop i l
  rw [List.drop_eq_getElem_cons h] at this
  exact this
theorem ev_take {l : List S65} {i j : Nat} (hj : j < i) (hi : i ≤ l.length) : ev (l.take i) j = ev l j := by
  unfold ev rd_T65
  rw [Int.toNat_natCast, List.getD_eq_getElem?_getD, List.getD_eq_getElem?_getD, List.getElem?_take_of_lt hj]
/-- The last event below n of a process. -/
def prevFrom (l : List S65) (p : Int) : Nat → Option Nat
  | 0 => none
  | n + 1 => if (ev l n).f0 = p then some n else prevFrom l p n
theorem prev_some {l : List S65} {p : Int} : ∀ {n k : Nat}, prevFrom l p n = some k → k < n ∧ (ev l k).f0 = p ∧ ∀ j, k < j → j < n → (ev l j).f0 ≠ p
  | 0, k, h => by cases h
  | n + 1, k, h => by
    unfold prevFrom at h
    by_cases c : (ev l n).f0 = p
    · rw [if_pos c] at h
      have := Option.some.inj h
      subst this
      exact ⟨by omega, c, fun j h1 h2 => by omega⟩
    · rw [if_neg c] at h
      obtain ⟨h1, h2, h3⟩ := prev_some h
      refine ⟨by omega, h2, fun j hj1 hj2 => ?_⟩
      by_cases e : j = n
      · subst e; exact c
      · exact h3 j hj1 (by omega)
theorem prev_none {l : List S65} {p : Int} : ∀ {n : Nat}, prevFrom l p n = none → ∀ j, j < n → (ev l j).f0 ≠ p
  | 0, _, j, hj => by omega
  | n + 1, h, j, hj => by
    unfold prevFrom at h
    by_cases c : (ev l n).f0 = p
    · rw [if_pos c] at h; cases h
    · rw [if_neg c] at h
      by_cases e : j = n
      · subst e; exact c
      · exact prev_none h j (by omega)
def prevL (l : List S65) (i : Nat) : List Int := match prevFrom l (ev l i).f0 i with | some k => [(k : Int)] | none => []
def causesL (l : List S65) (i : Nat) : List Int := prevL l i ++ (if (ev l i).f1 = 3 then [sendIdx (l.take i) (ev l i).f2] else [])
theorem l7Ahead_f (l : List S65) (i : Nat) (hi : i < l.length) (hl : l.length ≤ 4611686018427387904) : Cm (fun k => spec_l7Ahead.f k l (i : Int)) (match prevFrom l (ev l i).f0 i with | some k => (k : Int) | none => -1) := by
  unfold spec_l7Ahead.f
  have key : ∀ n : Nat, n ≤ i → Cm (fun k => spec_l7Ahead.l0 k l (i : Int) ((n : Int) - 1)) (match prevFrom l (ev l i).f0 n with | some k => (k : Int) | none => -1) := by
    intro n
    induction n with
    | zero =>
      intro _
      refine cm_step (fun k => by rw [spec_l7Ahead.l0]) ?_
      exact cm_no (by omega) (cm_now fun _ => rfl)
    | succ n ih =>
      intro hn
      have h1 := ih (by omega)
      have e1 : (((n + 1 : Nat) : Int) - 1) = (n : Int) := by omega
      rw [e1]
      refine cm_step (fun k => by rw [spec_l7Ahead.l0]) ?_
      rw [wrap_in (x := (n : Int) - 1) (by omega) (by omega)]
      refine cm_yes (by omega) (cm_yes (by omega) (cm_yes (by omega) (cm_yes (by omega) (cm_yes (by omega) ?_))))
      by_cases c : (ev l n).f0 = (ev l i).f0
      · have e2 : prevFrom l (ev l i).f0 (n + 1) = some n := by rw [prevFrom, if_pos c]
        rw [e2]
        exact cm_yes c (cm_now fun _ => rfl)
      · have e2 : prevFrom l (ev l i).f0 (n + 1) = prevFrom l (ev l i).f0 n := by rw [prevFrom, if_neg c]
        rw [e2]
        exact cm_no c h1
  have := key i (Nat.le_refl _)
  rw [wrap_in (by omega) (by omega)]
  exact this
theorem l7Causes_f (l : List S65) (i : Nat) (hi : i < l.length) (hl : l.length ≤ 4611686018427387904) : Cm (fun k => spec_l7Causes.f k l (i : Int)) (causesL l i) := by
  unfold spec_l7Causes.f causesL prevL
  have hs := send_f l (ev l i).f2 i (by omega) hl
  refine cm_bind (l7Ahead_f l i hi hl) ?_
  cases h : prevFrom l (ev l i).f0 i with
  | none =>
    simp only
    refine cm_no (by omega) (cm_yes (by omega) (cm_yes (by omega) ?_))
    by_cases c : (ev l i).f1 = 3
    · rw [if_pos c]
      exact cm_yes c (cm_bind hs (cm_yes (by simp) (cm_now fun _ => rfl)))
    · rw [if_neg c]
      exact cm_no c (cm_now fun _ => rfl)
  | some q =>
    simp only
    refine cm_yes (by omega) (cm_yes (by simp) (cm_bind (cm_now fun _ => rfl) (cm_yes (by omega) (cm_yes (by omega) ?_))))
    by_cases c : (ev l i).f1 = 3
    · rw [if_pos c]
      exact cm_yes c (cm_bind hs (cm_yes (by simp) (cm_now fun _ => rfl)))
    · rw [if_neg c]
      exact cm_no c (cm_now fun _ => by simp)
/-- The places of the items of which p holds. -/
def idxs {α : Type} (p : α → Bool) : Nat → List α → List Int
  | _, [] => []
  | i, h :: t => if p h = true then (i : Int) :: idxs p (i + 1) t else idxs p (i + 1) t
theorem idxs_none {α : Type} (p : α → Bool) : ∀ (l : List α) (i : Nat), (∀ x ∈ l, p x = false) → idxs p i l = []
  | [], _, _ => rfl
  | h :: t, i, hp => by
    unfold idxs
    rw [if_neg (by rw [hp h (by simp)]; simp)]
    exact idxs_none p t (i + 1) (fun x hx => hp x (by simp [hx]))
theorem idxs_one {α : Type} (p : α → Bool) (x : α) (b : List α) (hx : p x = true) (hb : ∀ y ∈ b, p y = false) : ∀ (a : List α) (i : Nat), (∀ y ∈ a, p y = false) → idxs p i (a ++ x :: b) = [((i + a.length : Nat) : Int)]
  | [], i, _ => by
    rw [List.nil_append, idxs, if_pos hx, idxs_none p b _ hb]
    simp
  | h :: t, i, ha => by
    rw [List.cons_append, idxs, if_neg (by rw [ha h (by simp)]; simp), idxs_one p x b hx hb t (i + 1) (fun y hy => ha y (by simp [hy]))]
    simp only [List.length_cons]
    congr 2
    omega
theorem idxs_len {α : Type} (p : α → Bool) : ∀ (l : List α) (i : Nat), (idxs p i l).length ≤ l.length
  | [], _ => Nat.le_refl _
  | h :: t, i => by
    have := idxs_len p t (i + 1)
    unfold idxs
    split
    · simp only [List.length_cons]; omega
    · simp only [List.length_cons]; omega
theorem causes_l1 (l : List S65) (i : Nat) (hi : i < l.length) (hl : l.length ≤ 1048576) (out : List Int) (ho : out.length ≤ 4) :
    Cm (fun k => impl_causes.l1 k l (i : Int) out (i : Int) 0) (out ++ (if (ev l i).f1 = 3 then idxs (isSend (ev l i).f2) 0 (l.take i) else [])) := by
  have hlen : (l.take i).length = i := by rw [List.length_take]; omega
  by_cases c : (ev l i).f1 = 3
  · rw [if_pos c]
    have key := loop_cm (L := fun k j s => impl_causes.l1 k l (i : Int) s (i : Int) j) (l.take i) (fun pre rest s => s ++ idxs (isSend (ev l i).f2) pre.length rest) (fun pre s => s.length ≤ 4 + pre.length) ?_ ?_ (l.take i) [] out rfl (by simpa using ho)
    · simpa using key
    · intro s hs
      refine cm_step (fun k => by rw [impl_causes.l1]) ?_
      exact cm_no (by omega) (cm_now fun _ => by simp [idxs])
    · intro pre h t s e hlt hs hn
      have e2 : ev l pre.length = h := by rw [← ev_take (i := i) (by omega) (by omega)]; exact ev_at e
      refine cm_step (fun k => by rw [impl_causes.l1]) ?_
      rw [wrap_len hlt (by omega)]
      refine cm_yes (by omega) (cm_yes (by omega) (cm_yes (by omega) (cm_yes c (cm_yes (by omega) (cm_yes (by omega) ?_)))))
      have e3 : (rd_T65 l (pre.length : Int)) = h := e2
      rw [e3]
      by_cases c2 : isSend (ev l i).f2 h = true
      · have c3 := c2
        simp only [isSend, Bool.and_eq_true, beq_iff_eq] at c3
        have e4 : idxs (isSend (ev l i).f2) pre.length (h :: t) = (pre.length : Int) :: idxs (isSend (ev l i).f2) (pre.length + 1) t := by rw [idxs, if_pos c2]
        rw [e4]
        have h1 := hn (s ++ [(pre.length : Int)]) (by simp; omega)
        rw [len_one] at h1
        exact cm_yes c3.1 (cm_yes c3.2 (cm_yes (by omega) (cm_val h1 (by simp))))
      · have e4 : idxs (isSend (ev l i).f2) pre.length (h :: t) = idxs (isSend (ev l i).f2) (pre.length + 1) t := by rw [idxs, if_neg c2]
        rw [e4]
        have h1 := hn s (by simp; omega)
        rw [len_one] at h1
        refine cm_if (fun c3 => cm_no ?_ h1) (fun _ => h1)
        intro c4
        apply c2
        simp only [isSend, Bool.and_eq_true, beq_iff_eq]
        exact ⟨c3, c4⟩
  · rw [if_neg c, List.append_nil]
    have := same_cm (L := fun k j => impl_causes.l1 k l (i : Int) out (i : Int) j) (l.take i) (fin := out) ?_ ?_
    · exact this
    · intro pre h t e hlt v hv
      refine cm_step (fun k => by rw [impl_causes.l1]) ?_
      rw [wrap_len hlt (by omega)]
      exact cm_yes (by omega) (cm_yes (by omega) (cm_yes (by omega) (cm_no c hv)))
    · refine cm_step (fun k => by rw [impl_causes.l1]) ?_
      exact cm_no (by omega) (cm_now fun _ => rfl)
theorem causes_raw (l : List S65) (i : Nat) (hi : i < l.length) (hl : l.length ≤ 1048576) :
    Cm (fun k => impl_causes.f k l (i : Int)) (prevL l i ++ (if (ev l i).f1 = 3 then idxs (isSend (ev l i).f2) 0 (l.take i) else [])) := by
  unfold impl_causes.f prevL
  have key : ∀ n : Nat, n ≤ i → Cm (fun k => impl_causes.l0 k l (i : Int) [] ((n : Int) - 1)) ((match prevFrom l (ev l i).f0 n with | some k => [(k : Int)] | none => []) ++ (if (ev l i).f1 = 3 then idxs (isSend (ev l i).f2) 0 (l.take i) else [])) := by
    intro n
    induction n with
    | zero =>
      intro _
      have h1 := causes_l1 l i hi hl [] (by simp)
      refine cm_step (fun k => by rw [impl_causes.l0]) ?_
      refine cm_no (by omega) ?_
      refine cm_step (fun k => by rw [impl_causes.j1]) ?_
      exact h1
    | succ n ih =>
      intro hn
      have h1 := ih (by omega)
      have e1 : (((n + 1 : Nat) : Int) - 1) = (n : Int) := by omega
      rw [e1]
      refine cm_step (fun k => by rw [impl_causes.l0]) ?_
      rw [wrap_in (x := (n : Int) - 1) (by omega) (by omega)]
      refine cm_yes (by omega) (cm_yes (by omega) (cm_yes (by omega) (cm_yes (by omega) (cm_yes (by omega) ?_))))
      by_cases c : (ev l n).f0 = (ev l i).f0
      · have e2 : prevFrom l (ev l i).f0 (n + 1) = some n := by rw [prevFrom, if_pos c]
        rw [e2]
        have h2 := causes_l1 l i hi hl [(n : Int)] (by simp)
        refine cm_yes c (cm_yes (by simp) ?_)
        refine cm_step (fun k => by rw [impl_causes.j1]) ?_
        exact h2
      · have e2 : prevFrom l (ev l i).f0 (n + 1) = prevFrom l (ev l i).f0 n := by rw [prevFrom, if_neg c]
        rw [e2]
        exact cm_no c h1
  have := key i (Nat.le_refl _)
  rw [wrap_in (by omega) (by omega)]
  exact this
/-- What a take of good events takes was sent, once. -/
theorem take_sent {procs : Int} {l : List S65} (hg : okFrom (good1 procs) [] l = true) {i : Nat} (hi : i < l.length) (c : (ev l i).f1 = 3) :
    ∃ a x b, l.take i = a ++ x :: b ∧ isSend (ev l i).f2 x = true ∧ (∀ y ∈ a, isSend (ev l i).f2 y = false) ∧ (∀ y ∈ b, isSend (ev l i).f2 y = false) ∧ sendIdx (l.take i) (ev l i).f2 = (a.length : Int) ∧ x.f0 ≠ (ev l i).f0 := by
  have hs := split_at hi
  have hg1 : okFrom (good1 procs) [] (l.take i) = true := by
    have h2 := okFrom_append (good1 procs) (l.take i) [] (ev l i :: l.drop (i + 1))
    rw [hs, hg] at h2
    have h3 := h2.symm
    rw [Bool.and_eq_true] at h3
    exact h3.1
  have h1 := (okFrom_iff (good1 procs) l []).1 hg (l.take i) (ev l i) (l.drop (i + 1)) hs
  rw [List.nil_append] at h1
  rcases foundAt_split (isSend (ev l i).f2) (l.take i) 0 with ⟨h2, h3⟩ | ⟨a, x, b, e, h2, h3, h4⟩
  · exfalso
    have : (l.take i).any (isSend (ev l i).f2) = false := by simpa using h3
    unfold good1 at h1
    rw [if_neg (by omega), if_neg (by omega), if_pos c, anyS_sends, this] at h1
    simp at h1
  · have hb : ∀ y ∈ b, isSend (ev l i).f2 y = false := fun y hy => send_once hg1 e.symm h2 hy
    refine ⟨a, x, b, e, h2, h3, hb, by unfold sendIdx; rw [h4]; simp, ?_⟩
    have h5 : lastS (sends (l.take i)) (ev l i).f2 = x.f0 := by rw [e]; exact lastS_sends a x b _ h2 hb
    unfold good1 at h1
    rw [if_neg (by omega), if_neg (by omega), if_pos c, h5] at h1
    simp only [Bool.and_eq_true, bne_iff_ne, ne_eq] at h1
    exact h1.2.1.2
theorem causes_f {procs : Int} {l : List S65} (hg : okFrom (good1 procs) [] l = true) (i : Nat) (hi : i < l.length) (hl : l.length ≤ 1048576) : Cm (fun k => impl_causes.f k l (i : Int)) (causesL l i) := by
  refine cm_val (causes_raw l i hi hl) ?_
  unfold causesL
  by_cases c : (ev l i).f1 = 3
  · rw [if_pos c, if_pos c]
    obtain ⟨a, x, b, e, h1, h2, h3, h4, _⟩ := take_sent hg hi c
    rw [h4, e, idxs_one _ x b h1 h3 a 0 h2]
    simp
  · rw [if_neg c, if_neg c]
theorem causes_lt {procs : Int} {l : List S65} (hg : okFrom (good1 procs) [] l = true) {i : Nat} (hi : i < l.length) : ∀ k ∈ causesL l i, 0 ≤ k ∧ k < (i : Int) := by
  intro k hk
  unfold causesL prevL at hk
  rw [List.mem_append] at hk
  rcases hk with hk | hk
  · cases h : prevFrom l (ev l i).f0 i with
    | none => rw [h] at hk; cases hk
    | some q =>
      rw [h] at hk
      have := (prev_some h).1
      simp only [List.mem_singleton] at hk
      omega
  · by_cases c : (ev l i).f1 = 3
    · rw [if_pos c, List.mem_singleton] at hk
      obtain ⟨a, x, b, e, h1, h2, h3, h4, _⟩ := take_sent hg hi c
      have h5 := congrArg List.length e
      rw [List.length_take] at h5
      simp only [List.length_append, List.length_cons] at h5
      omega
    · rw [if_neg c] at hk; cases hk
theorem causes_len (l : List S65) (i : Nat) : (causesL l i).length ≤ 2 := by
  unfold causesL prevL
  cases prevFrom l (ev l i).f0 i <;> by_cases c : (ev l i).f1 = 3 <;> simp [c]
/-- The scalar clocks. -/
def maxOver (out cs : List Int) : Int := cs.foldl (fun m k => mx m (rd out k)) 0
def scal (l : List S65) : Nat → List Int
  | 0 => []
  | n + 1 => scal l n ++ [maxOver (scal l n) (causesL l n) + 1]
theorem scal_length (l : List S65) : ∀ n, (scal l n).length = n
  | 0 => rfl
  | n + 1 => by rw [scal, List.length_append, scal_length l n]; rfl
theorem rd_range {out : List Int} {k b : Int} (hb : 0 ≤ b) (h : ∀ x ∈ out, 0 ≤ x ∧ x ≤ b) : 0 ≤ rd out k ∧ rd out k ≤ b := by
  unfold rd
  rw [List.getD_eq_getElem?_getD]
  cases e : out[k.toNat]? with
  | none => simp; exact hb
  | some x => exact h x (List.mem_of_getElem? e)
theorem max_range {out : List Int} {b : Int} (hb : 0 ≤ b) (h : ∀ x ∈ out, 0 ≤ x ∧ x ≤ b) : ∀ (cs : List Int) (m : Int), 0 ≤ m ∧ m ≤ b → 0 ≤ cs.foldl (fun m k => mx m (rd out k)) m ∧ cs.foldl (fun m k => mx m (rd out k)) m ≤ b
  | [], m, hm => hm
  | k :: t, m, hm => by
    have h1 := rd_range (k := k) hb h
    rw [List.foldl_cons]
    refine max_range hb h t _ ?_
    unfold mx
    split <;> omega
theorem scal_range (l : List S65) : ∀ n, ∀ x ∈ scal l n, 0 ≤ x ∧ x ≤ (n : Int)
  | 0, x, hx => by cases hx
  | n + 1, x, hx => by
    have ih := scal_range l n
    rw [scal, List.mem_append, List.mem_singleton] at hx
    rcases hx with hx | rfl
    · have := ih x hx
      omega
    · have := max_range (by omega) ih (causesL l n) 0 (by omega)
      unfold maxOver
      omega
theorem spec_scal_l1 (l : List S65) (out : List Int) (i : Nat) (hr : ∀ x ∈ out, 0 ≤ x ∧ x ≤ 1048576) (ho : out.length ≤ 1048576) (cs : List Int) (hc : ∀ k ∈ cs, 0 ≤ k ∧ k < (out.length : Int)) (hcl : cs.length ≤ 2) (v : List Int × Bool)
    (hv : Cm (fun k => spec_ScalarClocks.l0 k l (out ++ [maxOver out cs + 1]) (l.length : Int) (wrap64 ((i : Int) + 1))) v) : Cm (fun k => spec_ScalarClocks.l1 k l out 0 (l.length : Int) (i : Int) cs (cs.length : Int) 0) v := by
  refine fold_cm (L := fun k j m => spec_ScalarClocks.l1 k l out m (l.length : Int) (i : Int) cs (cs.length : Int) j) cs (fun m k => mx m (rd out k)) (fun pre m => 0 ≤ m ∧ m ≤ 1048576) 0 (by omega) ?_ ?_
  · intro pre k t m e hlt hm
    have hk := hc k (by rw [← e]; simp)
    have h1 := rd_range (k := k) (by omega) hr
    refine ⟨by unfold mx; split <;> omega, fun u hu => ?_⟩
    refine cm_step (fun k => by rw [spec_ScalarClocks.l1]) ?_
    simp only [rd_at e, wrap_len hlt (show cs.length ≤ 4611686018427387904 by omega)]
    refine cm_yes (by omega) (cm_yes (by omega) (cm_yes (by omega) (cm_yes (by omega) (cm_yes (by omega) ?_))))
    by_cases c : rd out k > m
    · have e1 : mx m (rd out k) = rd out k := by unfold mx; split <;> omega
      rw [e1] at hu
      exact cm_yes c hu
    · have e1 : mx m (rd out k) = m := by unfold mx; split <;> omega
      rw [e1] at hu
      exact cm_no c hu
  · intro hm
    refine cm_step (fun k => by rw [spec_ScalarClocks.l1]) ?_
    rw [wrap_in (x := cs.foldl (fun m k => mx m (rd out k)) 0 + 1) (by omega) (by omega)]
    exact cm_no (by omega) (cm_yes (by omega) hv)
theorem impl_scal_l1 (l : List S65) (out : List Int) (i : Nat) (hr : ∀ x ∈ out, 0 ≤ x ∧ x ≤ 1048576) (ho : out.length ≤ 1048576) (cs : List Int) (hc : ∀ k ∈ cs, 0 ≤ k ∧ k < (out.length : Int)) (hcl : cs.length ≤ 2) (v : List Int × Bool)
    (hv : Cm (fun k => impl_ScalarClocks.l0 k l (out ++ [maxOver out cs + 1]) (l.length : Int) (wrap64 ((i : Int) + 1))) v) : Cm (fun k => impl_ScalarClocks.l1 k l out 0 (l.length : Int) (i : Int) cs (cs.length : Int) 0) v := by
  refine fold_cm (L := fun k j m => impl_ScalarClocks.l1 k l out m (l.length : Int) (i : Int) cs (cs.length : Int) j) cs (fun m k => mx m (rd out k)) (fun pre m => 0 ≤ m ∧ m ≤ 1048576) 0 (by omega) ?_ ?_
  · intro pre k t m e hlt hm
    have hk := hc k (by rw [← e]; simp)
    have h1 := rd_range (k := k) (by omega) hr
    refine ⟨by unfold mx; split <;> omega, fun u hu => ?_⟩
    refine cm_step (fun k => by rw [impl_ScalarClocks.l1]) ?_
    simp only [rd_at e, wrap_len hlt (show cs.length ≤ 4611686018427387904 by omega)]
    exact cm_yes (by omega) (cm_yes (by omega) (cm_yes (by omega) (cm_yes (by omega) (cm_yes (by omega) hu))))
  · intro hm
    refine cm_step (fun k => by rw [impl_ScalarClocks.l1]) ?_
    rw [wrap_in (x := cs.foldl (fun m k => mx m (rd out k)) 0 + 1) (by omega) (by omega)]
    exact cm_no (by omega) (cm_yes (by omega) hv)
theorem scalars {procs : Int} {l : List S65} (hg : good procs l = true) :
    Cm (fun k => spec_ScalarClocks.l0 k l [] (l.length : Int) 0) (scal l l.length, true) ∧ Cm (fun k => impl_ScalarClocks.l0 k l [] (l.length : Int) 0) (scal l l.length, true) := by
  obtain ⟨hg1, _, hl⟩ := good_iff.1 hg
  have key : ∀ (d i : Nat), i + d = l.length → Cm (fun k => spec_ScalarClocks.l0 k l (scal l i) (l.length : Int) (i : Int)) (scal l l.length, true) ∧ Cm (fun k => impl_ScalarClocks.l0 k l (scal l i) (l.length : Int) (i : Int)) (scal l l.length, true) := by
    intro d
    induction d with
    | zero =>
      intro i e
      obtain rfl : i = l.length := by omega
      constructor
      · refine cm_step (fun k => by rw [spec_ScalarClocks.l0]) ?_
        exact cm_no (by omega) (cm_now fun _ => rfl)
      · refine cm_step (fun k => by rw [impl_ScalarClocks.l0]) ?_
        exact cm_no (by omega) (cm_now fun _ => rfl)
    | succ d ih =>
      intro i e
      have hi : i < l.length := by omega
      have h1 := ih (i + 1) (by omega)
      have hr : ∀ x ∈ scal l i, 0 ≤ x ∧ x ≤ 1048576 := fun x hx => by have := scal_range l i x hx; omega
      have hc : ∀ k ∈ causesL l i, 0 ≤ k ∧ k < ((scal l i).length : Int) := fun k hk => by rw [scal_length]; exact causes_lt hg1 hi k hk
      have ho : (scal l i).length ≤ 1048576 := by rw [scal_length]; omega
      have hw : wrap64 ((i : Int) + 1) = ((i + 1 : Nat) : Int) := wrap_len hi (by omega)
      constructor
      · refine cm_step (fun k => by rw [spec_ScalarClocks.l0]) ?_
        refine cm_yes (by omega) (cm_bind (l7Causes_f l i hi (by omega)) ?_)
        exact spec_scal_l1 l (scal l i) i hr ho _ hc (causes_len l i) _ (by rw [hw]; exact h1.1)
      · refine cm_step (fun k => by rw [impl_ScalarClocks.l0]) ?_
        refine cm_yes (by omega) (cm_bind (causes_f hg1 i hi (by omega)) ?_)
        exact impl_scal_l1 l (scal l i) i hr ho _ hc (causes_len l i) _ (by rw [hw]; exact h1.2)
  exact key l.length 0 (by omega)
theorem scalarClocks_both (a0 : Int) (l1 : List S69) (h0 : (Lit.int .i64 a0).wf = true) (h1 : l1.length ≤ maxLen ∧ l1.length * 24 ≤ 140737488351232 ∧ ∀ x_ ∈ l1, ok69 x_) :
    ∃ v, Cm (fun k => spec_ScalarClocks.f k a0 (l1.map cEvent)) v ∧ Cm (fun k => impl_ScalarClocks.f k a0 (l1.map cEvent)) v ∧ v.1.length ≤ 281474976710656 ∧ v.1.length ≤ 4611686018427387904 := by
  have hs := spec_good_f a0 (l1.map cEvent) (wf_i64 h0) (by have := h1.2.1; simp only [List.length_map]; omega)
  have hi := areEvents_f a0 (l1.map cEvent) (wf_conv h1.2.2)
  unfold spec_ScalarClocks.f impl_ScalarClocks.f
  by_cases hg : good a0 (l1.map cEvent) = true
  · obtain ⟨h2, h3⟩ := scalars hg
    have hl := (good_iff.1 hg).2.2
    refine ⟨_, cm_bind hs (cm_yes hg h2), cm_bind (cm_now fun _ => hi) (cm_yes hg h3), ?_, ?_⟩
    · show (scal _ _).length ≤ _; rw [scal_length]; omega
    · show (scal _ _).length ≤ _; rw [scal_length]; omega
  · exact ⟨([], false), cm_bind hs (cm_no hg (cm_now fun _ => rfl)), cm_bind (cm_now fun _ => hi) (cm_no hg (cm_now fun _ => rfl)), by simp, by simp⟩
end Go.Proofs.Ytinbfclfglogmaa.Causes
