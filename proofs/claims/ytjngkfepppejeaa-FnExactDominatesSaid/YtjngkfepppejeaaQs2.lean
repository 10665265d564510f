/- Qs2: meeting, coteries and covering: what both programs come to. -/
import Derived.Test.YtjngkfepppejeaaPx3
import Derived.Test.YtjngkfepppejeaaPx6
import Derived.Test.YtjngkfepppejeaaQs
namespace Go.Proofs.Ytjngkfepppejeaa.Qs
open Go.RowKit Go.Proofs.Ytjngkfepppejeaa.P Go.Proofs.YtjngkfepppejeaaW.PrintWords Go.Proofs.YtjngkfepppejeaaW.PrintLast Go.Proofs.YtjngkfepppejeaaW.PrintMore
open Go.Proofs.Ytjngkfepppejeaa.Pl Go.Proofs.Ytjngkfepppejeaa.EvN Go.Proofs.Ytjngkfepppejeaa.Lp Go.Proofs.Ytjngkfepppejeaa.Sets
set_option linter.unusedSimpArgs false
set_option linter.unusedVariables false

/-- Members that fit into a number. -/
def Fits (l : List Int) : Prop := l.length ≤ 4611686018427387904 ∧ ∀ x ∈ l, 0 ≤ x ∧ x < 62
theorem Fits.pos {l : List Int} (h : Fits l) : ∀ x ∈ l, 0 ≤ x := fun x hx => (h.2 x hx).1
theorem Fits.lt {l : List Int} (h : Fits l) : maskN l < 9223372036854775808 := by
  have := mask_lt 62 l (fun x hx => by have := h.2 x hx; omega)
  omega
theorem maskOf_f (l : List Int) (h : Fits l) : Cm (fun k => impl_maskOf.f k l) ((maskN l : Nat) : Int) := by
  unfold impl_maskOf.f
  refine fold_cm (L := fun k i s => impl_maskOf.l0 k s l (l.length : Int) i) l (fun s m => ((s.toNat ||| 2 ^ m.toNat : Nat) : Int)) (fun pre s => s = ((maskN pre : Nat) : Int)) 0 rfl ?_ ?_
  · intro pre x t s e hlt hi
    have hx := h.2 x (by rw [← e]; simp)
    subst hi
    have hb : maskN pre < 2 ^ 62 := mask_lt 62 pre (fun y hy => by have := h.2 y (by rw [← e]; simp [hy]); omega)
    have hp : 2 ^ x.toNat < 2 ^ 62 := Nat.pow_lt_pow_right (by omega) (by omega)
    refine ⟨by simp [maskN], fun u hu => ?_⟩
    refine cm_step (fun k => by rw [impl_maskOf.l0]) ?_
    simp only [rd_at e, wrap_len hlt h.1, shl_one hx.1 hx.2]
    rw [or_i64 _ _ (by omega) (by omega)]
    repeat (first | assumption | exact cm_now (fun _ => rfl) | refine cm_yes (by first | omega | assumption | (simp; done) | (simp; omega)) ?_ | refine cm_no (by first | omega | assumption | (simp; done) | (simp; omega)) ?_)
  · intro hi
    rw [hi]
    refine cm_step (fun k => by rw [impl_maskOf.l0]) ?_
    repeat (first | assumption | exact cm_now (fun _ => rfl) | refine cm_yes (by first | omega | assumption | (simp; done) | (simp; omega)) ?_ | refine cm_no (by first | omega | assumption | (simp; done) | (simp; omega)) ?_)
/-- Any two groups of a list meet. -/
def allMeet (l : List (List Int)) : Bool := okFrom (fun pre a => pre.all (fun b => meet a b)) [] l
/-- No group of a list has all of another one. -/
def noneHas (l : List (List Int)) : Bool := okFrom (fun pre a => okFrom (fun pre2 b => decide (pre.length = pre2.length) || !hasAll a b) [] l) [] l
def coterie (l : List (List Int)) : Bool := noneHas l && allMeet l
/-- Each of b has all of one of a. -/
def each (a b : List (List Int)) : Bool := b.all (fun g => a.any (fun h => hasAll g h))
def Fit2 (l : List (List Int)) : Prop := l.length ≤ 4611686018427387904 ∧ ∀ g ∈ l, Fits g

theorem l6All_l1 (l : List (List Int)) (hl : Fit2 l) (pre : List (List Int)) (a : List Int) (t : List (List Int)) (v : Bool) (e : pre ++ a :: t = l) (hv : pre.all (fun b => meet a b) = true → Cm (fun k => spec_l6All.l0 k l l (l.length : Int) (wrap64 ((pre.length : Int) + 1))) v) :
    Cm (fun k => spec_l6All.l1 k l a l (l.length : Int) (pre.length : Int) pre (pre.length : Int) 0) (if pre.all (fun b => meet a b) = true then v else false) := by
  have h1 := (hl.2 a (by rw [← e]; simp)).1
  have h2 : ∀ b ∈ pre, b.length ≤ 4611686018427387904 := fun b hb => (hl.2 b (by rw [← e]; simp [hb])).1
  have h4 := len_mid e
  have h5 := hl.1
  refine every_cm (L := fun k i => spec_l6All.l1 k l a l (l.length : Int) (pre.length : Int) pre (pre.length : Int) i) pre (fun b => meet a b) ?_ ?_ ?_
  · intro pre2 b t2 e2 hlt2 hp2 v2 hv2
    have h3 := h2 b (by rw [← e2]; simp)
    refine cm_step (fun k => by rw [spec_l6All.l1]) ?_
    simp only [l1_at e2, wrap_len (n := pre2.length) (m := pre.length) hlt2 (by omega)]
    repeat (first | assumption | exact cm_now (fun _ => rfl) | refine cm_bind (meet_f _ _ h1 h3) ?_ | refine cm_yes (by first | omega | assumption | (simp; done) | (simp; omega) | exact hp2) ?_ | refine cm_no (by first | omega | assumption | (simp; done) | (simp; omega) | exact hp2) ?_)
  · intro pre2 b t2 e2 hlt2 hp2
    have h3 := h2 b (by rw [← e2]; simp)
    refine cm_step (fun k => by rw [spec_l6All.l1]) ?_
    simp only [l1_at e2, wrap_len (n := pre2.length) (m := pre.length) hlt2 (by omega)]
    repeat (first | assumption | exact cm_now (fun _ => rfl) | refine cm_bind (meet_f _ _ h1 h3) ?_ | refine cm_yes (by first | omega | assumption | (simp; done) | (simp; omega) | exact (by simpa using hp2)) ?_ | refine cm_no (by first | omega | assumption | (simp; done) | (simp; omega) | exact (by simpa using hp2)) ?_)
  · intro hp
    have hv2 := hv hp
    refine cm_step (fun k => by rw [spec_l6All.l1]) ?_
    repeat (first | assumption | exact cm_now (fun _ => rfl) | refine cm_yes (by first | omega | assumption | (simp; done) | (simp; omega)) ?_ | refine cm_no (by first | omega | assumption | (simp; done) | (simp; omega)) ?_)
theorem l6All_f (l : List (List Int)) (hl : Fit2 l) : Cm (fun k => spec_l6All.f k l) (allMeet l) := by
  unfold spec_l6All.f
  have := all_cm (L := fun k i => spec_l6All.l0 k l l (l.length : Int) i) l (fun pre a => pre.all (fun b => meet a b)) (fin := true) (no := false) ?_ ?_ ?_
  · exact cm_val this (if_self _)
  · intro pre a t e hlt hp v hv
    have := l6All_l1 l hl pre a t v e (fun _ => by rw [wrap_len hlt hl.1]; exact hv)
    rw [if_pos hp] at this
    refine cm_step (fun k => by rw [spec_l6All.l0]) ?_
    simp only [l1_at e, take_at e]
    exact cm_yes (by omega) (cm_yes (by omega) (cm_yes (by omega) (cm_yes (by omega) (cm_bind (cm_now fun _ => rfl) this))))
  · intro pre a t e hlt hp
    have := l6All_l1 l hl pre a t false e (fun c => by rw [c] at hp; cases hp)
    rw [hp] at this
    refine cm_step (fun k => by rw [spec_l6All.l0]) ?_
    simp only [l1_at e, take_at e]
    exact cm_yes (by omega) (cm_yes (by omega) (cm_yes (by omega) (cm_yes (by omega) (cm_bind (cm_now fun _ => rfl) this))))
  · intro _
    refine cm_step (fun k => by rw [spec_l6All.l0]) ?_
    repeat (first | assumption | exact cm_now (fun _ => rfl) | refine cm_yes (by first | omega | assumption | (simp; done) | (simp; omega)) ?_ | refine cm_no (by first | omega | assumption | (simp; done) | (simp; omega)) ?_)
theorem allMeet_l1 (l : List (List Int)) (hl : Fit2 l) (pre : List (List Int)) (a : List Int) (t : List (List Int)) (v : Bool) (e : pre ++ a :: t = l) (hv : pre.all (fun b => meet a b) = true → Cm (fun k => impl_allMeet.l0 k l l (l.length : Int) (wrap64 ((pre.length : Int) + 1))) v) :
    Cm (fun k => impl_allMeet.l1 k l a l (l.length : Int) (pre.length : Int) pre (pre.length : Int) 0) (if pre.all (fun b => meet a b) = true then v else false) := by
  have h1 := hl.2 a (by rw [← e]; simp)
  have h2 : ∀ b ∈ pre, Fits b := fun b hb => hl.2 b (by rw [← e]; simp [hb])
  have h4 := len_mid e
  have h5 := hl.1
  refine every_cm (L := fun k i => impl_allMeet.l1 k l a l (l.length : Int) (pre.length : Int) pre (pre.length : Int) i) pre (fun b => meet a b) ?_ ?_ ?_
  · intro pre2 b t2 e2 hlt2 hp2 v2 hv2
    have h3 := h2 b (by rw [← e2]; simp)
    rw [meet_mask a b h1.pos h3.pos] at hp2
    refine cm_step (fun k => by rw [impl_allMeet.l1]) ?_
    simp only [l1_at e2, wrap_len (n := pre2.length) (m := pre.length) hlt2 (by omega)]
    refine cm_yes (by omega) (cm_yes (by omega) (cm_yes (by omega) (cm_bind (maskOf_f a h1) (cm_bind (maskOf_f b h3) ?_))))
    rw [and_i64 _ _ h1.lt h3.lt]
    repeat (first | assumption | exact cm_now (fun _ => rfl) | refine cm_yes (by first | omega | assumption | (simp; done) | (simp; omega)) ?_ | refine cm_no (by first | omega | assumption | (simp; done) | (simp; omega)) ?_)
  · intro pre2 b t2 e2 hlt2 hp2
    have h3 := h2 b (by rw [← e2]; simp)
    have hp3 : maskN a &&& maskN b = 0 := by
      by_cases c : maskN a &&& maskN b = 0
      · exact c
      · rw [(meet_mask a b h1.pos h3.pos).2 c] at hp2; cases hp2
    refine cm_step (fun k => by rw [impl_allMeet.l1]) ?_
    simp only [l1_at e2, wrap_len (n := pre2.length) (m := pre.length) hlt2 (by omega)]
    refine cm_yes (by omega) (cm_yes (by omega) (cm_yes (by omega) (cm_bind (maskOf_f a h1) (cm_bind (maskOf_f b h3) ?_))))
    rw [and_i64 _ _ h1.lt h3.lt]
    repeat (first | assumption | exact cm_now (fun _ => rfl) | refine cm_yes (by first | omega | assumption | (simp; done) | (simp; omega)) ?_ | refine cm_no (by first | omega | assumption | (simp; done) | (simp; omega)) ?_)
  · intro hp
    have hv2 := hv hp
    refine cm_step (fun k => by rw [impl_allMeet.l1]) ?_
    repeat (first | assumption | exact cm_now (fun _ => rfl) | refine cm_yes (by first | omega | assumption | (simp; done) | (simp; omega)) ?_ | refine cm_no (by first | omega | assumption | (simp; done) | (simp; omega)) ?_)
theorem allMeet_f (l : List (List Int)) (hl : Fit2 l) : Cm (fun k => impl_allMeet.f k l) (allMeet l) := by
  unfold impl_allMeet.f
  have := all_cm (L := fun k i => impl_allMeet.l0 k l l (l.length : Int) i) l (fun pre a => pre.all (fun b => meet a b)) (fin := true) (no := false) ?_ ?_ ?_
  · exact cm_val this (if_self _)
  · intro pre a t e hlt hp v hv
    have := allMeet_l1 l hl pre a t v e (fun _ => by rw [wrap_len hlt hl.1]; exact hv)
    rw [if_pos hp] at this
    refine cm_step (fun k => by rw [impl_allMeet.l0]) ?_
    simp only [l1_at e, take_at e]
    exact cm_yes (by omega) (cm_yes (by omega) (cm_yes (by omega) (cm_yes (by omega) (cm_bind (cm_now fun _ => rfl) this))))
  · intro pre a t e hlt hp
    have := allMeet_l1 l hl pre a t false e (fun c => by rw [c] at hp; cases hp)
    rw [hp] at this
    refine cm_step (fun k => by rw [impl_allMeet.l0]) ?_
    simp only [l1_at e, take_at e]
    exact cm_yes (by omega) (cm_yes (by omega) (cm_yes (by omega) (cm_yes (by omega) (cm_bind (cm_now fun _ => rfl) this))))
  · intro _
    refine cm_step (fun k => by rw [impl_allMeet.l0]) ?_
    repeat (first | assumption | exact cm_now (fun _ => rfl) | refine cm_yes (by first | omega | assumption | (simp; done) | (simp; omega)) ?_ | refine cm_no (by first | omega | assumption | (simp; done) | (simp; omega)) ?_)
theorem l6Coterie_l1 (l : List (List Int)) (hl : Fit2 l) (pre : List (List Int)) (a : List Int) (t : List (List Int)) (v : Bool) (e : pre ++ a :: t = l)
    (hv : okFrom (fun pre2 b => decide (pre.length = pre2.length) || !hasAll a b) [] l = true → Cm (fun k => spec_l6Coterie.l0 k l l (l.length : Int) (wrap64 ((pre.length : Int) + 1))) v) :
    Cm (fun k => spec_l6Coterie.l1 k l (pre.length : Int) a l (l.length : Int) (pre.length : Int) l (l.length : Int) 0) (if okFrom (fun pre2 b => decide (pre.length = pre2.length) || !hasAll a b) [] l = true then v else false) := by
  have h1 := hl.2 a (by rw [← e]; simp)
  refine all_cm (L := fun k i => spec_l6Coterie.l1 k l (pre.length : Int) a l (l.length : Int) (pre.length : Int) l (l.length : Int) i) l (fun pre2 b => decide (pre.length = pre2.length) || !hasAll a b) ?_ ?_ ?_
  · intro pre2 b t2 e2 hlt2 hp2 v2 hv2
    have h3 := hl.2 b (by rw [← e2]; simp)
    simp only [Bool.or_eq_true, decide_eq_true_eq] at hp2
    refine cm_step (fun k => by rw [spec_l6Coterie.l1]) ?_
    simp only [l1_at e2, wrap_len hlt2 hl.1]
    refine cm_yes (by omega) (cm_yes (by omega) (cm_yes (by omega) (cm_if (fun _ => hv2) (fun c => cm_bind (hasAll_f a b h1.1 h3.1) (cm_no ?_ hv2)))))
    rcases hp2 with hp2 | hp2
    · omega
    · simpa using hp2
  · intro pre2 b t2 e2 hlt2 hp2
    have h3 := hl.2 b (by rw [← e2]; simp)
    simp only [Bool.or_eq_false_iff, decide_eq_false_iff_not, Bool.not_eq_false'] at hp2
    obtain ⟨hp3, hp4⟩ := hp2
    refine cm_step (fun k => by rw [spec_l6Coterie.l1]) ?_
    simp only [l1_at e2, wrap_len hlt2 hl.1]
    repeat (first | assumption | exact cm_now (fun _ => rfl) | refine cm_bind (hasAll_f a b h1.1 h3.1) ?_ | refine cm_yes (by first | omega | assumption | (simp; done) | (simp; omega)) ?_ | refine cm_no (by first | omega | assumption | (simp; done) | (simp; omega)) ?_)
  · intro hp
    have hv2 := hv hp
    refine cm_step (fun k => by rw [spec_l6Coterie.l1]) ?_
    repeat (first | assumption | exact cm_now (fun _ => rfl) | refine cm_yes (by first | omega | assumption | (simp; done) | (simp; omega)) ?_ | refine cm_no (by first | omega | assumption | (simp; done) | (simp; omega)) ?_)
theorem l6Coterie_f (l : List (List Int)) (hl : Fit2 l) : Cm (fun k => spec_l6Coterie.f k l) (coterie l) := by
  unfold spec_l6Coterie.f
  have := all_cm (L := fun k i => spec_l6Coterie.l0 k l l (l.length : Int) i) l (fun pre a => okFrom (fun pre2 b => decide (pre.length = pre2.length) || !hasAll a b) [] l) (fin := allMeet l) (no := false) ?_ ?_ ?_
  · refine cm_val this ?_
    unfold coterie noneHas
    cases okFrom (fun pre a => okFrom (fun pre2 b => decide (pre.length = pre2.length) || !hasAll a b) [] l) [] l <;> simp
  · intro pre a t e hlt hp v hv
    have := l6Coterie_l1 l hl pre a t v e (fun _ => by rw [wrap_len hlt hl.1]; exact hv)
    rw [if_pos hp] at this
    refine cm_step (fun k => by rw [spec_l6Coterie.l0]) ?_
    simp only [l1_at e]
    repeat (first | assumption | exact cm_now (fun _ => rfl) | refine cm_yes (by first | omega | assumption | (simp; done) | (simp; omega)) ?_ | refine cm_no (by first | omega | assumption | (simp; done) | (simp; omega)) ?_)
  · intro pre a t e hlt hp
    have := l6Coterie_l1 l hl pre a t false e (fun c => by rw [c] at hp; cases hp)
    rw [hp] at this
    refine cm_step (fun k => by rw [spec_l6Coterie.l0]) ?_
    simp only [l1_at e]
    repeat (first | assumption | exact cm_now (fun _ => rfl) | refine cm_yes (by first | omega | assumption | (simp; done) | (simp; omega)) ?_ | refine cm_no (by first | omega | assumption | (simp; done) | (simp; omega)) ?_)
  · intro _
    refine cm_step (fun k => by rw [spec_l6Coterie.l0]) ?_
    repeat (first | assumption | exact cm_now (fun _ => rfl) | refine cm_bind (l6All_f l hl) ?_ | refine cm_yes (by first | omega | assumption | (simp; done) | (simp; omega)) ?_ | refine cm_no (by first | omega | assumption | (simp; done) | (simp; omega)) ?_)
theorem isCoterie_l1 (l : List (List Int)) (hl : Fit2 l) (pre : List (List Int)) (a : List Int) (t : List (List Int)) (v : Bool) (e : pre ++ a :: t = l)
    (hv : okFrom (fun pre2 b => decide (pre.length = pre2.length) || !hasAll a b) [] l = true → Cm (fun k => impl_isCoterie.l0 k l l (l.length : Int) (wrap64 ((pre.length : Int) + 1))) v) :
    Cm (fun k => impl_isCoterie.l1 k l (pre.length : Int) a l (l.length : Int) (pre.length : Int) l (l.length : Int) 0) (if okFrom (fun pre2 b => decide (pre.length = pre2.length) || !hasAll a b) [] l = true then v else false) := by
  have h1 := hl.2 a (by rw [← e]; simp)
  refine all_cm (L := fun k i => impl_isCoterie.l1 k l (pre.length : Int) a l (l.length : Int) (pre.length : Int) l (l.length : Int) i) l (fun pre2 b => decide (pre.length = pre2.length) || !hasAll a b) ?_ ?_ ?_
  · intro pre2 b t2 e2 hlt2 hp2 v2 hv2
    have h3 := hl.2 b (by rw [← e2]; simp)
    simp only [Bool.or_eq_true, decide_eq_true_eq] at hp2
    refine cm_step (fun k => by rw [impl_isCoterie.l1]) ?_
    simp only [l1_at e2, wrap_len hlt2 hl.1]
    refine cm_yes (by omega) (cm_yes (by omega) (cm_yes (by omega) (cm_if (fun _ => hv2) (fun c => cm_bind (maskOf_f a h1) (cm_bind (maskOf_f b h3) ?_)))))
    rw [and_i64 _ _ h1.lt h3.lt]
    refine cm_no ?_ hv2
    rcases hp2 with hp2 | hp2
    · omega
    · intro c2
      rw [(has_mask a b h1.pos h3.pos).2 (by omega)] at hp2
      cases hp2
  · intro pre2 b t2 e2 hlt2 hp2
    have h3 := hl.2 b (by rw [← e2]; simp)
    simp only [Bool.or_eq_false_iff, decide_eq_false_iff_not, Bool.not_eq_false'] at hp2
    obtain ⟨hp3, hp4⟩ := hp2
    rw [has_mask a b h1.pos h3.pos] at hp4
    refine cm_step (fun k => by rw [impl_isCoterie.l1]) ?_
    simp only [l1_at e2, wrap_len hlt2 hl.1]
    refine cm_yes (by omega) (cm_yes (by omega) (cm_yes (by omega) (cm_no (by omega) (cm_bind (maskOf_f a h1) (cm_bind (maskOf_f b h3) ?_)))))
    rw [and_i64 _ _ h1.lt h3.lt]
    repeat (first | assumption | exact cm_now (fun _ => rfl) | refine cm_yes (by first | omega | assumption | (simp; done) | (simp; omega)) ?_ | refine cm_no (by first | omega | assumption | (simp; done) | (simp; omega)) ?_)
  · intro hp
    have hv2 := hv hp
    refine cm_step (fun k => by rw [impl_isCoterie.l1]) ?_
    repeat (first | assumption | exact cm_now (fun _ => rfl) | refine cm_yes (by first | omega | assumption | (simp; done) | (simp; omega)) ?_ | refine cm_no (by first | omega | assumption | (simp; done) | (simp; omega)) ?_)
theorem isCoterie_f (l : List (List Int)) (hl : Fit2 l) : Cm (fun k => impl_isCoterie.f k l) (coterie l) := by
  unfold impl_isCoterie.f
  have := all_cm (L := fun k i => impl_isCoterie.l0 k l l (l.length : Int) i) l (fun pre a => okFrom (fun pre2 b => decide (pre.length = pre2.length) || !hasAll a b) [] l) (fin := allMeet l) (no := false) ?_ ?_ ?_
  · refine cm_val this ?_
    unfold coterie noneHas
    cases okFrom (fun pre a => okFrom (fun pre2 b => decide (pre.length = pre2.length) || !hasAll a b) [] l) [] l <;> simp
  · intro pre a t e hlt hp v hv
    have := isCoterie_l1 l hl pre a t v e (fun _ => by rw [wrap_len hlt hl.1]; exact hv)
    rw [if_pos hp] at this
    refine cm_step (fun k => by rw [impl_isCoterie.l0]) ?_
    simp only [l1_at e]
    repeat (first | assumption | exact cm_now (fun _ => rfl) | refine cm_yes (by first | omega | assumption | (simp; done) | (simp; omega)) ?_ | refine cm_no (by first | omega | assumption | (simp; done) | (simp; omega)) ?_)
  · intro pre a t e hlt hp
    have := isCoterie_l1 l hl pre a t false e (fun c => by rw [c] at hp; cases hp)
    rw [hp] at this
    refine cm_step (fun k => by rw [impl_isCoterie.l0]) ?_
    simp only [l1_at e]
    repeat (first | assumption | exact cm_now (fun _ => rfl) | refine cm_yes (by first | omega | assumption | (simp; done) | (simp; omega)) ?_ | refine cm_no (by first | omega | assumption | (simp; done) | (simp; omega)) ?_)
  · intro _
    refine cm_step (fun k => by rw [impl_isCoterie.l0]) ?_
    repeat (first | assumption | exact cm_now (fun _ => rfl) | refine cm_bind (allMeet_f l hl) ?_ | refine cm_yes (by first | omega | assumption | (simp; done) | (simp; omega)) ?_ | refine cm_no (by first | omega | assumption | (simp; done) | (simp; omega)) ?_)
/-- The loop of 'each': is one there that g has all of. -/
theorem l6Each_l1 (a b : List (List Int)) (ha : Fit2 a) (g : List Int) (hg : Fits g) (i : Int) (v : Bool) (hv : a.any (fun h => hasAll g h) = true → Cm (fun k => spec_l6Each.l0 k a b (b.length : Int) (wrap64 (i + 1))) v) :
    ∀ (rest pre : List (List Int)) (found : Bool), pre ++ rest = a → found = pre.any (fun h => hasAll g h) →
    Cm (fun k => spec_l6Each.l1 k a g found b (b.length : Int) i a (a.length : Int) (pre.length : Int)) (if a.any (fun h => hasAll g h) = true then v else false) := by
  intro rest pre found e hf
  refine loop_cm (L := fun k i2 s => spec_l6Each.l1 k a g s b (b.length : Int) i a (a.length : Int) i2) a (fun _ _ _ => if a.any (fun h => hasAll g h) = true then v else false) (fun pre s => s = pre.any (fun h => hasAll g h)) ?_ ?_ rest pre found e hf
  · intro s hs
    subst hs
    refine cm_step (fun k => by rw [spec_l6Each.l1]) ?_
    refine cm_no (by omega) (cm_if (fun c => ?_) (fun c => ?_))
    · rw [if_pos c]; exact hv c
    · rw [if_neg c]; exact cm_now fun _ => rfl
  · intro pre2 h t s e2 hlt hs hn
    have h3 := ha.2 h (by rw [← e2]; simp)
    refine cm_step (fun k => by rw [spec_l6Each.l1]) ?_
    simp only [l1_at e2, wrap_len hlt ha.1]
    refine cm_yes (by omega) (cm_yes (by omega) (cm_yes (by omega) (cm_if (fun c => ?_) (fun c => cm_bind (hasAll_f g h hg.1 h3.1) ?_))))
    · exact hn true (by rw [List.any_append, ← hs, c]; rfl)
    · refine hn (hasAll g h) ?_
      have : s = false := by simpa using c
      rw [List.any_append, ← hs, this]
      simp
theorem l6Each_f (a b : List (List Int)) (ha : Fit2 a) (hb : Fit2 b) : Cm (fun k => spec_l6Each.f k a b) (each a b) := by
  unfold spec_l6Each.f
  have := every_cm (L := fun k i => spec_l6Each.l0 k a b (b.length : Int) i) b (fun g => a.any (fun h => hasAll g h)) (fin := true) (no := false) ?_ ?_ ?_
  · exact cm_val this (if_self _)
  · intro pre g t e hlt hp v hv
    have hg := hb.2 g (by rw [← e]; simp)
    have := l6Each_l1 a b ha g hg (pre.length : Int) v (fun _ => by rw [wrap_len hlt hb.1]; exact hv) a [] false rfl rfl
    rw [if_pos hp] at this
    refine cm_step (fun k => by rw [spec_l6Each.l0]) ?_
    simp only [l1_at e]
    repeat (first | assumption | exact cm_now (fun _ => rfl) | refine cm_yes (by first | omega | assumption | (simp; done) | (simp; omega)) ?_ | refine cm_no (by first | omega | assumption | (simp; done) | (simp; omega)) ?_)
  · intro pre g t e hlt hp
    have hg := hb.2 g (by rw [← e]; simp)
    have := l6Each_l1 a b ha g hg (pre.length : Int) false (fun c => by rw [c] at hp; cases hp) a [] false rfl rfl
    rw [hp] at this
    refine cm_step (fun k => by rw [spec_l6Each.l0]) ?_
    simp only [l1_at e]
    repeat (first | assumption | exact cm_now (fun _ => rfl) | refine cm_yes (by first | omega | assumption | (simp; done) | (simp; omega)) ?_ | refine cm_no (by first | omega | assumption | (simp; done) | (simp; omega)) ?_)
  · intro _
    refine cm_step (fun k => by rw [spec_l6Each.l0]) ?_
    repeat (first | assumption | exact cm_now (fun _ => rfl) | refine cm_yes (by first | omega | assumption | (simp; done) | (simp; omega)) ?_ | refine cm_no (by first | omega | assumption | (simp; done) | (simp; omega)) ?_)
theorem anyC2_index (g : List Int) (l : List (List Int)) (hl : l.length ≤ 4611686018427387904) (p : (List Int) → Bool) (hc : ∀ h ∈ l, Cm (fun k => impl_allCover_1_1.f k h g) (p h)) :
    Cm (fun k => slices_IndexFunc_int_int_of_impl_allCover_1_1.f k l g) (foundAt p (fun i _ => (i : Int)) (-1) 0 l) := by
  unfold slices_IndexFunc_int_int_of_impl_allCover_1_1.f
  refine find_cm (L := fun k i => slices_IndexFunc_int_int_of_impl_allCover_1_1.l0 k l (l.length : Int) i g) l p (fun i _ => (i : Int)) (none_ := (-1 : Int)) ?_ ?_ ?_
  · intro pre h t e hlt hp v hv
    refine cm_step (fun k => by rw [slices_IndexFunc_int_int_of_impl_allCover_1_1.l0]) ?_
    simp only [l1_at e, wrap_len hlt hl]
    refine cm_yes (by omega) (cm_yes (by omega) (cm_yes (by omega) (cm_bind (hc h (by rw [← e]; simp)) ?_)))
    exact cm_no (by simpa using hp) hv
  · intro pre h t e hlt hp
    refine cm_step (fun k => by rw [slices_IndexFunc_int_int_of_impl_allCover_1_1.l0]) ?_
    simp only [l1_at e, wrap_len hlt hl]
    refine cm_yes (by omega) (cm_yes (by omega) (cm_yes (by omega) (cm_bind (hc h (by rw [← e]; simp)) ?_)))
    exact cm_yes hp (cm_now fun _ => rfl)
  · refine cm_step (fun k => by rw [slices_IndexFunc_int_int_of_impl_allCover_1_1.l0]) ?_
    exact cm_no (by omega) (cm_now fun _ => rfl)
theorem anyC2 (g : List Int) (l : List (List Int)) (hl : l.length ≤ 4611686018427387904) (p : (List Int) → Bool) (hc : ∀ h ∈ l, Cm (fun k => impl_allCover_1_1.f k h g) (p h)) : Cm (fun k => slices_ContainsFunc_int_int_of_impl_allCover_1_1.f k l g) (l.any p) := by
  unfold slices_ContainsFunc_int_int_of_impl_allCover_1_1.f
  refine cm_bind (anyC2_index g l hl p hc) (cm_now fun _ => ?_)
  rw [found_any]
theorem anyC1_index (a : List (List Int)) (l : List (List Int)) (hl : l.length ≤ 4611686018427387904) (p : (List Int) → Bool) (hc : ∀ h ∈ l, Cm (fun k => impl_allCover_1.f k h a) (p h)) :
    Cm (fun k => slices_IndexFunc_int_int_of_impl_allCover_1.f k l a) (foundAt p (fun i _ => (i : Int)) (-1) 0 l) := by
  unfold slices_IndexFunc_int_int_of_impl_allCover_1.f
  refine find_cm (L := fun k i => slices_IndexFunc_int_int_of_impl_allCover_1.l0 k l (l.length : Int) i a) l p (fun i _ => (i : Int)) (none_ := (-1 : Int)) ?_ ?_ ?_
  · intro pre h t e hlt hp v hv
    refine cm_step (fun k => by rw [slices_IndexFunc_int_int_of_impl_allCover_1.l0]) ?_
    simp only [l1_at e, wrap_len hlt hl]
    refine cm_yes (by omega) (cm_yes (by omega) (cm_yes (by omega) (cm_bind (hc h (by rw [← e]; simp)) ?_)))
    exact cm_no (by simpa using hp) hv
  · intro pre h t e hlt hp
    refine cm_step (fun k => by rw [slices_IndexFunc_int_int_of_impl_allCover_1.l0]) ?_
    simp only [l1_at e, wrap_len hlt hl]
    refine cm_yes (by omega) (cm_yes (by omega) (cm_yes (by omega) (cm_bind (hc h (by rw [← e]; simp)) ?_)))
    exact cm_yes hp (cm_now fun _ => rfl)
  · refine cm_step (fun k => by rw [slices_IndexFunc_int_int_of_impl_allCover_1.l0]) ?_
    exact cm_no (by omega) (cm_now fun _ => rfl)
theorem anyC1 (a : List (List Int)) (l : List (List Int)) (hl : l.length ≤ 4611686018427387904) (p : (List Int) → Bool) (hc : ∀ h ∈ l, Cm (fun k => impl_allCover_1.f k h a) (p h)) : Cm (fun k => slices_ContainsFunc_int_int_of_impl_allCover_1.f k l a) (l.any p) := by
  unfold slices_ContainsFunc_int_int_of_impl_allCover_1.f
  refine cm_bind (anyC1_index a l hl p hc) (cm_now fun _ => ?_)
  rw [found_any]
theorem allCover_f (b a : List (List Int)) (ha : Fit2 a) (hb : Fit2 b) : Cm (fun k => impl_allCover.f k b a) (each a b) := by
  unfold impl_allCover.f
  refine cm_bind (anyC1 a b hb.1 (fun g => !a.any (fun h => hasAll g h)) (fun g hg => ?_)) (cm_now fun _ => ?_)
  · have hg2 := hb.2 g hg
    unfold impl_allCover_1.f
    refine cm_bind (anyC2 g a ha.1 (fun h => hasAll g h) (fun h hh => ?_)) (cm_now fun _ => rfl)
    have h3 := ha.2 h hh
    unfold impl_allCover_1_1.f
    refine cm_bind (maskOf_f g hg2) (cm_bind (maskOf_f h h3) (cm_bind (maskOf_f h h3) (cm_now fun _ => ?_)))
    rw [and_i64 _ _ hg2.lt h3.lt]
    have := has_mask g h hg2.pos h3.pos
    by_cases c : hasAll g h = true
    · rw [c]
      rw [this.1 c]; simp
    · have c2 : ¬ maskN g &&& maskN h = maskN h := fun z => c (this.2 z)
      have c3 : hasAll g h = false := by simpa using c
      rw [c3]
      congr 1
      rw [beq_eq_false_iff_ne]
      intro z
      exact c2 (by omega)
  · rw [not_any _ (fun g => a.any (fun h => hasAll g h)) b (fun _ _ => rfl)]
    rfl
theorem groups_fit {many : Int} {l : List (List Int)} (hm : many ≤ 62) (h : groups many l = true) (hs : ∀ g ∈ l, g.length ≤ 4611686018427387904) : Fit2 l := by
  obtain ⟨h1, h2⟩ := groups_iff.1 h
  refine ⟨by omega, fun g hg => ⟨hs g hg, fun x hx => ?_⟩⟩
  have := members_in (h1 g hg).2 x hx
  omega
def Len2 (l : List (List Int)) : Prop := l.length ≤ 4611686018427387904 ∧ ∀ g ∈ l, g.length ≤ 4611686018427387904
/-- What Dominates answers. -/
def dominates (a b : List (List Int)) : Bool × Bool := if groups 7 a = true ∧ groups 7 b = true ∧ coterie a = true ∧ coterie b = true then (each a b && !each b a, true) else (false, false)
theorem spec_dominates_f (a b : List (List Int)) (ha : Len2 a) (hb : Len2 b) : Cm (fun k => spec_Dominates.f k a b) (dominates a b) := by
  unfold spec_Dominates.f dominates
  have hj : Cm (fun k => spec_Dominates.j0 k a b true) (false, false) := by
    refine cm_step (fun k => by rw [spec_Dominates.j0]) ?_
    repeat (first | assumption | exact cm_now (fun _ => rfl) | refine cm_yes (by first | omega | assumption | (simp; done) | (simp; omega)) ?_ | refine cm_no (by first | omega | assumption | (simp; done) | (simp; omega)) ?_)
  refine cm_bind (groups_f a 7 ha.1 ha.2) (cm_if (fun c1 => cm_bind (groups_f b 7 hb.1 hb.2) (cm_if (fun c2 => ?_) (fun c2 => ?_))) (fun c1 => ?_))
  · have fa := groups_fit (by omega) c1 ha.2
    have fb := groups_fit (by omega) c2 hb.2
    refine cm_bind (l6Coterie_f a fa) (cm_if (fun c3 => cm_bind (l6Coterie_f b fb) ?_) (fun c3 => ?_))
    · by_cases c4 : coterie b = true
      · rw [if_pos ⟨c1, c2, c3, c4⟩, c4]
        refine cm_step (fun k => by rw [spec_Dominates.j0]) ?_
        refine cm_no (by simp) (cm_bind (l6Each_f a b fa fb) (cm_if (fun c5 => cm_bind (l6Each_f b a fb fa) (cm_now fun _ => ?_)) (fun c5 => cm_now fun _ => ?_)))
        · rw [c5]; rfl
        · have : each a b = false := by simpa using c5
          rw [this]; rfl
      · rw [if_neg (fun z => c4 z.2.2.2)]
        have : coterie b = false := by simpa using c4
        rw [this]
        exact hj
    · rw [if_neg (fun z => c3 z.2.2.1)]
      exact hj
  · rw [if_neg (fun z => c2 z.2.1)]
    exact hj
  · rw [if_neg (fun z => c1 z.1)]
    exact hj
theorem impl_dominates_f (a b : List (List Int)) (ha : Len2 a) (hb : Len2 b) : Cm (fun k => impl_Dominates.f k a b) (dominates a b) := by
  unfold impl_Dominates.f dominates
  have hj : Cm (fun k => impl_Dominates.j0 k a b true) (false, false) := by
    refine cm_step (fun k => by rw [impl_Dominates.j0]) ?_
    repeat (first | assumption | exact cm_now (fun _ => rfl) | refine cm_yes (by first | omega | assumption | (simp; done) | (simp; omega)) ?_ | refine cm_no (by first | omega | assumption | (simp; done) | (simp; omega)) ?_)
  refine cm_bind (areGroups_f a 7 ha.1 ha.2 (by omega)) (cm_if (fun c1 => cm_bind (areGroups_f b 7 hb.1 hb.2 (by omega)) (cm_if (fun c2 => ?_) (fun c2 => ?_))) (fun c1 => ?_))
  · have fa := groups_fit (by omega) c1 ha.2
    have fb := groups_fit (by omega) c2 hb.2
    refine cm_bind (isCoterie_f a fa) (cm_if (fun c3 => cm_bind (isCoterie_f b fb) ?_) (fun c3 => ?_))
    · by_cases c4 : coterie b = true
      · rw [if_pos ⟨c1, c2, c3, c4⟩, c4]
        refine cm_step (fun k => by rw [impl_Dominates.j0]) ?_
        refine cm_no (by simp) (cm_bind (allCover_f b a fa fb) (cm_if (fun c5 => cm_bind (allCover_f a b fb fa) (cm_now fun _ => ?_)) (fun c5 => cm_now fun _ => ?_)))
        · rw [c5]; rfl
        · have : each a b = false := by simpa using c5
          rw [this]; rfl
      · rw [if_neg (fun z => c4 z.2.2.2)]
        have : coterie b = false := by simpa using c4
        rw [this]
        exact hj
    · rw [if_neg (fun z => c3 z.2.2.1)]
      exact hj
  · rw [if_neg (fun z => c2 z.2.1)]
    exact hj
  · rw [if_neg (fun z => c1 z.1)]
    exact hj
end Go.Proofs.Ytjngkfepppejeaa.Qs
