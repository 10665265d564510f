/- Events: which events are good ones: what both programs come to. -/
import Derived.Test.YtinbfclfglogmaaPx2
import Derived.Test.YtinbfclfglogmaaPx14
import Derived.Test.YtinbfclfglogmaaXm
import Derived.Test.YtinbfclfglogmaaMem0
import Derived.Test.YtinbfclfglogmaaHg
namespace Go.Proofs.Ytinbfclfglogmaa.Events
open Go.RowKit Go.Proofs.Ytinbfclfglogmaa.P Go.Proofs.YtinbfclfglogmaaW.PrintWords Go.Proofs.YtinbfclfglogmaaW.PrintLast Go.Proofs.YtinbfclfglogmaaW.PrintMore
open Go.Proofs.Ytinbfclfglogmaa.Pl Go.Proofs.Ytinbfclfglogmaa.EvN Go.Proofs.Ytinbfclfglogmaa.Lp Go.Proofs.Ytinbfclfglogmaa.Mem Go.Proofs.Ytinbfclfglogmaa.Xm Go.Proofs.Ytinbfclfglogmaa.Hg
set_option linter.unusedSimpArgs false
set_option linter.unusedVariables false

def sends (l : List S65) : List (Int × Int) := (l.filter (fun x => x.f1 == 2)).map (fun x => (x.f2, x.f0))
def takes (l : List S65) : List Int := (l.filter (fun x => x.f1 == 3)).map (fun x => x.f2)
/-- An event behind others is good. -/
def good1 (procs : Int) (pre : List S65) (h : S65) : Bool :=
  decide (0 ≤ h.f0 ∧ h.f0 ≤ procs - 1) && (if h.f1 = 1 then h.f2 == 0 else if h.f1 = 2 then decide (1 ≤ h.f2 ∧ h.f2 ≤ 24) && !anyS (sends pre) h.f2 else if h.f1 = 3 then anyS (sends pre) h.f2 && (lastS (sends pre) h.f2 != h.f0) && !decide (h.f2 ∈ takes pre) else false)
def good (procs : Int) (l : List S65) : Bool := okFrom (good1 procs) [] l && decide ((1 ≤ procs ∧ procs ≤ 5) ∧ l.length ≤ 24)
theorem good_iff {procs : Int} {l : List S65} : good procs l = true ↔ okFrom (good1 procs) [] l = true ∧ (1 ≤ procs ∧ procs ≤ 5) ∧ l.length ≤ 24 := by
  simp [good]
theorem sends_snoc (l : List S65) (x : S65) : sends (l ++ [x]) = sends l ++ (if x.f1 = 2 then [(x.f2, x.f0)] else []) := by
  unfold sends
  rw [List.filter_append, List.map_append]
  by_cases c : x.f1 = 2 <;> simp [c]
theorem takes_snoc (l : List S65) (x : S65) : takes (l ++ [x]) = takes l ++ (if x.f1 = 3 then [x.f2] else []) := by
  unfold takes
  rw [List.filter_append, List.map_append]
  by_cases c : x.f1 = 3 <;> simp [c]
theorem go_f (procs : Int) (hp : 1 ≤ procs ∧ procs ≤ 5) : ∀ (rest pre : List S65), (∀ x ∈ rest, (Lit.int .i64 x.f0).wf = true ∧ (Lit.int .i64 x.f2).wf = true) →
    impl_areEvents.go procs (sends pre) (takes pre) rest = some (okFrom (good1 procs) pre rest)
  | [], pre, _ => rfl
  | h :: t, pre, hw => by
    have hw0 := hw h (by simp)
    have ih := go_f procs hp t (pre ++ [h]) (fun x hx => hw x (by simp [hx]))
    rw [impl_areEvents.go, if_pos hw0.2, if_pos hw0.1, in_f, wrap_in (by omega) (by omega)]
    simp only [Option.bind_some, okFrom]
    by_cases c1 : h.f1 = 1
    · rw [if_pos c1]
      have e1 : good1 procs pre h = (decide (0 ≤ h.f0 ∧ h.f0 ≤ procs - 1) && h.f2 == 0) := by unfold good1; rw [if_pos c1]
      have e2 : sends (pre ++ [h]) = sends pre := by rw [sends_snoc, if_neg (by omega), List.append_nil]
      have e3 : takes (pre ++ [h]) = takes pre := by rw [takes_snoc, if_neg (by omega), List.append_nil]
      rw [e2, e3] at ih
      rw [e1]
      by_cases c : (decide (0 ≤ h.f0 ∧ h.f0 ≤ procs - 1) && h.f2 == 0) = true
      · rw [if_pos c, ih, c, Bool.true_and]
      · rw [if_neg c]
        have c' : (decide (0 ≤ h.f0 ∧ h.f0 ≤ procs - 1) && h.f2 == 0) = false := by simpa using c
        rw [c', Bool.false_and]
    · rw [if_neg c1]
      by_cases c2 : h.f1 = 2
      · rw [if_pos c2, in_f]
        simp only [Option.bind_some]
        have e1 : good1 procs pre h = (decide (0 ≤ h.f0 ∧ h.f0 ≤ procs - 1) && decide (1 ≤ h.f2 ∧ h.f2 ≤ 24) && !anyS (sends pre) h.f2) := by unfold good1; rw [if_neg c1, if_pos c2, Bool.and_assoc]
        have e2 : sends (pre ++ [h]) = sends pre ++ [(h.f2, h.f0)] := by rw [sends_snoc, if_pos c2]
        have e3 : takes (pre ++ [h]) = takes pre := by rw [takes_snoc, if_neg (by omega), List.append_nil]
        rw [e2, e3] at ih
        rw [e1]
        by_cases c : (decide (0 ≤ h.f0 ∧ h.f0 ≤ procs - 1) && decide (1 ≤ h.f2 ∧ h.f2 ≤ 24) && !anyS (sends pre) h.f2) = true
        · rw [if_pos c, ih, c, Bool.true_and]
        · rw [if_neg c]
          have c' : (decide (0 ≤ h.f0 ∧ h.f0 ≤ procs - 1) && decide (1 ≤ h.f2 ∧ h.f2 ≤ 24) && !anyS (sends pre) h.f2) = false := by simpa using c
          rw [c', Bool.false_and]
      · rw [if_neg c2]
        by_cases c3 : h.f1 = 3
        · rw [if_pos c3]
          have e1 : good1 procs pre h = (decide (0 ≤ h.f0 ∧ h.f0 ≤ procs - 1) && anyS (sends pre) h.f2 && (lastS (sends pre) h.f2 != h.f0) && !decide (h.f2 ∈ takes pre)) := by unfold good1; rw [if_neg c1, if_neg c2, if_pos c3]; simp only [Bool.and_assoc]
          have e2 : sends (pre ++ [h]) = sends pre := by rw [sends_snoc, if_neg (by omega), List.append_nil]
          have e3 : takes (pre ++ [h]) = takes pre ++ [h.f2] := by rw [takes_snoc, if_pos c3]
          rw [e2, e3] at ih
          rw [e1]
          by_cases c : (decide (0 ≤ h.f0 ∧ h.f0 ≤ procs - 1) && anyS (sends pre) h.f2 && (lastS (sends pre) h.f2 != h.f0) && !decide (h.f2 ∈ takes pre)) = true
          · rw [if_pos c, ih, c, Bool.true_and]
          · rw [if_neg c]
            have c' : (decide (0 ≤ h.f0 ∧ h.f0 ≤ procs - 1) && anyS (sends pre) h.f2 && (lastS (sends pre) h.f2 != h.f0) && !decide (h.f2 ∈ takes pre)) = false := by simpa using c
            rw [c', Bool.false_and]
        · rw [if_neg c3]
          have e1 : good1 procs pre h = false := by unfold good1; rw [if_neg c1, if_neg c2, if_neg c3, Bool.and_false]
          rw [e1, Bool.false_and]
def Wf (l : List S65) : Prop := ∀ x ∈ l, (Lit.int .i64 x.f0).wf = true ∧ (Lit.int .i64 x.f2).wf = true
theorem areEvents_f (procs : Int) (l : List S65) (hw : Wf l) : impl_areEvents.f procs l = some (good procs l) := by
  unfold impl_areEvents.f
  rw [in_f]
  simp only [Option.bind_some]
  by_cases hp : 1 ≤ procs ∧ procs ≤ 5
  · rw [if_pos (by simpa using hp)]
    by_cases hl : l.length ≤ 24
    · rw [if_neg (by omega)]
      have := go_f procs hp l [] hw
      simp only [sends, takes, List.filter_nil, List.map_nil] at this
      rw [this]
      simp [good, hp, hl]
    · rw [if_pos (by omega)]
      simp [good, hl]
  · rw [if_neg (by simpa using hp)]
    simp [good, hp]
theorem implGood_f (procs : Int) (l : List S65) (hw : Wf l) : impl_GoodEvents.f procs l = some (good procs l) := by
  unfold impl_GoodEvents.f
  rw [areEvents_f procs l hw]
  rfl
def isSend (m : Int) (x : S65) : Bool := x.f1 == 2 && x.f2 == m
/-- Where a message was sent, -1 for nowhere. -/
def sendIdx (l : List S65) (m : Int) : Int := foundAt (isSend m) (fun i _ => (i : Int)) (-1) 0 l
theorem anyS_sends (l : List S65) (m : Int) : anyS (sends l) m = l.any (isSend m) := by
  induction l with
  | nil => rfl
  | cons x t ih =>
    have e : anyS (sends (x :: t)) m = (isSend m x || anyS (sends t) m) := by
      unfold sends isSend anyS
      by_cases c : x.f1 = 2
      · by_cases c2 : x.f2 = m <;> simp [c, c2]
      · simp [c]
    rw [e, ih, List.any_cons]
theorem lastS_none (S : List (Int × Int)) (m : Int) : ∀ a : Int, S.any (fun p => decide (p.1 = m)) = false → S.foldl (fun a p => if p.1 = m then p.2 else a) a = a := by
  induction S with
  | nil => intro a _; rfl
  | cons p S ih =>
    intro a h
    simp only [List.any_cons, Bool.or_eq_false_iff, decide_eq_false_iff_not] at h
    rw [List.foldl_cons, if_neg h.1]
    exact ih a h.2
/-- The one event that sent a message, where each was sent once. -/
theorem lastS_sends (a : List S65) (x : S65) (b : List S65) (m : Int) (hx : isSend m x = true) (hb : ∀ y ∈ b, isSend m y = false) : lastS (sends (a ++ x :: b)) m = x.f0 := by
  have e : sends (a ++ x :: b) = sends a ++ (x.f2, x.f0) :: sends b := by
    unfold sends
    simp only [isSend, Bool.and_eq_true, beq_iff_eq] at hx
    rw [List.filter_append, List.map_append, List.filter_cons, if_pos (by simp [hx.1])]
    rfl
  simp only [isSend, Bool.and_eq_true, beq_iff_eq] at hx
  unfold lastS
  rw [e, List.foldl_append, List.foldl_cons, if_pos hx.2]
  refine lastS_none (sends b) m _ ?_
  have := anyS_sends b m
  unfold anyS at this
  rw [this]
  simpa using hb
/-- In good events each message was sent once. -/
theorem send_once {procs : Int} {l : List S65} (hg : okFrom (good1 procs) [] l = true) {a b : List S65} {x y : S65} {m : Int} (e : a ++ x :: b = l) (hx : isSend m x = true) (hy : y ∈ b) : isSend m y = false := by
  obtain ⟨b1, b2, rfl⟩ := List.append_of_mem hy
  have h1 := (okFrom_iff (good1 procs) l []).1 hg (a ++ x :: b1) y b2 (by rw [← e]; simp)
  rw [List.nil_append] at h1
  by_cases c : isSend m y = true
  · exfalso
    have cy := c
    simp only [isSend, Bool.and_eq_true, beq_iff_eq] at cy
    unfold good1 at h1
    rw [if_neg (by omega), if_pos cy.1, anyS_sends, cy.2] at h1
    have h2 : (a ++ x :: b1).any (isSend m) = true := by simp [hx]
    rw [h2] at h1
    simp at h1
  · simpa using c
theorem send_f (l : List S65) (m : Int) (i : Nat) (hi : i ≤ l.length) (hl : l.length ≤ 4611686018427387904) : Cm (fun k => spec_l7Send.f k l m (i : Int)) (sendIdx (l.take i) m) := by
  unfold spec_l7Send.f sendIdx
  have hl2 : (l.take i).length ≤ 4611686018427387904 := by rw [List.length_take]; omega
  refine cm_yes (by omega) (cm_yes (by omega) (cm_bind (t := l.take i) (cm_now fun _ => by simp) ?_))
  refine find_cm (L := fun k j => spec_l7Send.l0 k m (l.take i) ((l.take i).length : Int) j) (l.take i) (isSend m) (fun i _ => (i : Int)) (none_ := (-1 : Int)) ?_ ?_ ?_
  · intro pre h t e hlt hp v hv
    simp only [isSend, Bool.and_eq_false_iff, beq_eq_false_iff_ne, ne_eq] at hp
    refine cm_step (fun k => by rw [spec_l7Send.l0]) ?_
    simp only [rdT65_at e, wrap_len hlt hl2]
    refine cm_yes (by omega) (cm_yes (by omega) (cm_yes (by omega) (cm_if (fun c => cm_no ?_ hv) (fun _ => hv))))
    intro c2
    rcases hp with hp | hp
    · exact hp c
    · exact hp c2
  · intro pre h t e hlt hp
    simp only [isSend, Bool.and_eq_true, beq_iff_eq] at hp
    refine cm_step (fun k => by rw [spec_l7Send.l0]) ?_
    simp only [rdT65_at e, wrap_len hlt hl2]
    exact cm_yes (by omega) (cm_yes (by omega) (cm_yes (by omega) (cm_yes hp.1 (cm_yes hp.2 (cm_now fun _ => rfl)))))
  · refine cm_step (fun k => by rw [spec_l7Send.l0]) ?_
    repeat (first | assumption | exact cm_now (fun _ => rfl) | refine cm_yes (by first | omega | assumption | (simp; done) | (simp; omega)) ?_ | refine cm_no (by first | omega | assumption | (simp; done) | (simp; omega)) ?_)
theorem takes_any (l : List S65) (m : Int) : decide (m ∈ takes l) = l.any (fun x => x.f1 == 3 && x.f2 == m) := by
  unfold takes
  rw [Bool.eq_iff_iff]
  simp only [decide_eq_true_eq, List.mem_map, List.mem_filter, List.any_eq_true, Bool.and_eq_true, beq_iff_eq]
  constructor
  · rintro ⟨x, ⟨h1, h2⟩, h3⟩
    exact ⟨x, h1, h2, h3⟩
  · rintro ⟨x, h1, h2, h3⟩
    exact ⟨x, ⟨h1, h2⟩, h3⟩
theorem spec_l1 (procs : Int) (l : List S65) (hl : l.length ≤ 4611686018427387904) (pre : List S65) (h : S65) (t : List S65) (e : pre ++ h :: t = l) (hk : h.f1 = 3) (v : Bool) (hv : decide (h.f2 ∈ takes pre) = false → Cm (fun k => spec_GoodEvents.l0 k procs l l (l.length : Int) ((pre.length + 1 : Nat) : Int)) v) :
    Cm (fun k => spec_GoodEvents.l1 k procs l l (l.length : Int) (pre.length : Int) pre (pre.length : Int) 0 h.f0 h.f1 h.f2) (if decide (h.f2 ∈ takes pre) = true then false else v) := by
  have hlt := len_mid e
  have h1 := every_cm (L := fun k i => spec_GoodEvents.l1 k procs l l (l.length : Int) (pre.length : Int) pre (pre.length : Int) i h.f0 h.f1 h.f2) pre (fun x => !(x.f1 == 3 && x.f2 == h.f2)) (fin := v) (no := false) ?_ ?_ ?_
  · refine cm_val h1 ?_
    rw [takes_any]
    have := not_any (fun x : S65 => x.f1 == 3 && x.f2 == h.f2) (fun x => !(x.f1 == 3 && x.f2 == h.f2)) pre (fun x _ => by simp)
    rw [← this]
    cases pre.any (fun x : S65 => x.f1 == 3 && x.f2 == h.f2) <;> rfl
  · intro pre2 x t2 e2 hlt2 hp2 u hu
    simp only [Bool.not_eq_true', Bool.and_eq_false_iff, beq_eq_false_iff_ne, ne_eq] at hp2
    refine cm_step (fun k => by rw [spec_GoodEvents.l1]) ?_
    simp only [rdT65_at e2, wrap_len (n := pre2.length) (m := pre.length) hlt2 (by omega)]
    refine cm_yes (by omega) (cm_yes (by omega) (cm_yes (by omega) (cm_no ?_ (cm_if (fun c => cm_no ?_ hu) (fun _ => hu)))))
    · simp only [Bool.and_eq_true, beq_iff_eq]
      rintro ⟨_, z1, z2⟩
      rcases hp2 with hp2 | hp2
      · exact hp2 (z1.trans hk)
      · exact hp2 z2
    · intro c2
      rcases hp2 with hp2 | hp2
      · exact hp2 c
      · exact hp2 c2
  · intro pre2 x t2 e2 hlt2 hp2
    simp only [Bool.not_eq_false', Bool.and_eq_true, beq_iff_eq] at hp2
    refine cm_step (fun k => by rw [spec_GoodEvents.l1]) ?_
    simp only [rdT65_at e2, wrap_len (n := pre2.length) (m := pre.length) hlt2 (by omega)]
    refine cm_yes (by omega) (cm_yes (by omega) (cm_yes (by omega) (cm_if (fun _ => cm_now fun _ => rfl) (fun _ => cm_yes hp2.1 (cm_yes hp2.2 (cm_now fun _ => rfl))))))
  · intro hall
    have h2 := hv (by
      rw [takes_any]
      have := not_any (fun x : S65 => x.f1 == 3 && x.f2 == h.f2) (fun x => !(x.f1 == 3 && x.f2 == h.f2)) pre (fun x _ => by simp)
      rw [hall] at this
      simpa using this)
    refine cm_step (fun k => by rw [spec_GoodEvents.l1]) ?_
    rw [wrap_len hlt hl]
    exact cm_no (by omega) h2
theorem good1_take {procs : Int} {pre : List S65} {h : S65} (hg : okFrom (good1 procs) [] pre = true) (hk : h.f1 = 3) (hr : 0 ≤ h.f0 ∧ h.f0 ≤ procs - 1) :
    (sendIdx pre h.f2 = -1 ∧ good1 procs pre h = false) ∨ ∃ a x b, pre = a ++ x :: b ∧ sendIdx pre h.f2 = (a.length : Int) ∧ good1 procs pre h = ((x.f0 != h.f0) && !decide (h.f2 ∈ takes pre)) := by
  have hr2 : decide (0 ≤ h.f0 ∧ h.f0 ≤ procs - 1) = true := decide_eq_true hr
  rcases foundAt_split (isSend h.f2) pre 0 with ⟨h1, h2⟩ | ⟨a, x, b, e, h1, h2, h3⟩
  · refine .inl ⟨h1, ?_⟩
    unfold good1
    have : pre.any (isSend h.f2) = false := by simpa using h2
    rw [if_neg (by omega), if_neg (by omega), if_pos hk, anyS_sends, this]
    simp
  · refine .inr ⟨a, x, b, e, by unfold sendIdx; rw [h3]; simp, ?_⟩
    have h4 : pre.any (isSend h.f2) = true := by rw [e]; simp [h1]
    have h5 : lastS (sends pre) h.f2 = x.f0 := by rw [e]; exact lastS_sends a x b h.f2 h1 (fun y hy => send_once hg e.symm h1 hy)
    unfold good1
    rw [if_neg (by omega), if_neg (by omega), if_pos hk, anyS_sends, h4, h5, hr2]
    simp
theorem spec_good_f (procs : Int) (l : List S65) (hp : -9223372036854775808 ≤ procs ∧ procs ≤ 9223372036854775807) (hl : l.length ≤ 4611686018427387904) : Cm (fun k => spec_GoodEvents.f k procs l) (good procs l) := by
  unfold spec_GoodEvents.f
  have := allp_cm (L := fun k i => spec_GoodEvents.l0 k procs l l (l.length : Int) i) l (good1 procs) (fin := decide ((1 ≤ procs ∧ procs ≤ 5) ∧ l.length ≤ 24)) (no := false) ?_ ?_ ?_
  · refine cm_val this ?_
    unfold good
    cases okFrom (good1 procs) [] l <;> simp
  · intro pre h t e hlt hg hgood v hv
    have hr : 0 ≤ h.f0 ∧ h.f0 ≤ procs - 1 := by
      unfold good1 at hgood
      simp only [Bool.and_eq_true, decide_eq_true_eq] at hgood
      exact hgood.1
    have htk : l.take pre.length = pre := take_len e
    have hsend := send_f l h.f2 pre.length (by omega) hl
    rw [htk] at hsend
    have hj1 : Cm (fun k => spec_GoodEvents.j1 k procs l (pre.length : Int) l (l.length : Int) (pre.length : Int) false h.f0 h.f1 h.f2) v := by
      refine cm_step (fun k => by rw [spec_GoodEvents.j1]) ?_
      simp only [l1In_f, wrap_len hlt hl]
      refine cm_no (by simp) ?_
      by_cases c1 : h.f1 = 1
      · refine cm_yes c1 (cm_yes ?_ hv)
        unfold good1 at hgood
        rw [if_pos c1] at hgood
        simp only [Bool.and_eq_true, beq_iff_eq] at hgood
        exact hgood.2
      · refine cm_no c1 ?_
        by_cases c2 : h.f1 = 2
        · unfold good1 at hgood
          rw [if_neg c1, if_pos c2, anyS_sends] at hgood
          simp only [Bool.and_eq_true, decide_eq_true_eq, Bool.not_eq_true'] at hgood
          refine cm_yes c2 (cm_bind (cm_now fun _ => rfl) (cm_yes (by simpa using hgood.2.1) (cm_bind hsend (cm_no ?_ hv))))
          have := found_any (isSend h.f2) pre 0
          rw [hgood.2.2] at this
          unfold sendIdx
          simpa using this
        · refine cm_no c2 ?_
          have c3 : h.f1 = 3 := by
            unfold good1 at hgood
            rw [if_neg c1, if_neg c2] at hgood
            by_cases c3 : h.f1 = 3
            · exact c3
            · rw [if_neg c3] at hgood; simp at hgood
          refine cm_yes c3 (cm_bind hsend ?_)
          rcases good1_take hg c3 hr with ⟨_, h1⟩ | ⟨a, x, b, e2, h1, h2⟩
          · rw [h1] at hgood; cases hgood
          · have hrd : rd_T65 l (a.length : Int) = x := rdT65_at (t := b ++ h :: t) (by rw [← e, e2]; simp)
            have hal : a.length < l.length := by rw [← e, e2]; simp <;> omega
            rw [h2] at hgood
            simp only [Bool.and_eq_true, bne_iff_ne, ne_eq, Bool.not_eq_true'] at hgood
            rw [h1, hrd]
            refine cm_no (by omega) (cm_yes (by omega) (cm_yes (by omega) ?_))
            have e3 : (x.f0 == h.f0) = false := by simpa using hgood.1
            rw [e3]
            refine cm_step (fun k => by rw [spec_GoodEvents.j2]) ?_
            rw [Int.toNat_natCast, htk]
            refine cm_no (by simp) (cm_yes (by omega) (cm_yes (by omega) (cm_bind (cm_now fun _ => rfl) ?_)))
            have := spec_l1 procs l hl pre h t e c3 v (fun _ => hv)
            rw [hgood.2] at this
            exact this
    refine cm_step (fun k => by rw [spec_GoodEvents.l0]) ?_
    simp only [rdT65_at e]
    refine cm_yes (by omega) (cm_yes (by omega) (cm_yes (by omega) (cm_no (by omega) ?_)))
    have e4 : decide (h.f0 ≥ procs) = false := decide_eq_false (by omega)
    rw [e4]
    exact hj1
  · intro pre h t e hlt hg hbad
    have htk : l.take pre.length = pre := take_len e
    have hsend := send_f l h.f2 pre.length (by omega) hl
    rw [htk] at hsend
    have hj0 : Cm (fun k => spec_GoodEvents.j1 k procs l (pre.length : Int) l (l.length : Int) (pre.length : Int) true h.f0 h.f1 h.f2) false := by
      refine cm_step (fun k => by rw [spec_GoodEvents.j1]) ?_
      exact cm_yes rfl (cm_now fun _ => rfl)
    refine cm_step (fun k => by rw [spec_GoodEvents.l0]) ?_
    simp only [rdT65_at e]
    refine cm_yes (by omega) (cm_yes (by omega) (cm_yes (by omega) (cm_if (fun _ => hj0) (fun c0 => ?_))))
    by_cases c9 : h.f0 ≥ procs
    · rw [decide_eq_true c9]; exact hj0
    · rw [decide_eq_false c9]
      have hr : 0 ≤ h.f0 ∧ h.f0 ≤ procs - 1 := by omega
      have hr2 : decide (0 ≤ h.f0 ∧ h.f0 ≤ procs - 1) = true := decide_eq_true hr
      refine cm_step (fun k => by rw [spec_GoodEvents.j1]) ?_
      simp only [l1In_f, wrap_len hlt hl]
      refine cm_no (by simp) ?_
      by_cases c1 : h.f1 = 1
      · refine cm_yes c1 (cm_no ?_ (cm_now fun _ => rfl))
        unfold good1 at hbad
        rw [if_pos c1, hr2] at hbad
        simpa using hbad
      · refine cm_no c1 ?_
        by_cases c2 : h.f1 = 2
        · unfold good1 at hbad
          rw [if_neg c1, if_pos c2, anyS_sends, hr2, Bool.true_and] at hbad
          refine cm_yes c2 (cm_bind (cm_now fun _ => rfl) (cm_if (fun c => cm_bind hsend (cm_yes ?_ (cm_now fun _ => rfl))) (fun _ => cm_now fun _ => rfl)))
          rw [c, Bool.true_and] at hbad
          have := found_any (isSend h.f2) pre 0
          have h5 : pre.any (isSend h.f2) = true := by simpa using hbad
          rw [h5] at this
          unfold sendIdx
          simpa using this
        · refine cm_no c2 (cm_if (fun c3 => cm_bind hsend ?_) (fun _ => cm_now fun _ => rfl))
          have hj2 : Cm (fun k => spec_GoodEvents.j2 k procs l (pre.length : Int) l (l.length : Int) (pre.length : Int) true h.f0 h.f1 h.f2) false := by
            refine cm_step (fun k => by rw [spec_GoodEvents.j2]) ?_
            exact cm_yes rfl (cm_now fun _ => rfl)
          rcases good1_take hg c3 hr with ⟨h1, _⟩ | ⟨a, x, b, e2, h1, h2⟩
          · rw [h1]
            exact cm_yes (by omega) hj2
          · have hrd : rd_T65 l (a.length : Int) = x := rdT65_at (t := b ++ h :: t) (by rw [← e, e2]; simp)
            have hal : a.length < l.length := by rw [← e, e2]; simp <;> omega
            rw [h2] at hbad
            rw [h1, hrd]
            refine cm_no (by omega) (cm_yes (by omega) (cm_yes (by omega) ?_))
            by_cases c4 : x.f0 = h.f0
            · have e3 : (x.f0 == h.f0) = true := by simpa using c4
              rw [e3]
              exact hj2
            · have e3 : (x.f0 == h.f0) = false := by simpa using c4
              have e5 : (x.f0 != h.f0) = true := by simpa using c4
              rw [e3]
              rw [e5, Bool.true_and] at hbad
              have hbad2 : decide (h.f2 ∈ takes pre) = true := by simpa using hbad
              refine cm_step (fun k => by rw [spec_GoodEvents.j2]) ?_
              rw [Int.toNat_natCast, htk]
              refine cm_no (by simp) (cm_yes (by omega) (cm_yes (by omega) (cm_bind (cm_now fun _ => rfl) ?_)))
              have := spec_l1 procs l hl pre h t e c3 false (fun z => by rw [hbad2] at z; cases z)
              rw [hbad2] at this
              exact this
  · intro _
    refine cm_step (fun k => by rw [spec_GoodEvents.l0]) ?_
    simp only [l1In_f]
    refine cm_no (by omega) (cm_bind (cm_now fun _ => rfl) (cm_if (fun c => cm_now fun _ => ?_) (fun c => cm_now fun _ => ?_)))
    · simp only [decide_eq_true_eq] at c
      congr 1
      rw [decide_eq_decide]
      omega
    · simp only [decide_eq_true_eq] at c
      congr 1
      symm
      rw [decide_eq_false_iff_not]
      omega
theorem wf_conv {l : List S69} (h : ∀ x_ ∈ l, ok69 x_) : Wf (l.map cEvent) := by
  intro x hx
  obtain ⟨z, hz, rfl⟩ := List.mem_map.1 hx
  have := h z hz
  exact ⟨this.1, this.2.2⟩
theorem goodEvents_both (a0 : Int) (l1 : List S69) (h0 : (Lit.int .i64 a0).wf = true) (h1 : l1.length ≤ maxLen ∧ l1.length * 24 ≤ 140737488351232 ∧ ∀ x_ ∈ l1, ok69 x_) :
    ∃ v, Cm (fun k => spec_GoodEvents.f k a0 (l1.map cEvent)) v ∧ Cm (fun _ => impl_GoodEvents.f a0 (l1.map cEvent)) v ∧ True :=
  ⟨_, spec_good_f a0 _ (wf_i64 h0) (by have := h1.2.1; simp only [List.length_map]; omega), cm_now fun _ => implGood_f a0 _ (wf_conv h1.2.2), trivial⟩
end Go.Proofs.Ytinbfclfglogmaa.Events
