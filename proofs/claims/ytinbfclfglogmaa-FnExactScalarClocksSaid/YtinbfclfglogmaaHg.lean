/- Hg: the laws' own helpers for structs: a copy holds what the thing holds, a thing equals itself, its size is something. -/
import Derived.Test.YtinbfclfglogmaaPx5
import Derived.Test.YtinbfclfglogmaaPx17
import Derived.Test.YtinbfclfglogmaaHs
import Derived.Test.YtinbfclfglogmaaPxok
namespace Go.Proofs.Ytinbfclfglogmaa.Hg
open Go.RowKit Go.Proofs.Ytinbfclfglogmaa.P Go.Proofs.YtinbfclfglogmaaW.PrintWords Go.Proofs.YtinbfclfglogmaaW.PrintLast Go.Proofs.YtinbfclfglogmaaW.PrintMore
open Go.Proofs.Ytinbfclfglogmaa.Pl Go.Proofs.Ytinbfclfglogmaa.EvN Go.Proofs.Ytinbfclfglogmaa.Lp Go.Proofs.Ytinbfclfglogmaa.Hs
set_option linter.unusedSimpArgs false
set_option linter.unusedVariables false

theorem rdT69_at {pre t l : List S69} {h : S69} (e : pre ++ h :: t = l) : rd_T69 l (pre.length : Int) = h := getD_at e _
theorem rdT65_at {pre t l : List S65} {h : S65} (e : pre ++ h :: t = l) : rd_T65 l (pre.length : Int) = h := getD_at e _
def cEvent (x : S69) : S65 := ⟨x.f0, x.f1, x.f2⟩
def smEvent (x : S65) : Prop := (True) ∧ (True) ∧ (True)
theorem sm_cEvent (x : S69) (h : ok69 x) : smEvent (cEvent x) := by
  obtain ⟨h0, h1, h2⟩ := h
  exact ⟨trivial, trivial, trivial⟩
theorem smS_cEvent (l : List S69) (h : l.length ≤ maxLen ∧ l.length * 24 ≤ 140737488351232 ∧ ∀ x_ ∈ l, ok69 x_) : (l.map cEvent).length ≤ 4611686018427387904 ∧ ∀ y ∈ l.map cEvent, smEvent y :=
  ⟨by have := h.2.1; simp only [List.length_map]; omega, fun y hy => by obtain ⟨z, hz, rfl⟩ := List.mem_map.1 hy; exact sm_cEvent z (h.2.2 z hz)⟩
theorem toEvent_f (x : S69) (h : ok69 x) : Cm (fun k => laws_toEvent.f x.f0 x.f1 x.f2) ((cEvent x).f0, (cEvent x).f1, (cEvent x).f2) := by
  obtain ⟨h0, h1, h2⟩ := h
  unfold laws_toEvent.f
  exact cm_now fun _ => rfl
theorem toEventS_f (l : List S69) (h : l.length ≤ maxLen ∧ l.length * 24 ≤ 140737488351232 ∧ ∀ x_ ∈ l, ok69 x_) : Cm (fun k => laws_toEventS.f k l) (l.map cEvent) := by
  have hl := h.2.1
  unfold laws_toEventS.f
  refine cm_yes (by omega) (cm_yes (by omega) ?_)
  rw [Int.toNat_natCast]
  refine map_cm (L := fun k i s => laws_toEventS.l0 k l s i) l cEvent z65 ?_ ?_
  · intro pre x t acc e hlt ha u hu
    have hx := h.2.2 x (by rw [← e]; simp)
    refine cm_step (fun k => by rw [laws_toEventS.l0]) ?_
    simp only [rdT69_at e, wrap_len hlt (show l.length ≤ 4611686018427387904 by omega), Int.toNat_natCast]
    refine cm_yes (by omega) (cm_yes (by omega) (cm_bind (toEvent_f x hx) (cm_yes (by omega) ?_)))
    exact hu
  · intro acc ha
    refine cm_step (fun k => by rw [laws_toEventS.l0]) ?_
    exact cm_no (by omega) (cm_now fun _ => rfl)
theorem eqEvent_same (x : S65) (h : smEvent x) : Cm (fun k => laws_eqEvent.f x.f0 x.f1 x.f2 x.f0 x.f1 x.f2) true := by
  obtain ⟨h0, h1, h2⟩ := h
  unfold laws_eqEvent.f
  exact cm_yes rfl (cm_yes rfl (cm_yes rfl (cm_now fun _ => rfl)))
theorem eqEventS_same (l : List S65) (h : l.length ≤ 4611686018427387904 ∧ ∀ y ∈ l, smEvent y) : Cm (fun k => laws_eqEventS.f k l l) true := by
  unfold laws_eqEventS.f
  refine cm_yes rfl ?_
  refine same_cm (L := fun k i => laws_eqEventS.l0 k l l i) l ?_ ?_
  · intro pre x t e hlt v hv
    have hx := h.2 x (by rw [← e]; simp)
    refine cm_step (fun k => by rw [laws_eqEventS.l0]) ?_
    simp only [rdT65_at e, wrap_len hlt h.1]
    exact cm_yes (by omega) (cm_yes (by omega) (cm_yes (by omega) (cm_bind (eqEvent_same x hx) (cm_yes rfl hv))))
  · refine cm_step (fun k => by rw [laws_eqEventS.l0]) ?_
    exact cm_no (by omega) (cm_now fun _ => rfl)
theorem szEventS_ex (l : List S69) (h : l.length ≤ maxLen ∧ l.length * 24 ≤ 140737488351232 ∧ ∀ x_ ∈ l, ok69 x_) (m : Int) : ∃ v, Cm (fun k => laws_szEventS.f l m) v := by
  have hl := h.2.1
  unfold laws_szEventS.f
  by_cases c : wrap64 (m - (l.length : Int)) < 0
  · exact ⟨_, cm_yes c (cm_now fun _ => rfl)⟩
  · exact ⟨_, cm_no c (cm_now fun _ => rfl)⟩
def mkEvent (m : Int) : S65 := ⟨m, m + 1, m + 2⟩
def mksEvent : Nat → Int → List S65
  | 0, _ => []
  | n + 1, m => mkEvent m :: mksEvent n (m + 3)
theorem mksEvent_length : ∀ (n : Nat) (m : Int), (mksEvent n m).length = n
  | 0, _ => rfl
  | n + 1, m => by simp [mksEvent, mksEvent_length n]
theorem markEventS_f (l : List S65) (m : Int) (hl : l.length ≤ 281474976710656) (h0 : 0 ≤ m) (hm : m ≤ 4503599627370496) : Cm (fun k => laws_markEventS.f k l m) (m + 3 * (l.length : Int), mksEvent l.length m) := by
  unfold laws_markEventS.f
  have key : ∀ (rest pre : List S65) (m : Int), pre.length + rest.length = l.length → 0 ≤ m → m + 3 * (rest.length : Int) ≤ 4611686018427387904 → Cm (fun k => laws_markEventS.l0 k (pre ++ rest) m (pre.length : Int)) (m + 3 * (rest.length : Int), pre ++ mksEvent rest.length m) := by
    intro rest
    induction rest with
    | nil =>
      intro pre m e h0 hm
      refine cm_step (fun k => by rw [laws_markEventS.l0]) ?_
      exact cm_no (by simp) (cm_now fun _ => by simp [mksEvent])
    | cons y t ih =>
      intro pre m e h0 hm
      simp only [List.length_cons] at e hm
      have hn := ih (pre ++ [mkEvent m]) (m + 3) (by simp; omega) (by omega) (by push_cast at hm ⊢; omega)
      rw [len_one] at hn
      have w1 : wrap64 (m + 1) = m + 1 := wrap_in (by omega) (by push_cast at hm; omega)
      have w2 : wrap64 (m + 2) = m + 2 := wrap_in (by omega) (by push_cast at hm; omega)
      have w3 : wrap64 (m + 3) = m + 3 := wrap_in (by omega) (by push_cast at hm; omega)
      have x2 : wrap64 (m + 1 + 1) = m + 2 := by rw [show m + 1 + 1 = m + 2 by omega, w2]
      have x3 : wrap64 (m + 2 + 1) = m + 3 := by rw [show m + 2 + 1 = m + 3 by omega, w3]
      refine cm_step (fun k => by rw [laws_markEventS.l0]) ?_
      simp only [rd_T65, Int.toNat_natCast, w1, x2, x3]
      refine cm_yes (by simp; omega) (cm_yes (by omega) ?_)
      refine cm_bind (cm_now fun _ => rfl) (cm_bind (cm_now fun _ => rfl) (?_))
      rw [wrap_len (n := pre.length) (m := l.length) (by omega) (by omega)]
      refine cm_val (cm_same (fun k => ?_) hn) ?_
      · congr 1
        all_goals simp [mkEvent, List.getD_eq_getElem?_getD]
      · simp only [mksEvent, List.append_assoc, List.cons_append, List.nil_append, List.length_cons, Prod.mk.injEq, and_true]
        push_cast
        omega
  have := key l [] m (by simp) h0 (by omega)
  simpa using this
end Go.Proofs.Ytinbfclfglogmaa.Hg
