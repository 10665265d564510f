/- Hs: the laws' own helpers, for lists of numbers and lists of such: a copy is the list itself, a list equals itself, its size is something. -/
import Derived.Test.YtinbfclfglogmaaPx6
import Derived.Test.YtinbfclfglogmaaPx9
import Derived.Test.YtinbfclfglogmaaPx19
import Derived.Test.YtinbfclfglogmaaLp
namespace Go.Proofs.Ytinbfclfglogmaa.Hs
open Go.RowKit Go.Proofs.Ytinbfclfglogmaa.P Go.Proofs.YtinbfclfglogmaaW.PrintWords Go.Proofs.YtinbfclfglogmaaW.PrintLast Go.Proofs.YtinbfclfglogmaaW.PrintMore
open Go.Proofs.Ytinbfclfglogmaa.Pl Go.Proofs.Ytinbfclfglogmaa.EvN Go.Proofs.Ytinbfclfglogmaa.Lp
set_option linter.unusedSimpArgs false
set_option linter.unusedVariables false

theorem toIntS_f (l : List Int) (h : l.length * 8 ≤ 140737488351232) : Cm (fun k => laws_toIntS.f k l) l := by
  unfold laws_toIntS.f
  refine cm_yes (by omega) (cm_yes (by omega) ?_)
  have := map_cm (L := fun k i s => laws_toIntS.l0 k l s i) l (fun x => x) 0 ?_ ?_
  · simpa using this
  · intro pre x t acc e hlt ha u hu
    refine cm_step (fun k => by rw [laws_toIntS.l0]) ?_
    simp only [rd_at e, wrap_len hlt (show l.length ≤ 4611686018427387904 by omega), Int.toNat_natCast]
    repeat (first | assumption | exact cm_now (fun _ => rfl) | refine cm_yes (by first | omega | assumption | (simp; done) | (simp; omega)) ?_ | refine cm_no (by first | omega | assumption | (simp; done) | (simp; omega)) ?_)
  · intro acc ha
    refine cm_step (fun k => by rw [laws_toIntS.l0]) ?_
    repeat (first | assumption | exact cm_now (fun _ => rfl) | refine cm_yes (by first | omega | assumption | (simp; done) | (simp; omega)) ?_ | refine cm_no (by first | omega | assumption | (simp; done) | (simp; omega)) ?_)
theorem eqIntS_same (l : List Int) (h : l.length ≤ 4611686018427387904) : Cm (fun k => laws_eqIntS.f k l l) true := by
  unfold laws_eqIntS.f
  refine cm_yes rfl ?_
  refine same_cm (L := fun k i => laws_eqIntS.l0 k l l i) l ?_ ?_
  · intro pre x t e hlt v hv
    refine cm_step (fun k => by rw [laws_eqIntS.l0]) ?_
    simp only [rd_at e, wrap_len hlt h]
    repeat (first | assumption | exact cm_now (fun _ => rfl) | refine cm_yes (by first | omega | assumption | (simp; done) | (simp; omega) | exact rfl) ?_ | refine cm_no (by first | omega | assumption | (simp; done) | (simp; omega) | exact rfl) ?_)
  · refine cm_step (fun k => by rw [laws_eqIntS.l0]) ?_
    repeat (first | assumption | exact cm_now (fun _ => rfl) | refine cm_yes (by first | omega | assumption | (simp; done) | (simp; omega)) ?_ | refine cm_no (by first | omega | assumption | (simp; done) | (simp; omega)) ?_)
theorem markIntS_f (l : List Int) (m : Int) (hl : l.length ≤ 281474976710656) (h0 : 0 ≤ m) (hm : m ≤ 4503599627370496) : Cm (fun k => laws_markIntS.f k l m) (m + (l.length : Int), marks l.length m) := by
  unfold laws_markIntS.f
  have key : ∀ (rest pre : List Int) (m : Int), pre.length + rest.length = l.length → 0 ≤ m → m + (rest.length : Int) ≤ 4611686018427387904 → Cm (fun k => laws_markIntS.l0 k (pre ++ rest) m (pre.length : Int)) (m + (rest.length : Int), pre ++ marks rest.length m) := by
    intro rest
    induction rest with
    | nil =>
      intro pre m e h0 hm
      refine cm_step (fun k => by rw [laws_markIntS.l0]) ?_
      exact cm_no (by simp) (cm_now fun _ => by simp [marks])
    | cons y t ih =>
      intro pre m e h0 hm
      simp only [List.length_cons] at e hm
      have hn := ih (pre ++ [m]) (m + 1) (by simp; omega) (by omega) (by omega)
      rw [len_one] at hn
      refine cm_step (fun k => by rw [laws_markIntS.l0]) ?_
      rw [wrap_in (x := m + 1) (by omega) (by omega), wrap_len (n := pre.length) (m := l.length) (by omega) (by omega), Int.toNat_natCast]
      refine cm_yes (by simp; omega) (cm_yes (by omega) ?_)
      refine cm_val (cm_same (fun k => ?_) hn) ?_
      · simp
      · simp only [marks, List.append_assoc, List.cons_append, List.nil_append, List.length_cons, Prod.mk.injEq, and_true]
        omega
  have := key l [] m (by simp) h0 (by omega)
  simpa using this
theorem heldIntS_f (n : Nat) (m : Int) (hl : n ≤ 281474976710656) (h0 : 0 ≤ m) (hm : m ≤ 4503599627370496) : Cm (fun k => laws_heldIntS.f k (marks n m) m) (m + (n : Int)) := by
  unfold laws_heldIntS.f
  have key : ∀ (d : Nat) (l pre : List Int) (m : Int), pre ++ marks d m = l → pre.length + d = n → 0 ≤ m → m + (d : Int) ≤ 4611686018427387904 → Cm (fun k => laws_heldIntS.l0 k l m (pre.length : Int)) (m + (d : Int)) := by
    intro d
    induction d with
    | zero =>
      intro l pre m e hd h0 hm
      have := len_end e
      refine cm_step (fun k => by rw [laws_heldIntS.l0]) ?_
      exact cm_no (by omega) (cm_now fun _ => by simp)
    | succ d ih =>
      intro l pre m e hd h0 hm
      simp only [marks] at e
      have hlt := len_mid e
      have hn := ih l (pre ++ [m]) (m + 1) (app_mid e) (by simp; omega) (by omega) (by omega)
      rw [len_one] at hn
      refine cm_step (fun k => by rw [laws_heldIntS.l0]) ?_
      simp only [rd_at e]
      rw [wrap_in (x := m + 1) (by omega) (by omega), wrap_len (n := pre.length) (m := n) (by omega) (by omega)]
      exact cm_yes (by omega) (cm_yes (by omega) (cm_yes (by first | rfl | trivial) (cm_val hn (by omega))))
  exact key n _ [] m rfl (by simp) h0 (by omega)
end Go.Proofs.Ytinbfclfglogmaa.Hs
