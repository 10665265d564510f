/- ScalarClocks answers as the reference does (one more than the greatest number right ahead of an event), writes into no argument and keeps nothing of one; its answer owns its memory. For every argument. -/
import Derived.Test.YtinbfclfglogmaaPx29
import Derived.Test.YtinbfclfglogmaaPxok
import Derived.Test.YtinbfclfglogmaaHg
import Derived.Test.YtinbfclfglogmaaCauses
namespace Go.Proofs.Ytinbfclfglogmaa.Pure
open Go.RowKit Go.Proofs.Ytinbfclfglogmaa.P Go.Proofs.YtinbfclfglogmaaW.PrintWords Go.Proofs.YtinbfclfglogmaaW.PrintLast Go.Proofs.YtinbfclfglogmaaW.PrintMore
open Go.Proofs.Ytinbfclfglogmaa.Pl Go.Proofs.Ytinbfclfglogmaa.EvN Go.Proofs.Ytinbfclfglogmaa.Lp Go.Proofs.Ytinbfclfglogmaa.Hs Go.Proofs.Ytinbfclfglogmaa.Hg Go.Proofs.Ytinbfclfglogmaa.Causes
set_option linter.unusedVariables false
theorem FnExactScalarClocks : laws_FnExactScalarClocks.Pure := by
  intro a0 l1 h0 h1
  obtain ⟨v, hspec, himpl, hm, hm2⟩ := scalarClocks_both a0 l1 h0 h1
  refine cm_ex (v := true) ?_
  unfold laws_FnExactScalarClocks.f
  obtain ⟨z0, wz0⟩ := szEventS_ex l1 h1 1048576
  refine cm_bind wz0 ?_
  refine cm_if (fun _ => cm_now fun _ => rfl) (fun _ => ?_)
  refine cm_bind (toEventS_f _ h1) ?_
  refine cm_bind hspec ?_
  refine cm_bind (toEventS_f _ h1) ?_
  refine cm_bind himpl ?_
  refine cm_bind (eqIntS_same _ (by first | assumption | trivial)) ?_
  refine cm_yes (by first | rfl | omega | (simp; done) | (simp; omega) | (dsimp only; omega)) ?_
  refine cm_step (fun k => by rw [laws_FnExactScalarClocks.j0]) ?_
  refine cm_no (by first | rfl | omega | (simp; done) | (simp; omega) | (dsimp only; omega)) ?_
  refine cm_bind (toEventS_f _ h1) ?_
  refine cm_bind (eqEventS_same (l1.map cEvent) (smS_cEvent l1 h1)) ?_
  refine cm_yes (by first | rfl | omega | (simp; done) | (simp; omega) | (dsimp only; omega)) ?_
  refine cm_bind (markEventS_f (l1.map cEvent) _ (by have := h1.2.1; simp only [List.length_map]; omega) (by omega) (by omega)) ?_
  refine cm_no (by first | rfl | omega | (simp; done) | (simp; omega) | (dsimp only; omega)) ?_
  refine cm_bind (eqIntS_same _ (by first | assumption | trivial)) ?_
  refine cm_yes (by first | rfl | omega | (simp; done) | (simp; omega) | (dsimp only; omega)) ?_
  refine cm_step (fun k => by rw [laws_FnExactScalarClocks.j1]) ?_
  refine cm_no (by first | rfl | omega | (simp; done) | (simp; omega) | (dsimp only; omega)) ?_
  refine cm_bind (markIntS_f _ _ (by assumption) (by first | omega | (dsimp only; omega)) (by first | omega | (dsimp only; omega))) ?_
  refine cm_bind (heldIntS_f _ _ (by assumption) (by first | omega | (dsimp only; omega)) (by first | omega | (dsimp only; omega))) ?_
  refine cm_no (by first | rfl | omega | (simp; done) | (simp; omega) | (dsimp only; omega)) ?_
  refine cm_yes (by first | rfl | omega | (simp; done) | (simp; omega) | (dsimp only; omega)) ?_
  refine cm_bind (toEventS_f _ h1) ?_
  refine cm_bind himpl ?_
  refine cm_bind (eqIntS_same _ (by first | assumption | trivial)) ?_
  refine cm_yes (by first | rfl | omega | (simp; done) | (simp; omega) | (dsimp only; omega)) ?_
  refine cm_step (fun k => by rw [laws_FnExactScalarClocks.j2]) ?_
  refine cm_no (by first | rfl | omega | (simp; done) | (simp; omega) | (dsimp only; omega)) ?_
  refine cm_bind (heldIntS_f _ _ (by assumption) (by first | omega | (dsimp only; omega)) (by first | omega | (dsimp only; omega))) ?_
  refine cm_no (by first | rfl | omega | (simp; done) | (simp; omega) | (dsimp only; omega)) ?_
  refine cm_yes (by first | rfl | omega | (simp; done) | (simp; omega) | (dsimp only; omega)) ?_
  exact cm_now fun _ => rfl
end Go.Proofs.Ytinbfclfglogmaa.Pure
