/- GoodEvents answers as the reference does (events of so many processes, each message sent once and taken once behind that, by another process), and writes into no argument. For every argument. -/
import Derived.Test.YtinbfclfglogmaaPx26
import Derived.Test.YtinbfclfglogmaaPxok
import Derived.Test.YtinbfclfglogmaaHg
import Derived.Test.YtinbfclfglogmaaEvents
namespace Go.Proofs.Ytinbfclfglogmaa.Pure
open Go.RowKit Go.Proofs.Ytinbfclfglogmaa.P Go.Proofs.YtinbfclfglogmaaW.PrintWords Go.Proofs.YtinbfclfglogmaaW.PrintLast Go.Proofs.YtinbfclfglogmaaW.PrintMore
open Go.Proofs.Ytinbfclfglogmaa.Pl Go.Proofs.Ytinbfclfglogmaa.EvN Go.Proofs.Ytinbfclfglogmaa.Lp Go.Proofs.Ytinbfclfglogmaa.Hs Go.Proofs.Ytinbfclfglogmaa.Hg Go.Proofs.Ytinbfclfglogmaa.Events
set_option linter.unusedVariables false
theorem FnExactGoodEvents : laws_FnExactGoodEvents.Pure := by
  intro a0 l1 h0 h1
  obtain ⟨v, hspec, himpl, hsm⟩ := goodEvents_both a0 l1 h0 h1
  refine cm_ex (v := true) ?_
  unfold laws_FnExactGoodEvents.f
  obtain ⟨z0, wz0⟩ := szEventS_ex l1 h1 1048576
  refine cm_bind wz0 ?_
  refine cm_if (fun _ => cm_now fun _ => rfl) (fun _ => ?_)
  refine cm_bind (toEventS_f _ h1) ?_
  refine cm_bind hspec ?_
  refine cm_bind (toEventS_f _ h1) ?_
  refine cm_bind himpl ?_
  refine cm_no (by first | rfl | omega | (simp; done) | (simp; omega) | (dsimp only; omega)) ?_
  refine cm_bind (toEventS_f _ h1) ?_
  refine cm_bind (eqEventS_same (l1.map cEvent) (smS_cEvent l1 h1)) ?_
  refine cm_yes (by first | rfl | omega | (simp; done) | (simp; omega) | (dsimp only; omega)) ?_
  exact cm_now fun _ => rfl
end Go.Proofs.Ytinbfclfglogmaa.Pure
