/- UpToDate answers as the reference does (is one log up to date with another, by last term and length), and writes into no argument. For every argument. -/
import Derived.Test.YtphmplmeofledaaPx3
import Derived.Test.YtphmplmeofledaaUpToDate
namespace Go.Proofs.Ytphmplmeofledaa.Pure
open Go.RowKit Go.Proofs.Ytphmplmeofledaa.P Go.Proofs.YtphmplmeofledaaW.PrintWords Go.Proofs.YtphmplmeofledaaW.PrintLast Go.Proofs.YtphmplmeofledaaW.PrintMore
open Go.Proofs.Ytphmplmeofledaa.Pl Go.Proofs.Ytphmplmeofledaa.Base Go.Proofs.Ytphmplmeofledaa.UpToDate
theorem FnExactUpToDate : laws_FnExactUpToDate.Pure := by
  intro l0 l1 hml0 hzl0 hwl0 hml1 hzl1 hwl1
  refine ⟨l0.length + l1.length + 20, ?_⟩
  unfold laws_FnExactUpToDate.f
  by_cases c0 : (l0.length : Int) > 1048576
  · rw [if_pos c0]
  rw [if_neg c0]
  by_cases c1 : (l1.length : Int) > 1048576
  · rw [if_pos c1]
  rw [if_neg c1]
  refine bnd (toIntS_f _ (by omega) _ (by omega)) ?_
  refine bnd (toIntS_f _ (by omega) _ (by omega)) ?_
  refine bnd (spec_upToDate_f _ _ (by omega) (by omega) _ (by omega)) ?_
  refine bnd (toIntS_f _ (by omega) _ (by omega)) ?_
  refine bnd (toIntS_f _ (by omega) _ (by omega)) ?_
  refine bnd (impl_upToDate_f _ _ (by omega) (by omega) _ (by omega)) ?_
  refine no_ (by first | omega | (dsimp only; omega) | (simp; done) | (simp; omega)) ?_
  rw [laws_FnExactUpToDate.j0]
  refine no_ (by first | omega | (dsimp only; omega) | (simp; done) | (simp; omega)) ?_
  refine bnd (toIntS_f _ (by omega) _ (by omega)) ?_
  refine bnd (eqIntS_same _ (by omega) _ (by omega)) ?_
  refine yes_ (by first | rfl | omega | (dsimp only; omega) | (simp; done) | (simp; omega)) ?_
  refine bnd (toIntS_f _ (by omega) _ (by omega)) ?_
  refine bnd (eqIntS_same _ (by omega) _ (by omega)) ?_
  refine yes_ (by first | rfl | omega | (dsimp only; omega) | (simp; done) | (simp; omega)) ?_
  rfl
end Go.Proofs.Ytphmplmeofledaa.Pure
