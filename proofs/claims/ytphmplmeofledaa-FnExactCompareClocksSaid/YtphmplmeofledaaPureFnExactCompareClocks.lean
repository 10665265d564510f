/- CompareClocks answers as the reference does (-1, 0, 1 or 2 for two good clocks), and writes into no argument. For every argument. -/
import Derived.Test.YtphmplmeofledaaPx10
import Derived.Test.YtphmplmeofledaaClocks
namespace Go.Proofs.Ytphmplmeofledaa.Pure
open Go.RowKit Go.Proofs.Ytphmplmeofledaa.P Go.Proofs.YtphmplmeofledaaW.PrintWords Go.Proofs.YtphmplmeofledaaW.PrintLast Go.Proofs.YtphmplmeofledaaW.PrintMore
open Go.Proofs.Ytphmplmeofledaa.Pl Go.Proofs.Ytphmplmeofledaa.Base Go.Proofs.Ytphmplmeofledaa.Clocks
theorem FnExactCompareClocks : laws_FnExactCompareClocks.Pure := by
  intro l0 l1 hml0 hzl0 hwl0 hml1 hzl1 hwl1
  refine ⟨l0.length + l1.length + 20, ?_⟩
  unfold laws_FnExactCompareClocks.f
  by_cases c0 : (l0.length : Int) > 1048576
  · rw [if_pos c0]
  rw [if_neg c0]
  by_cases c1 : (l1.length : Int) > 1048576
  · rw [if_pos c1]
  rw [if_neg c1]
  refine bnd (toIntS_f _ (by omega) _ (by omega)) ?_
  refine bnd (toIntS_f _ (by omega) _ (by omega)) ?_
  refine bnd (spec_compareClocks_f _ _ (by omega) (by omega) _ (by omega)) ?_
  refine bnd (toIntS_f _ (by omega) _ (by omega)) ?_
  refine bnd (toIntS_f _ (by omega) _ (by omega)) ?_
  refine bnd (impl_compareClocks_f _ _ (by omega) (by omega) _ (by omega)) ?_
  refine yes_ (by first | rfl | omega | (dsimp only; omega) | (simp; done) | (simp; omega)) ?_
  rw [laws_FnExactCompareClocks.j0]
  refine no_ (by first | omega | (dsimp only; omega) | (simp; done) | (simp; omega)) ?_
  refine bnd (toIntS_f _ (by omega) _ (by omega)) ?_
  refine bnd (eqIntS_same _ (by omega) _ (by omega)) ?_
  refine yes_ (by first | rfl | omega | (dsimp only; omega) | (simp; done) | (simp; omega)) ?_
  refine bnd (toIntS_f _ (by omega) _ (by omega)) ?_
  refine bnd (eqIntS_same _ (by omega) _ (by omega)) ?_
  refine yes_ (by first | rfl | omega | (dsimp only; omega) | (simp; done) | (simp; omega)) ?_
  rfl
end Go.Proofs.Ytphmplmeofledaa.Pure
