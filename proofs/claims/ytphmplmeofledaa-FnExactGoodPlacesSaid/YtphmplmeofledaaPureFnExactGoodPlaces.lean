/- GoodPlaces answers as the reference does (1 to 6 homes, at most 16 items, each at a home or at none), and writes into no argument. For every argument. -/
import Derived.Test.YtphmplmeofledaaPx2
import Derived.Test.YtphmplmeofledaaPlaces
namespace Go.Proofs.Ytphmplmeofledaa.Pure
open Go.RowKit Go.Proofs.Ytphmplmeofledaa.P Go.Proofs.YtphmplmeofledaaW.PrintWords Go.Proofs.YtphmplmeofledaaW.PrintLast Go.Proofs.YtphmplmeofledaaW.PrintMore
open Go.Proofs.Ytphmplmeofledaa.Pl Go.Proofs.Ytphmplmeofledaa.Base Go.Proofs.Ytphmplmeofledaa.Places
theorem FnExactGoodPlaces : laws_FnExactGoodPlaces.Pure := by
  intro a0 l1 hwa0 hml1 hzl1 hwl1
  refine ⟨l1.length + 20, ?_⟩
  unfold laws_FnExactGoodPlaces.f
  by_cases c0 : (l1.length : Int) > 1048576
  · rw [if_pos c0]
  rw [if_neg c0]
  refine bnd (toIntS_f _ (by omega) _ (by omega)) ?_
  refine bnd (spec_f _ _ (by omega) _ (by omega)) ?_
  refine bnd (toIntS_f _ (by omega) _ (by omega)) ?_
  refine bnd (impl_f _ _ (by omega) _ (by omega)) ?_
  refine no_ (by first | omega | (dsimp only; omega) | (simp; done) | (simp; omega)) ?_
  refine bnd (toIntS_f _ (by omega) _ (by omega)) ?_
  refine bnd (eqIntS_same _ (by omega) _ (by omega)) ?_
  refine yes_ (by first | rfl | omega | (dsimp only; omega) | (simp; done) | (simp; omega)) ?_
  rfl
end Go.Proofs.Ytphmplmeofledaa.Pure
