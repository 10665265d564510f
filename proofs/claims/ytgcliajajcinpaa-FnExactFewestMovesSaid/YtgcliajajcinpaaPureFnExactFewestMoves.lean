/- FewestMoves answers as the reference does (how many items the even spread moves), and writes into no argument. For every argument. -/
import Derived.Test.YtgcliajajcinpaaPx23
import Derived.Test.YtgcliajajcinpaaSpreadFew
namespace Go.Proofs.Ytgcliajajcinpaa.Pure
open Go.RowKit Go.Proofs.Ytgcliajajcinpaa.P Go.Proofs.YtgcliajajcinpaaW.PrintWords Go.Proofs.YtgcliajajcinpaaW.PrintLast Go.Proofs.YtgcliajajcinpaaW.PrintMore
open Go.Proofs.Ytgcliajajcinpaa.Pl Go.Proofs.Ytgcliajajcinpaa.Base Go.Proofs.Ytgcliajajcinpaa.Spread
theorem FnExactFewestMoves : laws_FnExactFewestMoves.Pure := by
  intro a0 l1 hwa0 hml1 hzl1 hwl1
  by_cases hb0 : ¬ l1.length ≤ 1048576
  · exact ⟨1, by unfold laws_FnExactFewestMoves.f; rw [if_pos (by omega)]⟩
  obtain ⟨v, K, hs, hi⟩ := fewestMoves_f a0 l1 (by omega)
  refine ⟨K + l1.length + 40, ?_⟩
  unfold laws_FnExactFewestMoves.f
  by_cases c0 : (l1.length : Int) > 1048576
  · rw [if_pos c0]
  rw [if_neg c0]
  refine bnd (toIntS_f _ (by omega) _ (by omega)) ?_
  refine bnd (hs _ (by omega)) ?_
  refine bnd (toIntS_f _ (by omega) _ (by omega)) ?_
  refine bnd (hi _ (by omega)) ?_
  refine yes_ (by first | rfl | omega | (dsimp only; omega) | (simp; done) | (simp; omega)) ?_
  rw [laws_FnExactFewestMoves.j0]
  refine no_ (by first | omega | (dsimp only; omega) | (simp; done) | (simp; omega)) ?_
  refine bnd (toIntS_f _ (by omega) _ (by omega)) ?_
  refine bnd (eqIntS_same _ (by omega) _ (by omega)) ?_
  refine yes_ (by first | rfl | omega | (dsimp only; omega) | (simp; done) | (simp; omega)) ?_
  rfl
end Go.Proofs.Ytgcliajajcinpaa.Pure
