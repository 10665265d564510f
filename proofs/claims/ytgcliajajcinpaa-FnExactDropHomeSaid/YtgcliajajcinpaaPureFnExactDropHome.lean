/- DropHome answers as the reference does (items spread evenly over the homes but one that is gone), writes into no argument and keeps nothing of one; its answer owns its memory. For every argument. -/
import Derived.Test.YtgcliajajcinpaaPx22
import Derived.Test.YtgcliajajcinpaaSpreadDrop
namespace Go.Proofs.Ytgcliajajcinpaa.Pure
open Go.RowKit Go.Proofs.Ytgcliajajcinpaa.P Go.Proofs.YtgcliajajcinpaaW.PrintWords Go.Proofs.YtgcliajajcinpaaW.PrintLast Go.Proofs.YtgcliajajcinpaaW.PrintMore
open Go.Proofs.Ytgcliajajcinpaa.Pl Go.Proofs.Ytgcliajajcinpaa.Base Go.Proofs.Ytgcliajajcinpaa.Spread
theorem FnExactDropHome : laws_FnExactDropHome.Pure := by
  intro a0 l1 a2 hwa0 hml1 hzl1 hwl1 hwa2
  by_cases hb0 : ¬ l1.length ≤ 1048576
  · exact ⟨1, by unfold laws_FnExactDropHome.f; rw [if_pos (by omega)]⟩
  obtain ⟨v, K, hv, hs, hi⟩ := dropHome_f a0 l1 a2 (by omega)
  refine ⟨K + l1.length + 40, ?_⟩
  unfold laws_FnExactDropHome.f
  by_cases c0 : (l1.length : Int) > 1048576
  · rw [if_pos c0]
  rw [if_neg c0]
  refine bnd (toIntS_f _ (by omega) _ (by omega)) ?_
  refine bnd (hs _ (by omega)) ?_
  refine bnd (toIntS_f _ (by omega) _ (by omega)) ?_
  refine bnd (hi _ (by omega)) ?_
  refine bnd (eqIntS_same _ (by omega) _ (by omega)) ?_
  refine yes_ (by first | rfl | omega | (dsimp only; omega) | (simp; done) | (simp; omega)) ?_
  rw [laws_FnExactDropHome.j0]
  refine no_ (by first | omega | (dsimp only; omega) | (simp; done) | (simp; omega)) ?_
  refine bnd (toIntS_f _ (by omega) _ (by omega)) ?_
  refine bnd (eqIntS_same _ (by omega) _ (by omega)) ?_
  refine yes_ (by first | rfl | omega | (dsimp only; omega) | (simp; done) | (simp; omega)) ?_
  refine bnd (markIntS_f _ _ _ (by omega) (by first | omega | (dsimp only; omega)) (by first | omega | (dsimp only; omega)) (by omega)) ?_
  refine no_ (by first | omega | (dsimp only; omega) | (simp; done) | (simp; omega)) ?_
  refine bnd (eqIntS_same _ (by omega) _ (by omega)) ?_
  refine yes_ (by first | rfl | omega | (dsimp only; omega) | (simp; done) | (simp; omega)) ?_
  rw [laws_FnExactDropHome.j1]
  refine no_ (by first | omega | (dsimp only; omega) | (simp; done) | (simp; omega)) ?_
  refine bnd (markIntS_f _ _ _ (by omega) (by first | omega | (dsimp only; omega)) (by first | omega | (dsimp only; omega)) (by omega)) ?_
  refine bnd (heldIntS_f _ 1 _ (by omega) (by omega) (by omega) (by omega)) ?_
  refine no_ (by first | omega | (dsimp only; omega) | (simp; done) | (simp; omega)) ?_
  refine yes_ (by first | rfl | omega | (dsimp only; omega) | (simp; done) | (simp; omega)) ?_
  refine bnd (toIntS_f _ (by omega) _ (by omega)) ?_
  refine bnd (hi _ (by omega)) ?_
  refine bnd (eqIntS_same _ (by omega) _ (by omega)) ?_
  refine yes_ (by first | rfl | omega | (dsimp only; omega) | (simp; done) | (simp; omega)) ?_
  rw [laws_FnExactDropHome.j2]
  refine no_ (by first | omega | (dsimp only; omega) | (simp; done) | (simp; omega)) ?_
  refine bnd (heldIntS_f _ 1 _ (by omega) (by omega) (by omega) (by omega)) ?_
  refine no_ (by first | omega | (dsimp only; omega) | (simp; done) | (simp; omega)) ?_
  refine yes_ (by first | rfl | omega | (dsimp only; omega) | (simp; done) | (simp; omega)) ?_
  rfl
end Go.Proofs.Ytgcliajajcinpaa.Pure
