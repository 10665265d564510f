/- LoadsOf answers as the reference does (how many items are at each home, where the places are good), writes into no argument and keeps nothing of one; its answer owns its memory. For every argument. -/
import Derived.Test.YtphmplmeofledaaPx12
import Derived.Test.YtphmplmeofledaaPlaces
namespace Go.Proofs.Ytphmplmeofledaa.Pure
open Go.RowKit Go.Proofs.Ytphmplmeofledaa.P Go.Proofs.YtphmplmeofledaaW.PrintWords Go.Proofs.YtphmplmeofledaaW.PrintLast Go.Proofs.YtphmplmeofledaaW.PrintMore
open Go.Proofs.Ytphmplmeofledaa.Pl Go.Proofs.Ytphmplmeofledaa.Base Go.Proofs.Ytphmplmeofledaa.Places
theorem FnExactLoadsOf : laws_FnExactLoadsOf.Pure := by
  intro a0 l1 hwa0 hml1 hzl1 hwl1
  have hr := loadsOf_length a0 l1
  refine ⟨l1.length + 20, ?_⟩
  unfold laws_FnExactLoadsOf.f
  by_cases c0 : (l1.length : Int) > 1048576
  · rw [if_pos c0]
  rw [if_neg c0]
  refine bnd (toIntS_f _ (by omega) _ (by omega)) ?_
  refine bnd (spec_loadsOf_f _ _ (by omega) _ (by omega)) ?_
  refine bnd (toIntS_f _ (by omega) _ (by omega)) ?_
  refine bnd (impl_loadsOf_f _ _ (by omega) _ (by omega)) ?_
  refine bnd (eqIntS_same _ (by omega) _ (by omega)) ?_
  refine yes_ (by first | rfl | omega | (dsimp only; omega) | (simp; done) | (simp; omega)) ?_
  rw [laws_FnExactLoadsOf.j0]
  refine no_ (by first | omega | (dsimp only; omega) | (simp; done) | (simp; omega)) ?_
  refine bnd (toIntS_f _ (by omega) _ (by omega)) ?_
  refine bnd (eqIntS_same _ (by omega) _ (by omega)) ?_
  refine yes_ (by first | rfl | omega | (dsimp only; omega) | (simp; done) | (simp; omega)) ?_
  refine bnd (markIntS_f _ 1 _ (by omega) (by omega) (by omega) (by omega)) ?_
  refine no_ (by first | omega | (dsimp only; omega) | (simp; done) | (simp; omega)) ?_
  refine bnd (eqIntS_same _ (by omega) _ (by omega)) ?_
  refine yes_ (by first | rfl | omega | (dsimp only; omega) | (simp; done) | (simp; omega)) ?_
  rw [laws_FnExactLoadsOf.j1]
  refine no_ (by first | omega | (dsimp only; omega) | (simp; done) | (simp; omega)) ?_
  refine bnd (markIntS_f _ 1 _ (by omega) (by omega) (by omega) (by omega)) ?_
  refine bnd (heldIntS_f _ 1 _ (by omega) (by omega) (by omega) (by omega)) ?_
  refine no_ (by first | omega | (dsimp only; omega) | (simp; done) | (simp; omega)) ?_
  refine yes_ (by first | rfl | omega | (dsimp only; omega) | (simp; done) | (simp; omega)) ?_
  refine bnd (toIntS_f _ (by omega) _ (by omega)) ?_
  refine bnd (impl_loadsOf_f _ _ (by omega) _ (by omega)) ?_
  refine bnd (eqIntS_same _ (by omega) _ (by omega)) ?_
  refine yes_ (by first | rfl | omega | (dsimp only; omega) | (simp; done) | (simp; omega)) ?_
  rw [laws_FnExactLoadsOf.j2]
  refine no_ (by first | omega | (dsimp only; omega) | (simp; done) | (simp; omega)) ?_
  refine bnd (heldIntS_f _ 1 _ (by omega) (by omega) (by omega) (by omega)) ?_
  refine no_ (by first | omega | (dsimp only; omega) | (simp; done) | (simp; omega)) ?_
  refine yes_ (by first | rfl | omega | (dsimp only; omega) | (simp; done) | (simp; omega)) ?_
  rfl
end Go.Proofs.Ytphmplmeofledaa.Pure
