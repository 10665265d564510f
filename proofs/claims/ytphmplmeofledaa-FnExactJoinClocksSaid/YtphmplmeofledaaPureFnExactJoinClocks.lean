/- JoinClocks answers as the reference does (the greater number at each place of two good clocks), writes into no argument and keeps nothing of one; its answer owns its memory. For every argument. -/
import Derived.Test.YtphmplmeofledaaPx8
import Derived.Test.YtphmplmeofledaaClocks
namespace Go.Proofs.Ytphmplmeofledaa.Pure
open Go.RowKit Go.Proofs.Ytphmplmeofledaa.P Go.Proofs.YtphmplmeofledaaW.PrintWords Go.Proofs.YtphmplmeofledaaW.PrintLast Go.Proofs.YtphmplmeofledaaW.PrintMore
open Go.Proofs.Ytphmplmeofledaa.Pl Go.Proofs.Ytphmplmeofledaa.Base Go.Proofs.Ytphmplmeofledaa.Clocks
theorem FnExactJoinClocks : laws_FnExactJoinClocks.Pure := by
  intro l0 l1 hml0 hzl0 hwl0 hml1 hzl1 hwl1
  have hr := joinClocks_length l0 l1
  refine ⟨l0.length + l1.length + 20, ?_⟩
  unfold laws_FnExactJoinClocks.f
  by_cases c0 : (l0.length : Int) > 1048576
  · rw [if_pos c0]
  rw [if_neg c0]
  by_cases c1 : (l1.length : Int) > 1048576
  · rw [if_pos c1]
  rw [if_neg c1]
  refine bnd (toIntS_f _ (by omega) _ (by omega)) ?_
  refine bnd (toIntS_f _ (by omega) _ (by omega)) ?_
  refine bnd (spec_joinClocks_f _ _ (by omega) (by omega) _ (by omega)) ?_
  refine bnd (toIntS_f _ (by omega) _ (by omega)) ?_
  refine bnd (toIntS_f _ (by omega) _ (by omega)) ?_
  refine bnd (impl_joinClocks_f _ _ (by omega) (by omega) _ (by omega)) ?_
  refine bnd (eqIntS_same _ (by omega) _ (by omega)) ?_
  refine yes_ (by first | rfl | omega | (dsimp only; omega) | (simp; done) | (simp; omega)) ?_
  rw [laws_FnExactJoinClocks.j0]
  refine no_ (by first | omega | (dsimp only; omega) | (simp; done) | (simp; omega)) ?_
  refine bnd (toIntS_f _ (by omega) _ (by omega)) ?_
  refine bnd (eqIntS_same _ (by omega) _ (by omega)) ?_
  refine yes_ (by first | rfl | omega | (dsimp only; omega) | (simp; done) | (simp; omega)) ?_
  refine bnd (toIntS_f _ (by omega) _ (by omega)) ?_
  refine bnd (eqIntS_same _ (by omega) _ (by omega)) ?_
  refine yes_ (by first | rfl | omega | (dsimp only; omega) | (simp; done) | (simp; omega)) ?_
  refine bnd (markIntS_f _ _ _ (by omega) (by first | omega | (dsimp only; omega)) (by first | omega | (dsimp only; omega)) (by omega)) ?_
  refine bnd (markIntS_f _ _ _ (by omega) (by first | omega | (dsimp only; omega)) (by first | omega | (dsimp only; omega)) (by omega)) ?_
  refine no_ (by first | omega | (dsimp only; omega) | (simp; done) | (simp; omega)) ?_
  refine bnd (eqIntS_same _ (by omega) _ (by omega)) ?_
  refine yes_ (by first | rfl | omega | (dsimp only; omega) | (simp; done) | (simp; omega)) ?_
  rw [laws_FnExactJoinClocks.j1]
  refine no_ (by first | omega | (dsimp only; omega) | (simp; done) | (simp; omega)) ?_
  refine bnd (markIntS_f _ _ _ (by omega) (by first | omega | (dsimp only; omega)) (by first | omega | (dsimp only; omega)) (by omega)) ?_
  refine bnd (heldIntS_f _ 1 _ (by omega) (by omega) (by omega) (by omega)) ?_
  refine no_ (by first | omega | (dsimp only; omega) | (simp; done) | (simp; omega)) ?_
  refine yes_ (by first | rfl | omega | (dsimp only; omega) | (simp; done) | (simp; omega)) ?_
  refine bnd (toIntS_f _ (by omega) _ (by omega)) ?_
  refine bnd (toIntS_f _ (by omega) _ (by omega)) ?_
  refine bnd (impl_joinClocks_f _ _ (by omega) (by omega) _ (by omega)) ?_
  refine bnd (eqIntS_same _ (by omega) _ (by omega)) ?_
  refine yes_ (by first | rfl | omega | (dsimp only; omega) | (simp; done) | (simp; omega)) ?_
  rw [laws_FnExactJoinClocks.j2]
  refine no_ (by first | omega | (dsimp only; omega) | (simp; done) | (simp; omega)) ?_
  refine bnd (heldIntS_f _ 1 _ (by omega) (by omega) (by omega) (by omega)) ?_
  refine no_ (by first | omega | (dsimp only; omega) | (simp; done) | (simp; omega)) ?_
  refine yes_ (by first | rfl | omega | (dsimp only; omega) | (simp; done) | (simp; omega)) ?_
  rfl
end Go.Proofs.Ytphmplmeofledaa.Pure
