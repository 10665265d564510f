/- Spread: what the four questions about even places come to. -/
import Derived.Test.YtgcliajajcinpaaPx12
import Derived.Test.YtgcliajajcinpaaMoves
import Derived.Test.YtgcliajajcinpaaSpreadG
namespace Go.Proofs.Ytgcliajajcinpaa.Spread
open Go.RowKit Go.Proofs.Ytgcliajajcinpaa.P Go.Proofs.YtgcliajajcinpaaW.PrintWords Go.Proofs.YtgcliajajcinpaaW.PrintLast Go.Proofs.YtgcliajajcinpaaW.PrintMore
open Go.Proofs.Ytgcliajajcinpaa.Pl Go.Proofs.Ytgcliajajcinpaa.Base Go.Proofs.Ytgcliajajcinpaa.Places Go.Proofs.Ytgcliajajcinpaa.EvN Go.Proofs.Ytgcliajajcinpaa.Moves
set_option linter.unusedSimpArgs false
set_option linter.unusedVariables false

theorem nat_home2 {a : Int} {l : List Int} (h : good a l = true) : ∃ n : Nat, a = (n : Int) := ⟨a.toNat, by have := (good_iff.1 h).2.1; omega⟩
theorem fewestMoves_f (a : Int) (l : List Int) (hl : l.length ≤ 1048576) : ∃ (v : Int × Bool) (K : Nat), (∀ k, K ≤ k → spec_FewestMoves.f k a l = some v) ∧ (∀ k, K ≤ k → impl_FewestMoves.f k a l = some v) := by
  by_cases hg : good a l = true
  · obtain ⟨n, rfl⟩ := nat_home2 hg
    obtain ⟨v, _, hs, hi, hvl, _⟩ := spread_one (g := -1) (.inl rfl) hg
    obtain ⟨K, hK⟩ := hs
    obtain ⟨M, hM⟩ := hi
    refine ⟨(moves l v, true), K + M + l.length + 1, fun k hk => ?_, fun k hk => ?_⟩
    · unfold spec_FewestMoves.f
      refine bnd (spec_f _ _ hl k (by omega)) ?_
      rw [if_pos hg]
      refine bnd (hK k (by omega)) ?_
      exact bnd (spec_moves_f l v hl hvl.symm k (by omega)) rfl
    · unfold impl_FewestMoves.f
      refine bnd (are_f _ _ hl k (by omega)) ?_
      rw [if_pos hg]
      refine bnd (hM k (by omega)) ?_
      exact bnd (impl_moves_f l v hl hvl.symm k (by omega)) rfl
  · refine ⟨(0, false), l.length + 1, fun k hk => ?_, fun k hk => ?_⟩
    · unfold spec_FewestMoves.f
      refine bnd (spec_f _ _ hl k (by omega)) ?_
      rw [if_neg hg]
    · unfold impl_FewestMoves.f
      refine bnd (are_f _ _ hl k (by omega)) ?_
      rw [if_neg hg]
end Go.Proofs.Ytgcliajajcinpaa.Spread
