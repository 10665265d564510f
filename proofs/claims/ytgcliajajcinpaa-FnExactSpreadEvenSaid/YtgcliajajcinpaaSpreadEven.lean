/- Spread: what the four questions about even places come to. -/
import Derived.Test.YtgcliajajcinpaaPx18
import Derived.Test.YtgcliajajcinpaaSpreadG
namespace Go.Proofs.Ytgcliajajcinpaa.Spread
open Go.RowKit Go.Proofs.Ytgcliajajcinpaa.P Go.Proofs.YtgcliajajcinpaaW.PrintWords Go.Proofs.YtgcliajajcinpaaW.PrintLast Go.Proofs.YtgcliajajcinpaaW.PrintMore
open Go.Proofs.Ytgcliajajcinpaa.Pl Go.Proofs.Ytgcliajajcinpaa.Base Go.Proofs.Ytgcliajajcinpaa.Places Go.Proofs.Ytgcliajajcinpaa.EvN
set_option linter.unusedSimpArgs false
set_option linter.unusedVariables false

theorem nat_home {a : Int} {l : List Int} (h : good a l = true) : ∃ n : Nat, a = (n : Int) := ⟨a.toNat, by have := (good_iff.1 h).2.1; omega⟩
/-- What both programs come to, and from how many rounds on. -/
theorem spreadEven_f (a : Int) (l : List Int) (hl : l.length ≤ 1048576) : ∃ (v : List Int × Bool) (K : Nat), v.1.length ≤ 16 ∧ (∀ k, K ≤ k → spec_SpreadEven.f k a l = some v) ∧ (∀ k, K ≤ k → impl_SpreadEven.f k a l = some v) := by
  by_cases hg : good a l = true
  · obtain ⟨n, rfl⟩ := nat_home hg
    obtain ⟨v, _, hs, hi, hvl, _⟩ := spread_one (g := -1) (.inl rfl) hg
    obtain ⟨K, hK⟩ := hs
    obtain ⟨M, hM⟩ := hi
    refine ⟨(v, true), K + M + l.length + 1, by have := (good_iff.1 hg).2.2; simp only; omega, fun k hk => ?_, fun k hk => ?_⟩
    · unfold spec_SpreadEven.f
      refine bnd (spec_f _ _ hl k (by omega)) ?_
      rw [if_pos hg]
      exact bnd (hK k (by omega)) rfl
    · unfold impl_SpreadEven.f
      refine bnd (are_f _ _ hl k (by omega)) ?_
      rw [if_pos hg]
      exact bnd (hM k (by omega)) rfl
  · refine ⟨([], false), l.length + 1, by simp, fun k hk => ?_, fun k hk => ?_⟩
    · unfold spec_SpreadEven.f
      refine bnd (spec_f _ _ hl k (by omega)) ?_
      rw [if_neg hg]
    · unfold impl_SpreadEven.f
      refine bnd (are_f _ _ hl k (by omega)) ?_
      rw [if_neg hg]
end Go.Proofs.Ytgcliajajcinpaa.Spread
