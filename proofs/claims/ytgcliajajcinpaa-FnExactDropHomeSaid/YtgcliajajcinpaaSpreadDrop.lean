/- Spread: what the four questions about even places come to. -/
import Derived.Test.YtgcliajajcinpaaPx11
import Derived.Test.YtgcliajajcinpaaSpreadG
namespace Go.Proofs.Ytgcliajajcinpaa.Spread
open Go.RowKit Go.Proofs.Ytgcliajajcinpaa.P Go.Proofs.YtgcliajajcinpaaW.PrintWords Go.Proofs.YtgcliajajcinpaaW.PrintLast Go.Proofs.YtgcliajajcinpaaW.PrintMore
open Go.Proofs.Ytgcliajajcinpaa.Pl Go.Proofs.Ytgcliajajcinpaa.Base Go.Proofs.Ytgcliajajcinpaa.Places Go.Proofs.Ytgcliajajcinpaa.EvN
set_option linter.unusedSimpArgs false
set_option linter.unusedVariables false

theorem nat_home3 {a : Int} {l : List Int} (h : good a l = true) : ∃ n : Nat, a = (n : Int) := ⟨a.toNat, by have := (good_iff.1 h).2.1; omega⟩
theorem dropHome_f (a : Int) (l : List Int) (g : Int) (hl : l.length ≤ 1048576) : ∃ (v : List Int × Bool) (K : Nat), v.1.length ≤ 16 ∧ (∀ k, K ≤ k → spec_DropHome.f k a l g = some v) ∧ (∀ k, K ≤ k → impl_DropHome.f k a l g = some v) := by
  by_cases hg : good a l = true
  · obtain ⟨n, rfl⟩ := nat_home3 hg
    have hn := (good_iff.1 hg).2.1
    by_cases hc : 2 ≤ n ∧ 0 ≤ g ∧ g < (n : Int)
    · obtain ⟨v, _, hs, hi, hvl, _⟩ := spread_one (g := g) (.inr ⟨hc.2.1, hc.2.2, hc.1⟩) hg
      obtain ⟨K, hK⟩ := hs
      obtain ⟨M, hM⟩ := hi
      refine ⟨(v, true), K + M + l.length + 1, by have := (good_iff.1 hg).2.2; simp only; omega, fun k hk => ?_, fun k hk => ?_⟩
      · unfold spec_DropHome.f
        refine bnd (spec_f _ _ hl k (by omega)) ?_
        rw [if_pos hg, if_neg (by omega), if_neg (by omega), if_neg (by omega)]
        exact bnd (hK k (by omega)) rfl
      · unfold impl_DropHome.f
        refine bnd (are_f _ _ hl k (by omega)) ?_
        rw [if_pos hg, if_neg (by omega), wrap_in (by omega) (by omega)]
        refine bnd (in_f g 0 _) ?_
        rw [if_pos (by simp only [decide_eq_true_eq]; omega)]
        exact bnd (hM k (by omega)) rfl
    · refine ⟨([], false), l.length + 1, by simp, fun k hk => ?_, fun k hk => ?_⟩
      · unfold spec_DropHome.f
        refine bnd (spec_f _ _ hl k (by omega)) ?_
        rw [if_pos hg]
        by_cases c1 : (n : Int) < 2
        · rw [if_pos c1]
        · rw [if_neg c1]
          by_cases c2 : g < 0
          · rw [if_pos c2]
          · rw [if_neg c2, if_pos (by omega)]
      · unfold impl_DropHome.f
        refine bnd (are_f _ _ hl k (by omega)) ?_
        rw [if_pos hg]
        by_cases c1 : (n : Int) < 2
        · rw [if_pos c1]
        · rw [if_neg c1, wrap_in (by omega) (by omega)]
          refine bnd (in_f g 0 _) ?_
          rw [if_neg (by simp only [decide_eq_true_eq]; omega)]
  · refine ⟨([], false), l.length + 1, by simp, fun k hk => ?_, fun k hk => ?_⟩
    · unfold spec_DropHome.f
      refine bnd (spec_f _ _ hl k (by omega)) ?_
      rw [if_neg hg]
    · unfold impl_DropHome.f
      refine bnd (are_f _ _ hl k (by omega)) ?_
      rw [if_neg hg]
end Go.Proofs.Ytgcliajajcinpaa.Spread
