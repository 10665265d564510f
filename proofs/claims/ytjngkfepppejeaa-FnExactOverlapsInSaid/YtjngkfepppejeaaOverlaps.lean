/- Overlaps: how many pairs of calls overlap: both programs go the same way. -/
import Derived.Test.YtjngkfepppejeaaPx3
import Derived.Test.YtjngkfepppejeaaPx5
import Derived.Test.YtjngkfepppejeaaCalls
import Derived.Test.YtjngkfepppejeaaLp
namespace Go.Proofs.Ytjngkfepppejeaa.Calls
open Go.RowKit Go.Proofs.Ytjngkfepppejeaa.P Go.Proofs.YtjngkfepppejeaaW.PrintWords Go.Proofs.YtjngkfepppejeaaW.PrintLast Go.Proofs.YtjngkfepppejeaaW.PrintMore
open Go.Proofs.Ytjngkfepppejeaa.Pl Go.Proofs.Ytjngkfepppejeaa.EvN Go.Proofs.Ytjngkfepppejeaa.Lp
set_option linter.unusedSimpArgs false
set_option linter.unusedVariables false

theorem overlaps_same : ∀ k : Nat, (∀ a b c d e, impl_OverlapsIn.l0 k a b c d e = spec_OverlapsIn.l0 k a b c d e) ∧ (∀ a b c d e f g h i j l m n o, impl_OverlapsIn.l1 k a b c d e f g h i j l m n o = spec_OverlapsIn.l1 k a b c d e f g h i j l m n o)
  | 0 => ⟨fun _ _ _ _ _ => rfl, fun _ _ _ _ _ _ _ _ _ _ _ _ _ _ => rfl⟩
  | k + 1 => by
    have ih := overlaps_same k
    refine ⟨fun a b c d e => ?_, fun a b c d e f g h i j l m n o => ?_⟩
    · rw [impl_OverlapsIn.l0, spec_OverlapsIn.l0]
      simp only [ih.1, ih.2]
    · rw [impl_OverlapsIn.l1, spec_OverlapsIn.l1]
      simp only [ih.1, ih.2]
theorem overlaps_l1 (l : List S72) (hl : l.length ≤ 1048576) (i : Int) (ys : List S72) (hy : ys.length ≤ 1048576) (a0 a1 : Int) (a2 : Bool) (a3 a4 a5 : Int) (hn : ∀ s, ∃ v, Cm (fun k => spec_OverlapsIn.l0 k l s l (l.length : Int) (wrap64 (i + 1))) v) (s : Int) :
    ∃ v, Cm (fun k => spec_OverlapsIn.l1 k l s l (l.length : Int) i ys (ys.length : Int) 0 a0 a1 a2 a3 a4 a5) v := by
  refine exs_cm (L := fun k j s => spec_OverlapsIn.l1 k l s l (l.length : Int) i ys (ys.length : Int) j a0 a1 a2 a3 a4 a5) ys ?_ ?_ s
  · intro pre h t s e hlt ih
    by_cases c : a4 < h.f5 ∧ h.f4 < a5
    · obtain ⟨v, hv⟩ := ih (wrap64 (s + 1))
      refine ⟨v, ?_⟩
      refine cm_step (fun k => by rw [spec_OverlapsIn.l1]) ?_
      simp only [rd72_at e, wrap_len hlt (show ys.length ≤ 4611686018427387904 by omega)]
      exact cm_yes (by omega) (cm_yes (by omega) (cm_yes (by omega) (cm_yes c.1 (cm_yes c.2 hv))))
    · obtain ⟨v, hv⟩ := ih s
      refine ⟨v, ?_⟩
      refine cm_step (fun k => by rw [spec_OverlapsIn.l1]) ?_
      simp only [rd72_at e, wrap_len hlt (show ys.length ≤ 4611686018427387904 by omega)]
      exact cm_yes (by omega) (cm_yes (by omega) (cm_yes (by omega) (cm_if (fun c1 => cm_no (fun c2 => c ⟨c1, c2⟩) hv) (fun _ => hv))))
  · intro s
    obtain ⟨v, hv⟩ := hn s
    refine ⟨v, ?_⟩
    refine cm_step (fun k => by rw [spec_OverlapsIn.l1]) ?_
    exact cm_no (by omega) hv
theorem overlaps_ex (l : List S72) (hl : l.length ≤ 1048576) : ∃ v, Cm (fun k => spec_OverlapsIn.l0 k l 0 l (l.length : Int) 0) v := by
  refine exs_cm (L := fun k j s => spec_OverlapsIn.l0 k l s l (l.length : Int) j) l ?_ ?_ 0
  · intro pre h t s e hlt ih
    obtain ⟨v, hv⟩ := overlaps_l1 l hl (pre.length : Int) pre (by omega) h.f0 h.f1 h.f2 h.f3 h.f4 h.f5 (fun s => by rw [wrap_len hlt (by omega)]; exact ih s) s
    refine ⟨v, ?_⟩
    refine cm_step (fun k => by rw [spec_OverlapsIn.l0]) ?_
    simp only [rd72_at e, take_at e]
    exact cm_yes (by omega) (cm_yes (by omega) (cm_yes (by omega) (cm_yes (by omega) (cm_bind (cm_now fun _ => rfl) hv))))
  · intro s
    refine ⟨(s, true), ?_⟩
    refine cm_step (fun k => by rw [spec_OverlapsIn.l0]) ?_
    exact cm_no (by omega) (cm_now fun _ => rfl)
theorem overlapsIn_f (l : List S72) (hl : l.length ≤ 1048576) : ∃ v, Cm (fun k => spec_OverlapsIn.f k l) v ∧ Cm (fun k => impl_OverlapsIn.f k l) v := by
  unfold spec_OverlapsIn.f impl_OverlapsIn.f
  have hi : Cm (fun k => impl_areCalls.f k l) (okAll [] l && decide (l.length ≤ 7)) := by
    unfold impl_areCalls.f
    have := impl_l0 l hl l [] rfl
    simpa using this
  by_cases c : (okAll [] l && decide (l.length ≤ 7)) = true
  · obtain ⟨v, hv⟩ := overlaps_ex l hl
    refine ⟨v, cm_bind (spec_f l hl) (cm_yes c hv), cm_bind hi (cm_yes c ?_)⟩
    exact cm_same (fun k => (overlaps_same k).1 _ _ _ _ _) hv
  · exact ⟨(0, false), cm_bind (spec_f l hl) (cm_no c (cm_now fun _ => rfl)), cm_bind hi (cm_no c (cm_now fun _ => rfl))⟩
end Go.Proofs.Ytjngkfepppejeaa.Calls
