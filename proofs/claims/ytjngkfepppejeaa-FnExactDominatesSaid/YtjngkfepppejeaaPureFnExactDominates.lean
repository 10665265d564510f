/- Dominates answers as the reference does (does one coterie dominate another: each group of the other has all of one of its own, and not the other way round), and writes into no argument. For every argument. -/
import Derived.Test.YtjngkfepppejeaaPx16
import Derived.Test.YtjngkfepppejeaaPxok
import Derived.Test.YtjngkfepppejeaaHsL
import Derived.Test.YtjngkfepppejeaaQs2
namespace Go.Proofs.Ytjngkfepppejeaa.Pure
open Go.RowKit Go.Proofs.Ytjngkfepppejeaa.P Go.Proofs.YtjngkfepppejeaaW.PrintWords Go.Proofs.YtjngkfepppejeaaW.PrintLast Go.Proofs.YtjngkfepppejeaaW.PrintMore
open Go.Proofs.Ytjngkfepppejeaa.Pl Go.Proofs.Ytjngkfepppejeaa.EvN Go.Proofs.Ytjngkfepppejeaa.Lp Go.Proofs.Ytjngkfepppejeaa.Hs Go.Proofs.Ytjngkfepppejeaa.Qs
theorem FnExactDominates : laws_FnExactDominates.Pure := by
  intro l0 l1 h0 h1
  have a0 : l0.length ≤ 4611686018427387904 := by have := h0.2.1; omega
  have a1 : l1.length ≤ 4611686018427387904 := by have := h1.2.1; omega
  have b0 : ∀ x ∈ l0, x.length * 8 ≤ 140737488351232 := fun x hx => (h0.2.2 x hx).2.1
  have b1 : ∀ x ∈ l1, x.length * 8 ≤ 140737488351232 := fun x hx => (h1.2.2 x hx).2.1
  have c0 : ∀ x ∈ l0, x.length ≤ 4611686018427387904 := fun x hx => by have := b0 x hx; omega
  have c1 : ∀ x ∈ l1, x.length ≤ 4611686018427387904 := fun x hx => by have := b1 x hx; omega
  obtain ⟨v0, hv0⟩ := szIntSS_f l0 a0 1048576
  obtain ⟨v1, hv1⟩ := szIntSS_f l1 a1 v0
  have t0 := toIntSS_f l0 h0.2.1 b0
  have t1 := toIntSS_f l1 h1.2.1 b1
  refine cm_ex (v := true) ?_
  unfold laws_FnExactDominates.f
  refine cm_bind hv0 (cm_if (fun _ => cm_now fun _ => rfl) (fun _ => cm_bind hv1 (cm_if (fun _ => cm_now fun _ => rfl) (fun _ => ?_))))
  refine cm_bind t0 (cm_bind t1 (cm_bind (spec_dominates_f l0 l1 ⟨a0, c0⟩ ⟨a1, c1⟩) (cm_bind t0 (cm_bind t1 (cm_bind (impl_dominates_f l0 l1 ⟨a0, c0⟩ ⟨a1, c1⟩) (cm_no (by simp) ?_))))))
  refine cm_step (fun k => by rw [laws_FnExactDominates.j0]) ?_
  exact cm_no (by simp) (cm_bind t0 (cm_bind (eqIntSS_same l0 a0 c0) (cm_yes rfl (cm_bind t1 (cm_bind (eqIntSS_same l1 a1 c1) (cm_yes rfl (cm_now fun _ => rfl)))))))
end Go.Proofs.Ytjngkfepppejeaa.Pure
