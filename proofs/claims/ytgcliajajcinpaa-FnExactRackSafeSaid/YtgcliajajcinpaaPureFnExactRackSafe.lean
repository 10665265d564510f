/- RackSafe answers as the reference does (does each group of homes lie in as many racks as it can, where racks and groups are as said), and writes into no argument. For every argument. -/
import Derived.Test.YtgcliajajcinpaaPx28
import Derived.Test.YtgcliajajcinpaaPxok
import Derived.Test.YtgcliajajcinpaaHsL
import Derived.Test.YtgcliajajcinpaaRack
namespace Go.Proofs.Ytgcliajajcinpaa.Pure
open Go.RowKit Go.Proofs.Ytgcliajajcinpaa.P Go.Proofs.YtgcliajajcinpaaW.PrintWords Go.Proofs.YtgcliajajcinpaaW.PrintLast Go.Proofs.YtgcliajajcinpaaW.PrintMore
open Go.Proofs.Ytgcliajajcinpaa.Pl Go.Proofs.Ytgcliajajcinpaa.EvN Go.Proofs.Ytgcliajajcinpaa.Lp Go.Proofs.Ytgcliajajcinpaa.Hs Go.Proofs.Ytgcliajajcinpaa.Rack
theorem FnExactRackSafe : laws_FnExactRackSafe.Pure := by
  intro l0 l1 h0 h1
  have a0 : l0.length ≤ 4611686018427387904 := by have := h0.2.1; omega
  have a1 : l1.length ≤ 4611686018427387904 := by have := h1.2.1; omega
  have b1 : ∀ x ∈ l1, x.length * 8 ≤ 140737488351232 := fun x hx => (h1.2.2 x hx).2.1
  have c1 : ∀ x ∈ l1, x.length ≤ 4611686018427387904 := fun x hx => by have := b1 x hx; omega
  obtain ⟨v1, hv1⟩ := szIntSS_f l1 a1 1048576
  have t0 := toIntS_f l0 h0.2.1
  have t1 := toIntSS_f l1 h1.2.1 b1
  refine cm_ex (v := true) ?_
  unfold laws_FnExactRackSafe.f
  refine cm_if (fun _ => cm_now fun _ => rfl) (fun _ => cm_bind hv1 (cm_if (fun _ => cm_now fun _ => rfl) (fun _ => ?_)))
  refine cm_bind t0 (cm_bind t1 (cm_bind (spec_safe_f l0 l1 a0 a1 c1) (cm_bind t0 (cm_bind t1 (cm_bind (impl_safe_f l0 l1 a0 a1 c1) (cm_no (by simp) ?_))))))
  refine cm_step (fun k => by rw [laws_FnExactRackSafe.j0]) ?_
  exact cm_no (by simp) (cm_bind t0 (cm_bind (eqIntS_same l0 a0) (cm_yes rfl (cm_bind t1 (cm_bind (eqIntSS_same l1 a1 c1) (cm_yes rfl (cm_now fun _ => rfl)))))))
end Go.Proofs.Ytgcliajajcinpaa.Pure
