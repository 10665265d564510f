/- OverlapsIn answers as the reference does (how many pairs of good calls overlap in time), and writes into no argument. For every argument. -/
import Derived.Test.YtjngkfepppejeaaPx1
import Derived.Test.YtjngkfepppejeaaPx6
import Derived.Test.YtjngkfepppejeaaPxok
import Derived.Test.YtjngkfepppejeaaOverlaps
namespace Go.Proofs.Ytjngkfepppejeaa.Pure
open Go.RowKit Go.Proofs.Ytjngkfepppejeaa.P Go.Proofs.YtjngkfepppejeaaW.PrintWords Go.Proofs.YtjngkfepppejeaaW.PrintLast Go.Proofs.YtjngkfepppejeaaW.PrintMore
open Go.Proofs.Ytjngkfepppejeaa.Pl Go.Proofs.Ytjngkfepppejeaa.EvN Go.Proofs.Ytjngkfepppejeaa.Calls
theorem FnExactOverlapsIn : laws_FnExactOverlapsIn.Pure := by
  intro l0 h0
  have hm : (l0.length : Int) ≤ 9223372036854775807 := by
    have := h0.1
    have e : maxLen = 9223372036854775807 := rfl
    omega
  have hw : wrap64 (1048576 - (l0.length : Int)) = 1048576 - (l0.length : Int) := wrap_in (by omega) (by omega)
  refine cm_ex (v := true) ?_
  unfold laws_FnExactOverlapsIn.f laws_szCallS.f
  by_cases hb0 : l0.length ≤ 1048576
  · refine cm_bind (t := 1048576 - (l0.length : Int)) (cm_now fun _ => by rw [hw, if_neg (by omega)]) ?_
    have hl : (l0.map conv).length ≤ 1048576 := by simpa using hb0
    obtain ⟨v, h1, h2⟩ := overlapsIn_f _ hl
    refine cm_no (by omega) (cm_bind (toCallS_f l0 hb0) (cm_bind h1 (cm_bind (toCallS_f l0 hb0) (cm_bind h2 (cm_yes rfl ?_)))))
    refine cm_step (fun k => by rw [laws_FnExactOverlapsIn.j0]) ?_
    exact cm_no (by simp) (cm_bind (toCallS_f l0 hb0) (cm_bind (eqCallS_f _ hl) (cm_yes rfl (cm_now fun _ => rfl))))
  · refine cm_bind (t := -1) (cm_now fun _ => by rw [hw, if_pos (by omega)]) ?_
    exact cm_yes (by omega) (cm_now fun _ => rfl)
end Go.Proofs.Ytjngkfepppejeaa.Pure
