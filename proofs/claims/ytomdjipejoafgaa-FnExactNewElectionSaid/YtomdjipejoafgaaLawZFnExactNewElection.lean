-- Written by programs of this session (wip/prune.py, wip/xp.py), out of the translation and the printed words; what the law does not reach is left out. Not trusted: Lean checks it.
import Derived.Test.YtomdjipejoafgaaRows
import Derived.WalkKit
import Derived.ProofKit
import Derived.OpenShut
import Derived.ChangeOld
import Derived.Below
import Derived.SizedLaws
import Derived.Test.YtomdjipejoafgaaZXNewElectionQ0
import Derived.Test.YtomdjipejoafgaaZXNewElectionPx0
import Derived.Test.YtomdjipejoafgaaZXNewElectionO0
namespace Go.Proofs.Ytomdjipejoafgaa.fnExactNewElection
open Go.ChangeShapes Go.WideShapes Go.ChangeAt Go.RowKit Go.Proofs.Ytomdjipejoafgaa Go.Proofs.Ytomdjipejoafgaa.P Go.Proofs.YtomdjipejoafgaaW.PrintWords
set_option linter.unusedVariables false
theorem own : ownKnob Try.prog.godebug = none := by kernel_rfl
theorem laidOut : laidOutB Try.prog = true := by kernel_rfl
set_option maxRecDepth 100000 in
theorem lifted (os : Os) (started : os.Started) (H : Type) (enc : TypeId × Value → H) :
    ReturnsInHanded {} Try.checked os 10 .any (Rows.fnExactNewElectionSpec.pre6 enc Try.prog Try.f10 Rows.fnExactNewElectionRow.domain false) (Rows.fnExactNewElectionSpec.post enc Try.prog Try.f10 false true false false) := by
  refine returnsInHanded_of_change_sized (C := Try.checked) own started (by kernel_rfl) Try.func10
    (ChangeSpec.witness6 (enc := enc) (C := Try.checked) false ⟨#[], #[.slice none 0 0], []⟩ 12 (by kernel_rfl) (by kernel_rfl) (by kernel_rfl) (by kernel_rfl)) ?_
  intro W base args ds gs before hval0 hW hcnd hsz0 _
  have hsz : (DataW.weightsEach Try.prog (Try.f10.params.toList ++ Rows.fnExactNewElectionSpec.plain.varTypes Try.prog) (ds ++ gs)).all (· ≤ reachBytes) = true := hsz0
  have hval : ∀ (j : Nat) t v, Try.f10.params[j]? = some t → args[j]? = some v → Value.okWide Try.prog W .any base t v := hval0
  have hW' := hW
  obtain ⟨p, q, hA0, hV, rfl, hfz, hnd⟩ := hW
  have hA : DataW.TrodAll enc Try.prog W 0 (fun _ => true) true Try.f10.params.toList args.toList ds p := hA0
  rw [Try.params10] at hA hval hsz
  obtain ⟨v0, vs0, d0, ds0, p0, q0, hargs, rfl, rfl, h0, r0⟩ := trodAll_cons hA
  obtain ⟨rfl, rfl, rfl⟩ := trodAll_nil r0
  obtain rfl : args = #[v0] := by cases args; simp_all
  obtain ⟨rfl, rfl⟩ := trodVars_none hV
  have k0 := h0
  have lt0 : ∀ x ∈ p0, x.block < W.heap.size := by obtain ⟨m, hm⟩ := k0; exact DataW.trod_lt m _ _ _ hm
  obtain ⟨a0, len0, cap0, rfl⟩ := okWide_slice Try.underlying75 (hval 0 75 v0 rfl rfl)
  obtain ⟨l0, ⟨A0, c0, he0, hl0, hr0⟩, hb0⟩ := Opens.Opens.arg (Opens.Opens.slice 24 Try.underlying75 (by kernel_rfl) (by kernel_rfl) (Opens.Opens.slice 8 Try.underlying22 (by kernel_rfl) (by kernel_rfl) (Opens.Opens.int Try.underlying3))) h0 hsz (j := 0) rfl rfl
  have hc0 : Value.slice a0 len0 cap0 = .slice A0 l0.length c0 := by injection he0
  injection hc0 with ha0 hn0 hcp0
  subst ha0 hn0 hcp0
  clear hA0 hval0 hsz0 hsz
  refine (Mk.FnExactNewElection_calls Pure.FnExactNewElection l0 _ _ hb0 W hr0 hl0).mono fun e W' ⟨he, bel⟩ => ?_
  subst he
  exact ⟨_, rfl, _, _, _, [], _, [], hW', trodAll_mk1 (shut_bool Try.underlying4 _), (trodAll_cons_mk (Below.trod laidOut (by kernel_rfl) (of_decide_eq_true (by kernel_rfl)) k0 bel lt0) trodAll_mk0), rfl, bel.frame _, fun h => by cases h⟩
theorem over : Rows.fnExactNewElectionRow.holds Try.pinned (OpenSpec.ofChange Rows.fnExactNewElectionSpec) :=
  OpenClaim.holds_of_wide 10 Try.f10 rfl rfl rfl rfl rfl rfl rfl ⟨rfl, rfl, rfl, rfl, rfl⟩ rfl rfl rfl rfl rfl (by kernel_rfl) Try.func10 (by kernel_rfl)
    (of_decide_eq_true (by kernel_rfl)) (by unfold Func.isWrapper; first | (rw [if_pos (by decide +kernel)]; kernel_rfl) | (rw [if_neg (by decide +kernel)]; exact ⟨rfl, rfl⟩))
    (fun os started H enc _ => lifted os started H enc)
theorem proved : Rows.FnExactNewElectionSaid := over
#print axioms proved
end Go.Proofs.Ytomdjipejoafgaa.fnExactNewElection
namespace Go.Proofs.Ytomdjipejoafgaa
theorem fnExactNewElection_holds : Rows.FnExactNewElectionSaid := fnExactNewElection.proved
end Go.Proofs.Ytomdjipejoafgaa
