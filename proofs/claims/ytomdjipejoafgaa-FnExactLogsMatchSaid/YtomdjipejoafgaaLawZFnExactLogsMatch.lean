-- Written by programs of this session (wip/prune.py, wip/xp.py), out of the translation and the printed words; what the law does not reach is left out. Not trusted: Lean checks it.
import Derived.Test.YtomdjipejoafgaaRows
import Derived.WalkKit
import Derived.ProofKit
import Derived.OpenShut
import Derived.ChangeOld
import Derived.Below
import Derived.SizedLaws
import Derived.Test.YtomdjipejoafgaaZXLogsMatchPx10
import Derived.Test.YtomdjipejoafgaaZXLogsMatchPxok
import Derived.Test.YtomdjipejoafgaaZXLogsMatchQ0
namespace Go.Proofs.Ytomdjipejoafgaa.fnExactLogsMatch
open Go.ChangeShapes Go.WideShapes Go.ChangeAt Go.RowKit Go.Proofs.Ytomdjipejoafgaa Go.Proofs.Ytomdjipejoafgaa.P Go.Proofs.YtomdjipejoafgaaW.PrintWords
set_option linter.unusedVariables false
theorem own : ownKnob Try.prog.godebug = none := by kernel_rfl
theorem laidOut : laidOutB Try.prog = true := by kernel_rfl
set_option maxRecDepth 100000 in
theorem lifted (os : Os) (started : os.Started) (H : Type) (enc : TypeId × Value → H) :
    ReturnsInHanded {} Try.checked os 4 .any (Rows.fnExactLogsMatchSpec.pre6 enc Try.prog Try.f4 Rows.fnExactLogsMatchRow.domain false) (Rows.fnExactLogsMatchSpec.post enc Try.prog Try.f4 false true false false) := by
  refine returnsInHanded_of_change_sized (C := Try.checked) own started (by kernel_rfl) Try.func4
    (ChangeSpec.witness6 (enc := enc) (C := Try.checked) false ⟨#[], #[.slice none 0 0, .slice none 0 0], []⟩ 12 (by kernel_rfl) (by kernel_rfl) (by kernel_rfl) (by kernel_rfl)) ?_
  intro W base args ds gs before hval0 hW hcnd hsz0 _
  have hsz : (DataW.weightsEach Try.prog (Try.f4.params.toList ++ Rows.fnExactLogsMatchSpec.plain.varTypes Try.prog) (ds ++ gs)).all (· ≤ reachBytes) = true := hsz0
  have hval : ∀ (j : Nat) t v, Try.f4.params[j]? = some t → args[j]? = some v → Value.okWide Try.prog W .any base t v := hval0
  have hW' := hW
  obtain ⟨p, q, hA0, hV, rfl, hfz, hnd⟩ := hW
  have hA : DataW.TrodAll enc Try.prog W 0 (fun _ => true) true Try.f4.params.toList args.toList ds p := hA0
  rw [Try.params4] at hA hval hsz
  obtain ⟨v0, vs0, d0, ds0, p0, q0, hargs, rfl, rfl, h0, r0⟩ := trodAll_cons hA
  obtain ⟨v1, vs1, d1, ds1, p1, q1, rfl, rfl, rfl, h1, r1⟩ := trodAll_cons r0
  obtain ⟨rfl, rfl, rfl⟩ := trodAll_nil r1
  obtain rfl : args = #[v0, v1] := by cases args; simp_all
  obtain ⟨rfl, rfl⟩ := trodVars_none hV
  have k0 := h0
  have lt0 : ∀ x ∈ p0, x.block < W.heap.size := by obtain ⟨m, hm⟩ := k0; exact DataW.trod_lt m _ _ _ hm
  obtain ⟨a0, len0, cap0, rfl⟩ := okWide_slice Try.underlying27 (hval 0 27 v0 rfl rfl)
  obtain ⟨l0, ⟨A0, c0, he0, hl0, hr0⟩, hb0⟩ := Opens.Opens.arg (Opens.Opens.slice 16 Try.underlying27 (by kernel_rfl) (by kernel_rfl) opens95) h0 hsz (j := 0) rfl rfl
  have hc0 : Value.slice a0 len0 cap0 = .slice A0 l0.length c0 := by injection he0
  injection hc0 with ha0 hn0 hcp0
  subst ha0 hn0 hcp0
  have k1 := h1
  have lt1 : ∀ x ∈ p1, x.block < W.heap.size := by obtain ⟨m, hm⟩ := k1; exact DataW.trod_lt m _ _ _ hm
  obtain ⟨a1, len1, cap1, rfl⟩ := okWide_slice Try.underlying27 (hval 1 27 v1 rfl rfl)
  obtain ⟨l1, ⟨A1, c1, he1, hl1, hr1⟩, hb1⟩ := Opens.Opens.arg (Opens.Opens.slice 16 Try.underlying27 (by kernel_rfl) (by kernel_rfl) opens95) h1 hsz (j := 1) rfl rfl
  have hc1 : Value.slice a1 len1 cap1 = .slice A1 l1.length c1 := by injection he1
  injection hc1 with ha1 hn1 hcp1
  subst ha1 hn1 hcp1
  clear hA0 hval0 hsz0 hsz
  obtain ⟨k, hP⟩ := Pure.FnExactLogsMatch l0 l1 hb0 hb1
  refine (P.laws_FnExactLogsMatch.calls k _ _ l0 _ _ l1 true W hr0 hl0 hr1 hl1 hP).mono fun e W' ⟨he, bel⟩ => ?_
  subst he
  exact ⟨_, rfl, _, _, _, [], _, [], hW', trodAll_mk1 (shut_bool Try.underlying4 _), (trodAll_cons_mk (Below.trod laidOut (by kernel_rfl) (of_decide_eq_true (by kernel_rfl)) k0 bel lt0) (trodAll_cons_mk (Below.trod laidOut (by kernel_rfl) (of_decide_eq_true (by kernel_rfl)) k1 bel lt1) trodAll_mk0)), rfl, bel.frame _, fun h => by cases h⟩
theorem over : Rows.fnExactLogsMatchRow.holds Try.pinned (OpenSpec.ofChange Rows.fnExactLogsMatchSpec) :=
  OpenClaim.holds_of_wide 4 Try.f4 rfl rfl rfl rfl rfl rfl rfl ⟨rfl, rfl, rfl, rfl, rfl⟩ rfl rfl rfl rfl rfl (by kernel_rfl) Try.func4 (by kernel_rfl)
    (of_decide_eq_true (by kernel_rfl)) (by unfold Func.isWrapper; first | (rw [if_pos (by decide +kernel)]; kernel_rfl) | (rw [if_neg (by decide +kernel)]; exact ⟨rfl, rfl⟩))
    (fun os started H enc _ => lifted os started H enc)
theorem proved : Rows.FnExactLogsMatchSaid := over
#print axioms proved
end Go.Proofs.Ytomdjipejoafgaa.fnExactLogsMatch
namespace Go.Proofs.Ytomdjipejoafgaa
theorem fnExactLogsMatch_holds : Rows.FnExactLogsMatchSaid := fnExactLogsMatch.proved
end Go.Proofs.Ytomdjipejoafgaa
