-- Written by programs of this session (wip/prune.py, wip/xp.py), out of the translation and the printed words; what the law does not reach is left out. Not trusted: Lean checks it.
import Derived.Test.YtjngkfepppejeaaZXLeastQuorumsPx0
import Derived.Test.YtjngkfepppejeaaZXLeastQuorumsO0
section
namespace Go.Proofs.Ytjngkfepppejeaa.P
open Go.RowKit Go.Proofs.YtjngkfepppejeaaW.PrintWords Go.Proofs.YtjngkfepppejeaaW.PrintLast Go.Proofs.YtjngkfepppejeaaW.PrintMore
attribute [local go_sem] max2_int min2_int max_two min_two max_three min_three max_four min_four   -- for this text's walks alone
set_option linter.unusedVariables false
set_option linter.unusedSimpArgs false
open Go.Proofs.Ytjngkfepppejeaa
def ok33 (x : S33) : Prop := (x.f0.length ≤ maxLen ∧ x.f0.length * 8 ≤ 140737488351232 ∧ ∀ x_ ∈ x.f0, (Lit.int .i64 x_).wf = true) ∧ ((Lit.int .i64 x.f1).wf = true)
theorem opens33 : Opens.Opens Try.prog k33 33 ok33 := Opens.Opens.imp (Opens.Opens.struct (f := fun (x : S33) => (x.f0, x.f1)) (fun (a_ : (List Int) × Int) => (⟨a_.1, a_.2⟩ : S33)) (fun _ => rfl) Try.underlying33 (by kernel_rfl) (Opens.OpensFs.cons (B := (fun (v_ : List Int) => v_.length ≤ maxLen ∧ v_.length * 8 ≤ 140737488351232 ∧ ∀ x_ ∈ v_, (Lit.int .i64 x_).wf = true)) rfl (by kernel_rfl) (Opens.Opens.slice 8 Try.underlying31 (by kernel_rfl) (by kernel_rfl) (Opens.Opens.int Try.underlying3)) (Opens.OpensFs.one (B := (fun (v_ : Int) => (Lit.int .i64 v_).wf = true)) rfl (by kernel_rfl) (Opens.Opens.int Try.underlying3)))) (fun _ h_ => h_)
end Go.Proofs.Ytjngkfepppejeaa.P
end
