-- Written by programs of this session (wip/prune.py, wip/xp.py), out of the translation and the printed words; what the law does not reach is left out. Not trusted: Lean checks it.
import Derived.Test.YtomdjipejoafgaaZXLogsMatchPx0
import Derived.Test.YtomdjipejoafgaaZXLogsMatchO0
section
namespace Go.Proofs.Ytomdjipejoafgaa.P
open Go.RowKit Go.Proofs.YtomdjipejoafgaaW.PrintWords Go.Proofs.YtomdjipejoafgaaW.PrintLast Go.Proofs.YtomdjipejoafgaaW.PrintMore
attribute [local go_sem] max2_int min2_int max_two min_two max_three min_three max_four min_four   -- for this text's walks alone
set_option linter.unusedVariables false
set_option linter.unusedSimpArgs false
open Go.Proofs.Ytomdjipejoafgaa
def ok95 (x : S95) : Prop := ((Lit.int .i64 x.f0).wf = true) ∧ ((Lit.int .i64 x.f1).wf = true)
theorem opens95 : Opens.Opens Try.prog k95 95 ok95 := Opens.Opens.imp (Opens.Opens.struct (f := fun (x : S95) => (x.f0, x.f1)) (fun (a_ : Int × Int) => (⟨a_.1, a_.2⟩ : S95)) (fun _ => rfl) Try.underlying95 (by kernel_rfl) (Opens.OpensFs.cons (B := (fun (v_ : Int) => (Lit.int .i64 v_).wf = true)) rfl (by kernel_rfl) (Opens.Opens.int Try.underlying3) (Opens.OpensFs.one (B := (fun (v_ : Int) => (Lit.int .i64 v_).wf = true)) rfl (by kernel_rfl) (Opens.Opens.int Try.underlying3)))) (fun _ h_ => h_)
end Go.Proofs.Ytomdjipejoafgaa.P
end
