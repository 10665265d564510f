-- Written by programs of this session (wip/prune.py, wip/xp.py), out of the translation and the printed words; what the law does not reach is left out. Not trusted: Lean checks it.
import Derived.Test.YtinbfclfglogmaaZXVectorClocksPx0
import Derived.Test.YtinbfclfglogmaaZXVectorClocksO0
section
namespace Go.Proofs.Ytinbfclfglogmaa.P
open Go.RowKit Go.Proofs.YtinbfclfglogmaaW.PrintWords Go.Proofs.YtinbfclfglogmaaW.PrintLast Go.Proofs.YtinbfclfglogmaaW.PrintMore
attribute [local go_sem] max2_int min2_int max_two min_two max_three min_three max_four min_four   -- for this text's walks alone
set_option linter.unusedVariables false
set_option linter.unusedSimpArgs false
open Go.Proofs.Ytinbfclfglogmaa
def ok69 (x : S69) : Prop := ((Lit.int .i64 x.f0).wf = true) ∧ ((Lit.int .i64 x.f1).wf = true) ∧ ((Lit.int .i64 x.f2).wf = true)
theorem opens69 : Opens.Opens Try.prog k69 69 ok69 := Opens.Opens.imp (Opens.Opens.struct (f := fun (x : S69) => (x.f0, x.f1, x.f2)) (fun (a_ : Int × Int × Int) => (⟨a_.1, a_.2.1, a_.2.2⟩ : S69)) (fun _ => rfl) Try.underlying69 (by kernel_rfl) (Opens.OpensFs.cons (B := (fun (v_ : Int) => (Lit.int .i64 v_).wf = true)) rfl (by kernel_rfl) (Opens.Opens.int Try.underlying3) (Opens.OpensFs.cons (B := (fun (v_ : Int) => (Lit.int .i64 v_).wf = true)) rfl (by kernel_rfl) (Opens.Opens.int Try.underlying3) (Opens.OpensFs.one (B := (fun (v_ : Int) => (Lit.int .i64 v_).wf = true)) rfl (by kernel_rfl) (Opens.Opens.int Try.underlying3))))) (fun _ h_ => h_)
end Go.Proofs.Ytinbfclfglogmaa.P
end
