-- Written by a program of this session (wip/xp.py), out of the translation. Not trusted: Lean checks it.
import Derived.Test.YtgcliajajcinpaaPx0
import Derived.Test.YtgcliajajcinpaaOpens
namespace Go.Proofs.Ytgcliajajcinpaa.P
open Go.RowKit Go.Proofs.YtgcliajajcinpaaW.PrintWords Go.Proofs.YtgcliajajcinpaaW.PrintLast Go.Proofs.YtgcliajajcinpaaW.PrintMore
attribute [local go_sem] max2_int min2_int max_two min_two max_three min_three max_four min_four   -- for this text's walks alone
set_option linter.unusedVariables false
set_option linter.unusedSimpArgs false

open Go.Proofs.Ytgcliajajcinpaa
/-- What is known of a value of struct type 67 that came in. -/
def ok67 (x : S67) : Prop := (x.f0.length ≤ maxLen ∧ x.f0.length * 1 ≤ 140737488351232 ∧ ∀ x_ ∈ x.f0, (Lit.int .u8 x_).wf = true) ∧ ((Lit.int .i64 x.f1).wf = true) ∧ ((Lit.int .u64 x.f2).wf = true)
theorem opens67 : Opens.Opens Try.prog k67 67 ok67 := Opens.Opens.imp (Opens.Opens.struct (f := fun (x : S67) => (x.f0, x.f1, x.f2)) (fun (a_ : (List Int) × Int × Int) => (⟨a_.1, a_.2.1, a_.2.2⟩ : S67)) (fun _ => rfl) Try.underlying67 (by kernel_rfl) (Opens.OpensFs.cons (B := (fun (v_ : List Int) => v_.length ≤ maxLen ∧ v_.length * 1 ≤ 140737488351232 ∧ ∀ x_ ∈ v_, (Lit.int .u8 x_).wf = true)) rfl (by kernel_rfl) (Opens.Opens.slice 1 Try.underlying31 (by kernel_rfl) (by kernel_rfl) (Opens.Opens.int Try.underlying5)) (Opens.OpensFs.cons (B := (fun (v_ : Int) => (Lit.int .i64 v_).wf = true)) rfl (by kernel_rfl) (Opens.Opens.int Try.underlying3) (Opens.OpensFs.one (B := (fun (v_ : Int) => (Lit.int .u64 v_).wf = true)) rfl (by kernel_rfl) (Opens.Opens.int Try.underlying66))))) (fun _ h_ => h_)
/-- What is known of a value of struct type 68 that came in. -/
def ok68 (x : S68) : Prop := (x.f0.length ≤ maxLen ∧ x.f0.length * 1 ≤ 140737488351232 ∧ ∀ x_ ∈ x.f0, (Lit.int .u8 x_).wf = true) ∧ ((Lit.int .i64 x.f1).wf = true) ∧ ((Lit.int .u64 x.f2).wf = true)
theorem opens68 : Opens.Opens Try.prog k68 68 ok68 := Opens.Opens.imp (Opens.Opens.struct (f := fun (x : S68) => (x.f0, x.f1, x.f2)) (fun (a_ : (List Int) × Int × Int) => (⟨a_.1, a_.2.1, a_.2.2⟩ : S68)) (fun _ => rfl) Try.underlying68 (by kernel_rfl) (Opens.OpensFs.cons (B := (fun (v_ : List Int) => v_.length ≤ maxLen ∧ v_.length * 1 ≤ 140737488351232 ∧ ∀ x_ ∈ v_, (Lit.int .u8 x_).wf = true)) rfl (by kernel_rfl) (Opens.Opens.slice 1 Try.underlying31 (by kernel_rfl) (by kernel_rfl) (Opens.Opens.int Try.underlying5)) (Opens.OpensFs.cons (B := (fun (v_ : Int) => (Lit.int .i64 v_).wf = true)) rfl (by kernel_rfl) (Opens.Opens.int Try.underlying3) (Opens.OpensFs.one (B := (fun (v_ : Int) => (Lit.int .u64 v_).wf = true)) rfl (by kernel_rfl) (Opens.Opens.int Try.underlying66))))) (fun _ h_ => h_)
end Go.Proofs.Ytgcliajajcinpaa.P
