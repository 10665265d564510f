-- Written by a program of this session (wip/xp.py), out of the translation. Not trusted: Lean checks it.
import Derived.Test.YtinbfclfglogmaaPx0
import Derived.Test.YtinbfclfglogmaaOpens
namespace Go.Proofs.Ytinbfclfglogmaa.P
open Go.RowKit Go.Proofs.YtinbfclfglogmaaW.PrintWords Go.Proofs.YtinbfclfglogmaaW.PrintLast Go.Proofs.YtinbfclfglogmaaW.PrintMore
attribute [local go_sem] max2_int min2_int max_two min_two max_three min_three max_four min_four   -- for this text's walks alone
set_option linter.unusedVariables false
set_option linter.unusedSimpArgs false

open Go.Proofs.Ytinbfclfglogmaa
/-- What is known of a value of struct type 65 that came in. -/
def ok65 (x : S65) : Prop := ((Lit.int .i64 x.f0).wf = true) ∧ ((Lit.int .i64 x.f1).wf = true) ∧ ((Lit.int .i64 x.f2).wf = true)
theorem opens65 : Opens.Opens Try.prog k65 65 ok65 := Opens.Opens.imp (Opens.Opens.struct (f := fun (x : S65) => (x.f0, x.f1, x.f2)) (fun (a_ : Int × Int × Int) => (⟨a_.1, a_.2.1, a_.2.2⟩ : S65)) (fun _ => rfl) Try.underlying65 (by kernel_rfl) (Opens.OpensFs.cons (B := (fun (v_ : Int) => (Lit.int .i64 v_).wf = true)) rfl (by kernel_rfl) (Opens.Opens.int Try.underlying3) (Opens.OpensFs.cons (B := (fun (v_ : Int) => (Lit.int .i64 v_).wf = true)) rfl (by kernel_rfl) (Opens.Opens.int Try.underlying3) (Opens.OpensFs.one (B := (fun (v_ : Int) => (Lit.int .i64 v_).wf = true)) rfl (by kernel_rfl) (Opens.Opens.int Try.underlying3))))) (fun _ h_ => h_)
/-- What is known of a value of struct type 69 that came in. -/
def ok69 (x : S69) : Prop := ((Lit.int .i64 x.f0).wf = true) ∧ ((Lit.int .i64 x.f1).wf = true) ∧ ((Lit.int .i64 x.f2).wf = true)
theorem opens69 : Opens.Opens Try.prog k69 69 ok69 := Opens.Opens.imp (Opens.Opens.struct (f := fun (x : S69) => (x.f0, x.f1, x.f2)) (fun (a_ : Int × Int × Int) => (⟨a_.1, a_.2.1, a_.2.2⟩ : S69)) (fun _ => rfl) Try.underlying69 (by kernel_rfl) (Opens.OpensFs.cons (B := (fun (v_ : Int) => (Lit.int .i64 v_).wf = true)) rfl (by kernel_rfl) (Opens.Opens.int Try.underlying3) (Opens.OpensFs.cons (B := (fun (v_ : Int) => (Lit.int .i64 v_).wf = true)) rfl (by kernel_rfl) (Opens.Opens.int Try.underlying3) (Opens.OpensFs.one (B := (fun (v_ : Int) => (Lit.int .i64 v_).wf = true)) rfl (by kernel_rfl) (Opens.Opens.int Try.underlying3))))) (fun _ h_ => h_)
/-- What is known of a value of struct type 78 that came in. -/
def ok78 (x : S78) : Prop := (x.f0.length ≤ maxLen ∧ x.f0.length * 1 ≤ 140737488351232 ∧ ∀ x_ ∈ x.f0, (Lit.int .u8 x_).wf = true) ∧ ((Lit.int .i64 x.f1).wf = true) ∧ ((Lit.int .u64 x.f2).wf = true)
theorem opens78 : Opens.Opens Try.prog k78 78 ok78 := Opens.Opens.imp (Opens.Opens.struct (f := fun (x : S78) => (x.f0, x.f1, x.f2)) (fun (a_ : (List Int) × Int × Int) => (⟨a_.1, a_.2.1, a_.2.2⟩ : S78)) (fun _ => rfl) Try.underlying78 (by kernel_rfl) (Opens.OpensFs.cons (B := (fun (v_ : List Int) => v_.length ≤ maxLen ∧ v_.length * 1 ≤ 140737488351232 ∧ ∀ x_ ∈ v_, (Lit.int .u8 x_).wf = true)) rfl (by kernel_rfl) (Opens.Opens.slice 1 Try.underlying50 (by kernel_rfl) (by kernel_rfl) (Opens.Opens.int Try.underlying5)) (Opens.OpensFs.cons (B := (fun (v_ : Int) => (Lit.int .i64 v_).wf = true)) rfl (by kernel_rfl) (Opens.Opens.int Try.underlying3) (Opens.OpensFs.one (B := (fun (v_ : Int) => (Lit.int .u64 v_).wf = true)) rfl (by kernel_rfl) (Opens.Opens.int Try.underlying77))))) (fun _ h_ => h_)
/-- What is known of a value of struct type 79 that came in. -/
def ok79 (x : S79) : Prop := (x.f0.length ≤ maxLen ∧ x.f0.length * 1 ≤ 140737488351232 ∧ ∀ x_ ∈ x.f0, (Lit.int .u8 x_).wf = true) ∧ ((Lit.int .i64 x.f1).wf = true) ∧ ((Lit.int .u64 x.f2).wf = true)
theorem opens79 : Opens.Opens Try.prog k79 79 ok79 := Opens.Opens.imp (Opens.Opens.struct (f := fun (x : S79) => (x.f0, x.f1, x.f2)) (fun (a_ : (List Int) × Int × Int) => (⟨a_.1, a_.2.1, a_.2.2⟩ : S79)) (fun _ => rfl) Try.underlying79 (by kernel_rfl) (Opens.OpensFs.cons (B := (fun (v_ : List Int) => v_.length ≤ maxLen ∧ v_.length * 1 ≤ 140737488351232 ∧ ∀ x_ ∈ v_, (Lit.int .u8 x_).wf = true)) rfl (by kernel_rfl) (Opens.Opens.slice 1 Try.underlying50 (by kernel_rfl) (by kernel_rfl) (Opens.Opens.int Try.underlying5)) (Opens.OpensFs.cons (B := (fun (v_ : Int) => (Lit.int .i64 v_).wf = true)) rfl (by kernel_rfl) (Opens.Opens.int Try.underlying3) (Opens.OpensFs.one (B := (fun (v_ : Int) => (Lit.int .u64 v_).wf = true)) rfl (by kernel_rfl) (Opens.Opens.int Try.underlying77))))) (fun _ h_ => h_)
end Go.Proofs.Ytinbfclfglogmaa.P
