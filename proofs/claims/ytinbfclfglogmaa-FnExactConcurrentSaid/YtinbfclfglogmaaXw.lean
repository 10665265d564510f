/- Steps of a walk that the kit's words lack: a call of a function value that is known. -/
import Derived.Test.YtinbfclfglogmaaWWords
import Derived.Test.YtinbfclfglogmaaWLast
namespace Go.Proofs.Ytinbfclfglogmaa.P
open Go.RowKit Go.Proofs.YtinbfclfglogmaaW.PrintWords Go.Proofs.YtinbfclfglogmaaW.PrintLast
section
variable {P : Program} {ops : Array Oper} {Q : Exit → Act → World → Prop}
/-- A call of a function value, as one step of a region that draws. -/
theorem goesV_ {oi : Oper} {N : Option Tmp} {a : Act} {w : World} {K : Act → World → Prop} {f : FuncId} {fn : Func} {as : Array Operand} {ts : Array TypeId} {cv : Operand} {cs : Array Value} (hf : P.funcs[f]? = some fn) (hname : (fn.name == "runtime.NumGoroutine") = false) (hb : fn.body.isSome = true) (xs args : Array Value)
    (hw : Region.wanted oi (yielded ops a.tmps) = true) (hN : oi.dst = N) (hop : oi.op = .call { callee := .value cv, args := as, argTypes := ts }) (hcv : a.eval cv = .func (.func f) #[] cs) (hargs : as.map a.eval = xs) (hall : #[] ++ xs ++ cs = args)
    (h : Calls P f args w fun e w' => ∃ v, e = .returned v ∧ K (a.put N v) w') : if Region.wanted oi (yielded ops a.tmps) = true then Oper.wp P oi a w K Q else K (a.put N undef) w := by
  refine call_ f args hw hN ?_ h
  have he := enters_ hf hname hb args w
  rw [← hall] at he ⊢
  unfold execOp
  simp [hop, resolve, Deferred.ofValue, invoke, hcv, hargs]
  simpa using he
end
end Go.Proofs.Ytinbfclfglogmaa.P
