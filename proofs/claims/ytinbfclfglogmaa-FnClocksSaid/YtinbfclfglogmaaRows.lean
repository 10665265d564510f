/-
  No cell of these rows narrows 'for every input' (looked for: loops, veiled, ifaces, maps, wideKeys, modest, calm, conditions, laid).
  DERIVED. THE GIVEN ROWS OF THIS SEAT. 10 by the template 'for every input the law returns true; each argument reads behind the call as it read before'; 0 by the template 'total and deterministic' (their statements: YtinbfclfglogmaaTotals.lean).
  GIVEN WITH THE SEED: the statements are not yours to turn. If you find one false, say at which input.
  Laid BY PROGRAM, IN A SANDBOX (cutbox-rows.mjs): the forced cells as the released guide's own fill.sh prints them over the translation 07bd4de768953676… (all of the seat's roots in one cut). By AI agents, Wed Nov 11 2026. No macro, syntax, notation, axiom, sorry.
-/
import Derived.Test.YtinbfclfglogmaaChecked
import GoSem.Claim
import GoSem.ClaimJoined
import GoSem.ClaimMapViews
import Derived.JoinedTies
import Derived.KernelRfl
namespace Go.Proofs.Ytinbfclfglogmaa
/- THE CELL 'sum', in the pinned program and in every row, IS THE sha256 OF THE DUMP (.gsa) THAT YtinbfclfglogmaaProg.lean LOADS. Nothing in Lean hashes anything: it is a label: what it is worth is what the hold of that sum in a sandbox is worth. -/
noncomputable def Try.pinned : Pinned := { name := "ytinbfclfglogmaa", sum := "07bd4de768953676db4340b9373ea73a0f6a2202f5a2b704e71b0fc871d6e066", checked := Try.checked }
namespace Rows
def none {H : Type} : Left H := { results := [], args := [] }

/-- 'laws.FnExactJoinClocks': WHATEVER THE INPUT: true; the input reads as it did. -/
def fnExactJoinClocksSpec : ChangeSpec := { name := "fnExactJoinClocks", fn := fun _ => fun
  | [d1, d2] => { results := [.lit (.bool true)], args := [d1, d2] }
  | _ => none }
def fnExactJoinClocksRow : OpenClaim := { program := "ytinbfclfglogmaa", sum := "07bd4de768953676db4340b9373ea73a0f6a2202f5a2b704e71b0fc871d6e066", func := "loop.example/g00361/laws.FnExactJoinClocks", spec := "fnExactJoinClocks", apart := false }
def FnExactJoinClocksSaid : Prop := fnExactJoinClocksRow.holds Try.pinned (OpenSpec.ofChange fnExactJoinClocksSpec)

/-- ITS FALSE NEIGHBOUR: 'it returns false'. Refute it at one input. -/
def fnExactJoinClocksWrong : ChangeSpec := { name := "fnExactJoinClocks", fn := fun _ => fun
  | [d1, d2] => { results := [.lit (.bool false)], args := [d1, d2] }
  | _ => none }
def FnExactJoinClocksWrongFalsely : Prop := fnExactJoinClocksRow.holds Try.pinned (OpenSpec.ofChange fnExactJoinClocksWrong)

/-- 'laws.FnExactCompareClocks': WHATEVER THE INPUT: true; the input reads as it did. -/
def fnExactCompareClocksSpec : ChangeSpec := { name := "fnExactCompareClocks", fn := fun _ => fun
  | [d1, d2] => { results := [.lit (.bool true)], args := [d1, d2] }
  | _ => none }
def fnExactCompareClocksRow : OpenClaim := { program := "ytinbfclfglogmaa", sum := "07bd4de768953676db4340b9373ea73a0f6a2202f5a2b704e71b0fc871d6e066", func := "loop.example/g00361/laws.FnExactCompareClocks", spec := "fnExactCompareClocks", apart := false }
def FnExactCompareClocksSaid : Prop := fnExactCompareClocksRow.holds Try.pinned (OpenSpec.ofChange fnExactCompareClocksSpec)

/-- ITS FALSE NEIGHBOUR: 'it returns false'. Refute it at one input. -/
def fnExactCompareClocksWrong : ChangeSpec := { name := "fnExactCompareClocks", fn := fun _ => fun
  | [d1, d2] => { results := [.lit (.bool false)], args := [d1, d2] }
  | _ => none }
def FnExactCompareClocksWrongFalsely : Prop := fnExactCompareClocksRow.holds Try.pinned (OpenSpec.ofChange fnExactCompareClocksWrong)

/-- 'laws.FnExactGoodEvents': WHATEVER THE INPUT: true; the input reads as it did. -/
def fnExactGoodEventsSpec : ChangeSpec := { name := "fnExactGoodEvents", fn := fun _ => fun
  | [d1, d2] => { results := [.lit (.bool true)], args := [d1, d2] }
  | _ => none }
def fnExactGoodEventsRow : OpenClaim := { program := "ytinbfclfglogmaa", sum := "07bd4de768953676db4340b9373ea73a0f6a2202f5a2b704e71b0fc871d6e066", func := "loop.example/g00361/laws.FnExactGoodEvents", spec := "fnExactGoodEvents", apart := false }
def FnExactGoodEventsSaid : Prop := fnExactGoodEventsRow.holds Try.pinned (OpenSpec.ofChange fnExactGoodEventsSpec)

/-- ITS FALSE NEIGHBOUR: 'it returns false'. Refute it at one input. -/
def fnExactGoodEventsWrong : ChangeSpec := { name := "fnExactGoodEvents", fn := fun _ => fun
  | [d1, d2] => { results := [.lit (.bool false)], args := [d1, d2] }
  | _ => none }
def FnExactGoodEventsWrongFalsely : Prop := fnExactGoodEventsRow.holds Try.pinned (OpenSpec.ofChange fnExactGoodEventsWrong)

/-- 'laws.FnExactScalarClocks': WHATEVER THE INPUT: true; the input reads as it did. -/
def fnExactScalarClocksSpec : ChangeSpec := { name := "fnExactScalarClocks", fn := fun _ => fun
  | [d1, d2] => { results := [.lit (.bool true)], args := [d1, d2] }
  | _ => none }
def fnExactScalarClocksRow : OpenClaim := { program := "ytinbfclfglogmaa", sum := "07bd4de768953676db4340b9373ea73a0f6a2202f5a2b704e71b0fc871d6e066", func := "loop.example/g00361/laws.FnExactScalarClocks", spec := "fnExactScalarClocks", apart := false }
def FnExactScalarClocksSaid : Prop := fnExactScalarClocksRow.holds Try.pinned (OpenSpec.ofChange fnExactScalarClocksSpec)

/-- ITS FALSE NEIGHBOUR: 'it returns false'. Refute it at one input. -/
def fnExactScalarClocksWrong : ChangeSpec := { name := "fnExactScalarClocks", fn := fun _ => fun
  | [d1, d2] => { results := [.lit (.bool false)], args := [d1, d2] }
  | _ => none }
def FnExactScalarClocksWrongFalsely : Prop := fnExactScalarClocksRow.holds Try.pinned (OpenSpec.ofChange fnExactScalarClocksWrong)

/-- 'laws.FnExactHappensBefore': WHATEVER THE INPUT: true; the input reads as it did. -/
def fnExactHappensBeforeSpec : ChangeSpec := { name := "fnExactHappensBefore", fn := fun _ => fun
  | [d1, d2, d3, d4] => { results := [.lit (.bool true)], args := [d1, d2, d3, d4] }
  | _ => none }
def fnExactHappensBeforeRow : OpenClaim := { program := "ytinbfclfglogmaa", sum := "07bd4de768953676db4340b9373ea73a0f6a2202f5a2b704e71b0fc871d6e066", func := "loop.example/g00361/laws.FnExactHappensBefore", spec := "fnExactHappensBefore", apart := false }
def FnExactHappensBeforeSaid : Prop := fnExactHappensBeforeRow.holds Try.pinned (OpenSpec.ofChange fnExactHappensBeforeSpec)

/-- ITS FALSE NEIGHBOUR: 'it returns false'. Refute it at one input. -/
def fnExactHappensBeforeWrong : ChangeSpec := { name := "fnExactHappensBefore", fn := fun _ => fun
  | [d1, d2, d3, d4] => { results := [.lit (.bool false)], args := [d1, d2, d3, d4] }
  | _ => none }
def FnExactHappensBeforeWrongFalsely : Prop := fnExactHappensBeforeRow.holds Try.pinned (OpenSpec.ofChange fnExactHappensBeforeWrong)

/-- 'laws.FnExactConcurrent': WHATEVER THE INPUT: true; the input reads as it did. -/
def fnExactConcurrentSpec : ChangeSpec := { name := "fnExactConcurrent", fn := fun _ => fun
  | [d1, d2] => { results := [.lit (.bool true)], args := [d1, d2] }
  | _ => none }
def fnExactConcurrentRow : OpenClaim := { program := "ytinbfclfglogmaa", sum := "07bd4de768953676db4340b9373ea73a0f6a2202f5a2b704e71b0fc871d6e066", func := "loop.example/g00361/laws.FnExactConcurrent", spec := "fnExactConcurrent", apart := false }
def FnExactConcurrentSaid : Prop := fnExactConcurrentRow.holds Try.pinned (OpenSpec.ofChange fnExactConcurrentSpec)

/-- ITS FALSE NEIGHBOUR: 'it returns false'. Refute it at one input. -/
def fnExactConcurrentWrong : ChangeSpec := { name := "fnExactConcurrent", fn := fun _ => fun
  | [d1, d2] => { results := [.lit (.bool false)], args := [d1, d2] }
  | _ => none }
def FnExactConcurrentWrongFalsely : Prop := fnExactConcurrentRow.holds Try.pinned (OpenSpec.ofChange fnExactConcurrentWrong)

/-- 'laws.FnExactCausalPast': WHATEVER THE INPUT: true; the input reads as it did. -/
def fnExactCausalPastSpec : ChangeSpec := { name := "fnExactCausalPast", fn := fun _ => fun
  | [d1, d2, d3] => { results := [.lit (.bool true)], args := [d1, d2, d3] }
  | _ => none }
def fnExactCausalPastRow : OpenClaim := { program := "ytinbfclfglogmaa", sum := "07bd4de768953676db4340b9373ea73a0f6a2202f5a2b704e71b0fc871d6e066", func := "loop.example/g00361/laws.FnExactCausalPast", spec := "fnExactCausalPast", apart := false }
def FnExactCausalPastSaid : Prop := fnExactCausalPastRow.holds Try.pinned (OpenSpec.ofChange fnExactCausalPastSpec)

/-- ITS FALSE NEIGHBOUR: 'it returns false'. Refute it at one input. -/
def fnExactCausalPastWrong : ChangeSpec := { name := "fnExactCausalPast", fn := fun _ => fun
  | [d1, d2, d3] => { results := [.lit (.bool false)], args := [d1, d2, d3] }
  | _ => none }
def FnExactCausalPastWrongFalsely : Prop := fnExactCausalPastRow.holds Try.pinned (OpenSpec.ofChange fnExactCausalPastWrong)

/-- 'laws.FnExactVectorClocks': WHATEVER THE INPUT: true; the input reads as it did. -/
def fnExactVectorClocksSpec : ChangeSpec := { name := "fnExactVectorClocks", fn := fun _ => fun
  | [d1, d2] => { results := [.lit (.bool true)], args := [d1, d2] }
  | _ => none }
def fnExactVectorClocksRow : OpenClaim := { program := "ytinbfclfglogmaa", sum := "07bd4de768953676db4340b9373ea73a0f6a2202f5a2b704e71b0fc871d6e066", func := "loop.example/g00361/laws.FnExactVectorClocks", spec := "fnExactVectorClocks", apart := false }
def FnExactVectorClocksSaid : Prop := fnExactVectorClocksRow.holds Try.pinned (OpenSpec.ofChange fnExactVectorClocksSpec)

/-- ITS FALSE NEIGHBOUR: 'it returns false'. Refute it at one input. -/
def fnExactVectorClocksWrong : ChangeSpec := { name := "fnExactVectorClocks", fn := fun _ => fun
  | [d1, d2] => { results := [.lit (.bool false)], args := [d1, d2] }
  | _ => none }
def FnExactVectorClocksWrongFalsely : Prop := fnExactVectorClocksRow.holds Try.pinned (OpenSpec.ofChange fnExactVectorClocksWrong)

/-- 'laws.FnPasts': WHATEVER THE INPUT: true; the input reads as it did. -/
def fnPastsSpec : ChangeSpec := { name := "fnPasts", fn := fun _ => fun
  | [d1, d2] => { results := [.lit (.bool true)], args := [d1, d2] }
  | _ => none }
def fnPastsRow : OpenClaim := { program := "ytinbfclfglogmaa", sum := "07bd4de768953676db4340b9373ea73a0f6a2202f5a2b704e71b0fc871d6e066", func := "loop.example/g00361/laws.FnPasts", spec := "fnPasts", apart := false }
def FnPastsSaid : Prop := fnPastsRow.holds Try.pinned (OpenSpec.ofChange fnPastsSpec)

/-- ITS FALSE NEIGHBOUR: 'it returns false'. Refute it at one input. -/
def fnPastsWrong : ChangeSpec := { name := "fnPasts", fn := fun _ => fun
  | [d1, d2] => { results := [.lit (.bool false)], args := [d1, d2] }
  | _ => none }
def FnPastsWrongFalsely : Prop := fnPastsRow.holds Try.pinned (OpenSpec.ofChange fnPastsWrong)

/-- 'laws.FnClocks': WHATEVER THE INPUT: true; the input reads as it did. -/
def fnClocksSpec : ChangeSpec := { name := "fnClocks", fn := fun _ => fun
  | [d1, d2] => { results := [.lit (.bool true)], args := [d1, d2] }
  | _ => none }
def fnClocksRow : OpenClaim := { program := "ytinbfclfglogmaa", sum := "07bd4de768953676db4340b9373ea73a0f6a2202f5a2b704e71b0fc871d6e066", func := "loop.example/g00361/laws.FnClocks", spec := "fnClocks", apart := false }
def FnClocksSaid : Prop := fnClocksRow.holds Try.pinned (OpenSpec.ofChange fnClocksSpec)

/-- ITS FALSE NEIGHBOUR: 'it returns false'. Refute it at one input. -/
def fnClocksWrong : ChangeSpec := { name := "fnClocks", fn := fun _ => fun
  | [d1, d2] => { results := [.lit (.bool false)], args := [d1, d2] }
  | _ => none }
def FnClocksWrongFalsely : Prop := fnClocksRow.holds Try.pinned (OpenSpec.ofChange fnClocksWrong)

/- THE SECOND FORM. 'bulk': how many values and letters a reading holds, each counted each time it is reached (what is shared counts as often as it is met; a slice's spare places count too). A statement '..UptoSaid' is the law's where the arguments, and the package variables that the reading takes, are together of bulk at most 1048576: NARROWER than '..Said'. Prove '..Said' where nothing that the law and all that it calls make is longer than what came in: it says more and counts as full. Else prove '..UptoSaid'. A law counts once. -/
mutual
def uptoBulk {H : Type} : DataW H → Nat
  | .lit (.string bytes) => bytes.length + 1
  | .lit _ => 1
  | .nil => 1
  | .ptr d => uptoBulk d + 1
  | .slice elems spare => uptoBulkAll elems + uptoBulkAll spare + 1
  | .agg parts => uptoBulkAll parts + 1
  | .iface _ d => uptoBulk d + 1
  | .map entries => uptoBulkEntries entries + 1
  | .held _ => 1
def uptoBulkAll {H : Type} : List (DataW H) → Nat
  | [] => 0
  | d :: r => uptoBulk d + uptoBulkAll r
def uptoBulkEntries {H : Type} : List (Lit × DataW H) → Nat
  | [] => 0
  | x :: r => uptoBulkEntry x + uptoBulkEntries r
def uptoBulkEntry {H : Type} : Lit × DataW H → Nat
  | (.string bytes, d) => bytes.length + uptoBulk d + 1
  | (_, d) => uptoBulk d + 1
 end
def uptoSmall : (H : Type) → List (DataW H) → Bool := fun _ ds => decide (uptoBulkAll ds ≤ 1048576)
def OpenSpec.upto (s : _root_.Go.ChangeSpec) : _root_.Go.OpenSpec := { _root_.Go.OpenSpec.ofChange s with cond := some uptoSmall }

/-- 'laws.FnExactJoinClocks', WHERE WHAT IT READS IS OF BULK AT MOST 1048576: true; the input reads as it did. -/
def fnExactJoinClocksUptoRow : OpenClaim := { program := "ytinbfclfglogmaa", sum := "07bd4de768953676db4340b9373ea73a0f6a2202f5a2b704e71b0fc871d6e066", func := "loop.example/g00361/laws.FnExactJoinClocks", spec := "fnExactJoinClocks", apart := false, narrowed := true }
def FnExactJoinClocksUptoSaid : Prop := fnExactJoinClocksUptoRow.holds Try.pinned (OpenSpec.upto fnExactJoinClocksSpec)

/-- 'laws.FnExactCompareClocks', WHERE WHAT IT READS IS OF BULK AT MOST 1048576: true; the input reads as it did. -/
def fnExactCompareClocksUptoRow : OpenClaim := { program := "ytinbfclfglogmaa", sum := "07bd4de768953676db4340b9373ea73a0f6a2202f5a2b704e71b0fc871d6e066", func := "loop.example/g00361/laws.FnExactCompareClocks", spec := "fnExactCompareClocks", apart := false, narrowed := true }
def FnExactCompareClocksUptoSaid : Prop := fnExactCompareClocksUptoRow.holds Try.pinned (OpenSpec.upto fnExactCompareClocksSpec)

/-- 'laws.FnExactGoodEvents', WHERE WHAT IT READS IS OF BULK AT MOST 1048576: true; the input reads as it did. -/
def fnExactGoodEventsUptoRow : OpenClaim := { program := "ytinbfclfglogmaa", sum := "07bd4de768953676db4340b9373ea73a0f6a2202f5a2b704e71b0fc871d6e066", func := "loop.example/g00361/laws.FnExactGoodEvents", spec := "fnExactGoodEvents", apart := false, narrowed := true }
def FnExactGoodEventsUptoSaid : Prop := fnExactGoodEventsUptoRow.holds Try.pinned (OpenSpec.upto fnExactGoodEventsSpec)

/-- 'laws.FnExactScalarClocks', WHERE WHAT IT READS IS OF BULK AT MOST 1048576: true; the input reads as it did. -/
def fnExactScalarClocksUptoRow : OpenClaim := { program := "ytinbfclfglogmaa", sum := "07bd4de768953676db4340b9373ea73a0f6a2202f5a2b704e71b0fc871d6e066", func := "loop.example/g00361/laws.FnExactScalarClocks", spec := "fnExactScalarClocks", apart := false, narrowed := true }
def FnExactScalarClocksUptoSaid : Prop := fnExactScalarClocksUptoRow.holds Try.pinned (OpenSpec.upto fnExactScalarClocksSpec)

/-- 'laws.FnExactHappensBefore', WHERE WHAT IT READS IS OF BULK AT MOST 1048576: true; the input reads as it did. -/
def fnExactHappensBeforeUptoRow : OpenClaim := { program := "ytinbfclfglogmaa", sum := "07bd4de768953676db4340b9373ea73a0f6a2202f5a2b704e71b0fc871d6e066", func := "loop.example/g00361/laws.FnExactHappensBefore", spec := "fnExactHappensBefore", apart := false, narrowed := true }
def FnExactHappensBeforeUptoSaid : Prop := fnExactHappensBeforeUptoRow.holds Try.pinned (OpenSpec.upto fnExactHappensBeforeSpec)

/-- 'laws.FnExactConcurrent', WHERE WHAT IT READS IS OF BULK AT MOST 1048576: true; the input reads as it did. -/
def fnExactConcurrentUptoRow : OpenClaim := { program := "ytinbfclfglogmaa", sum := "07bd4de768953676db4340b9373ea73a0f6a2202f5a2b704e71b0fc871d6e066", func := "loop.example/g00361/laws.FnExactConcurrent", spec := "fnExactConcurrent", apart := false, narrowed := true }
def FnExactConcurrentUptoSaid : Prop := fnExactConcurrentUptoRow.holds Try.pinned (OpenSpec.upto fnExactConcurrentSpec)

/-- 'laws.FnExactCausalPast', WHERE WHAT IT READS IS OF BULK AT MOST 1048576: true; the input reads as it did. -/
def fnExactCausalPastUptoRow : OpenClaim := { program := "ytinbfclfglogmaa", sum := "07bd4de768953676db4340b9373ea73a0f6a2202f5a2b704e71b0fc871d6e066", func := "loop.example/g00361/laws.FnExactCausalPast", spec := "fnExactCausalPast", apart := false, narrowed := true }
def FnExactCausalPastUptoSaid : Prop := fnExactCausalPastUptoRow.holds Try.pinned (OpenSpec.upto fnExactCausalPastSpec)

/-- 'laws.FnExactVectorClocks', WHERE WHAT IT READS IS OF BULK AT MOST 1048576: true; the input reads as it did. -/
def fnExactVectorClocksUptoRow : OpenClaim := { program := "ytinbfclfglogmaa", sum := "07bd4de768953676db4340b9373ea73a0f6a2202f5a2b704e71b0fc871d6e066", func := "loop.example/g00361/laws.FnExactVectorClocks", spec := "fnExactVectorClocks", apart := false, narrowed := true }
def FnExactVectorClocksUptoSaid : Prop := fnExactVectorClocksUptoRow.holds Try.pinned (OpenSpec.upto fnExactVectorClocksSpec)

/-- 'laws.FnPasts', WHERE WHAT IT READS IS OF BULK AT MOST 1048576: true; the input reads as it did. -/
def fnPastsUptoRow : OpenClaim := { program := "ytinbfclfglogmaa", sum := "07bd4de768953676db4340b9373ea73a0f6a2202f5a2b704e71b0fc871d6e066", func := "loop.example/g00361/laws.FnPasts", spec := "fnPasts", apart := false, narrowed := true }
def FnPastsUptoSaid : Prop := fnPastsUptoRow.holds Try.pinned (OpenSpec.upto fnPastsSpec)

/-- 'laws.FnClocks', WHERE WHAT IT READS IS OF BULK AT MOST 1048576: true; the input reads as it did. -/
def fnClocksUptoRow : OpenClaim := { program := "ytinbfclfglogmaa", sum := "07bd4de768953676db4340b9373ea73a0f6a2202f5a2b704e71b0fc871d6e066", func := "loop.example/g00361/laws.FnClocks", spec := "fnClocks", apart := false, narrowed := true }
def FnClocksUptoSaid : Prop := fnClocksUptoRow.holds Try.pinned (OpenSpec.upto fnClocksSpec)

end Rows
end Go.Proofs.Ytinbfclfglogmaa
