/-
  No cell of these rows narrows 'for every input' (looked for: loops, veiled, ifaces, maps, wideKeys, modest, calm, conditions, laid).
  DERIVED. THE GIVEN ROWS OF THIS SEAT. 7 by the template 'for every input the law returns true; each argument reads behind the call as it read before'; 0 by the template 'total and deterministic' (their statements: YtjngkfepppejeaaTotals.lean).
  GIVEN WITH THE SEED: the statements are not yours to turn. If you find one false, say at which input.
  Laid BY PROGRAM, IN A SANDBOX (cutbox-rows.mjs): the forced cells as the released guide's own fill.sh prints them over the translation 585a2e207ecf08b9… (all of the seat's roots in one cut). By AI agents, Wed Nov 11 2026. No macro, syntax, notation, axiom, sorry.
-/
import Derived.Test.YtjngkfepppejeaaChecked
import GoSem.Claim
import GoSem.ClaimJoined
import GoSem.ClaimMapViews
import Derived.JoinedTies
import Derived.KernelRfl
namespace Go.Proofs.Ytjngkfepppejeaa
/- THE CELL 'sum', in the pinned program and in every row, IS THE sha256 OF THE DUMP (.gsa) THAT YtjngkfepppejeaaProg.lean LOADS. Nothing in Lean hashes anything: it is a label: what it is worth is what the hold of that sum in a sandbox is worth. -/
noncomputable def Try.pinned : Pinned := { name := "ytjngkfepppejeaa", sum := "585a2e207ecf08b90f1dd93a6fe64806f3afe4cc1b86c653bb02f5c965567df2", checked := Try.checked }
namespace Rows
def none {H : Type} : Left H := { results := [], args := [] }

/-- 'laws.FnExactGoodCalls': WHATEVER THE INPUT: true; the input reads as it did. -/
def fnExactGoodCallsSpec : ChangeSpec := { name := "fnExactGoodCalls", fn := fun _ => fun
  | [d] => { results := [.lit (.bool true)], args := [d] }
  | _ => none }
def fnExactGoodCallsRow : OpenClaim := { program := "ytjngkfepppejeaa", sum := "585a2e207ecf08b90f1dd93a6fe64806f3afe4cc1b86c653bb02f5c965567df2", func := "loop.example/g00361/laws.FnExactGoodCalls", spec := "fnExactGoodCalls", apart := false }
def FnExactGoodCallsSaid : Prop := fnExactGoodCallsRow.holds Try.pinned (OpenSpec.ofChange fnExactGoodCallsSpec)

/-- ITS FALSE NEIGHBOUR: 'it returns false'. Refute it at one input. -/
def fnExactGoodCallsWrong : ChangeSpec := { name := "fnExactGoodCalls", fn := fun _ => fun
  | [d] => { results := [.lit (.bool false)], args := [d] }
  | _ => none }
def FnExactGoodCallsWrongFalsely : Prop := fnExactGoodCallsRow.holds Try.pinned (OpenSpec.ofChange fnExactGoodCallsWrong)

/-- 'laws.FnExactOverlapsIn': WHATEVER THE INPUT: true; the input reads as it did. -/
def fnExactOverlapsInSpec : ChangeSpec := { name := "fnExactOverlapsIn", fn := fun _ => fun
  | [d] => { results := [.lit (.bool true)], args := [d] }
  | _ => none }
def fnExactOverlapsInRow : OpenClaim := { program := "ytjngkfepppejeaa", sum := "585a2e207ecf08b90f1dd93a6fe64806f3afe4cc1b86c653bb02f5c965567df2", func := "loop.example/g00361/laws.FnExactOverlapsIn", spec := "fnExactOverlapsIn", apart := false }
def FnExactOverlapsInSaid : Prop := fnExactOverlapsInRow.holds Try.pinned (OpenSpec.ofChange fnExactOverlapsInSpec)

/-- ITS FALSE NEIGHBOUR: 'it returns false'. Refute it at one input. -/
def fnExactOverlapsInWrong : ChangeSpec := { name := "fnExactOverlapsIn", fn := fun _ => fun
  | [d] => { results := [.lit (.bool false)], args := [d] }
  | _ => none }
def FnExactOverlapsInWrongFalsely : Prop := fnExactOverlapsInRow.holds Try.pinned (OpenSpec.ofChange fnExactOverlapsInWrong)

/-- 'laws.FnExactLeastQuorums': WHATEVER THE INPUT: true; the input reads as it did. -/
def fnExactLeastQuorumsSpec : ChangeSpec := { name := "fnExactLeastQuorums", fn := fun _ => fun
  | [d] => { results := [.lit (.bool true)], args := [d] }
  | _ => none }
def fnExactLeastQuorumsRow : OpenClaim := { program := "ytjngkfepppejeaa", sum := "585a2e207ecf08b90f1dd93a6fe64806f3afe4cc1b86c653bb02f5c965567df2", func := "loop.example/g00361/laws.FnExactLeastQuorums", spec := "fnExactLeastQuorums", unfollowed := true, recurses := true, apart := false }
def FnExactLeastQuorumsSaid : Prop := fnExactLeastQuorumsRow.holds Try.pinned (OpenSpec.ofChange fnExactLeastQuorumsSpec)

/-- ITS FALSE NEIGHBOUR: 'it returns false'. Refute it at one input. -/
def fnExactLeastQuorumsWrong : ChangeSpec := { name := "fnExactLeastQuorums", fn := fun _ => fun
  | [d] => { results := [.lit (.bool false)], args := [d] }
  | _ => none }
def FnExactLeastQuorumsWrongFalsely : Prop := fnExactLeastQuorumsRow.holds Try.pinned (OpenSpec.ofChange fnExactLeastQuorumsWrong)

/-- 'laws.FnExactDominates': WHATEVER THE INPUT: true; the input reads as it did. -/
def fnExactDominatesSpec : ChangeSpec := { name := "fnExactDominates", fn := fun _ => fun
  | [d1, d2] => { results := [.lit (.bool true)], args := [d1, d2] }
  | _ => none }
def fnExactDominatesRow : OpenClaim := { program := "ytjngkfepppejeaa", sum := "585a2e207ecf08b90f1dd93a6fe64806f3afe4cc1b86c653bb02f5c965567df2", func := "loop.example/g00361/laws.FnExactDominates", spec := "fnExactDominates", unfollowed := true, recurses := true, apart := false }
def FnExactDominatesSaid : Prop := fnExactDominatesRow.holds Try.pinned (OpenSpec.ofChange fnExactDominatesSpec)

/-- ITS FALSE NEIGHBOUR: 'it returns false'. Refute it at one input. -/
def fnExactDominatesWrong : ChangeSpec := { name := "fnExactDominates", fn := fun _ => fun
  | [d1, d2] => { results := [.lit (.bool false)], args := [d1, d2] }
  | _ => none }
def FnExactDominatesWrongFalsely : Prop := fnExactDominatesRow.holds Try.pinned (OpenSpec.ofChange fnExactDominatesWrong)

/-- 'laws.FnExactBlocksOf': WHATEVER THE INPUT: true; the input reads as it did. -/
def fnExactBlocksOfSpec : ChangeSpec := { name := "fnExactBlocksOf", fn := fun _ => fun
  | [d1, d2] => { results := [.lit (.bool true)], args := [d1, d2] }
  | _ => none }
def fnExactBlocksOfRow : OpenClaim := { program := "ytjngkfepppejeaa", sum := "585a2e207ecf08b90f1dd93a6fe64806f3afe4cc1b86c653bb02f5c965567df2", func := "loop.example/g00361/laws.FnExactBlocksOf", spec := "fnExactBlocksOf", unfollowed := true, recurses := true, apart := false }
def FnExactBlocksOfSaid : Prop := fnExactBlocksOfRow.holds Try.pinned (OpenSpec.ofChange fnExactBlocksOfSpec)

/-- ITS FALSE NEIGHBOUR: 'it returns false'. Refute it at one input. -/
def fnExactBlocksOfWrong : ChangeSpec := { name := "fnExactBlocksOf", fn := fun _ => fun
  | [d1, d2] => { results := [.lit (.bool false)], args := [d1, d2] }
  | _ => none }
def FnExactBlocksOfWrongFalsely : Prop := fnExactBlocksOfRow.holds Try.pinned (OpenSpec.ofChange fnExactBlocksOfWrong)

/-- 'laws.FnQuorums': WHATEVER THE INPUT: true; the input reads as it did. -/
def fnQuorumsSpec : ChangeSpec := { name := "fnQuorums", fn := fun _ => fun
  | [d1, d2] => { results := [.lit (.bool true)], args := [d1, d2] }
  | _ => none }
def fnQuorumsRow : OpenClaim := { program := "ytjngkfepppejeaa", sum := "585a2e207ecf08b90f1dd93a6fe64806f3afe4cc1b86c653bb02f5c965567df2", func := "loop.example/g00361/laws.FnQuorums", spec := "fnQuorums", unfollowed := true, recurses := true, apart := false }
def FnQuorumsSaid : Prop := fnQuorumsRow.holds Try.pinned (OpenSpec.ofChange fnQuorumsSpec)

/-- ITS FALSE NEIGHBOUR: 'it returns false'. Refute it at one input. -/
def fnQuorumsWrong : ChangeSpec := { name := "fnQuorums", fn := fun _ => fun
  | [d1, d2] => { results := [.lit (.bool false)], args := [d1, d2] }
  | _ => none }
def FnQuorumsWrongFalsely : Prop := fnQuorumsRow.holds Try.pinned (OpenSpec.ofChange fnQuorumsWrong)

/-- 'laws.FnCoteries': WHATEVER THE INPUT: true; the input reads as it did. -/
def fnCoteriesSpec : ChangeSpec := { name := "fnCoteries", fn := fun _ => fun
  | [d1, d2] => { results := [.lit (.bool true)], args := [d1, d2] }
  | _ => none }
def fnCoteriesRow : OpenClaim := { program := "ytjngkfepppejeaa", sum := "585a2e207ecf08b90f1dd93a6fe64806f3afe4cc1b86c653bb02f5c965567df2", func := "loop.example/g00361/laws.FnCoteries", spec := "fnCoteries", unfollowed := true, recurses := true, apart := false }
def FnCoteriesSaid : Prop := fnCoteriesRow.holds Try.pinned (OpenSpec.ofChange fnCoteriesSpec)

/-- ITS FALSE NEIGHBOUR: 'it returns false'. Refute it at one input. -/
def fnCoteriesWrong : ChangeSpec := { name := "fnCoteries", fn := fun _ => fun
  | [d1, d2] => { results := [.lit (.bool false)], args := [d1, d2] }
  | _ => none }
def FnCoteriesWrongFalsely : Prop := fnCoteriesRow.holds Try.pinned (OpenSpec.ofChange fnCoteriesWrong)

/- THE SECOND FORM. 'bulk': how many values and letters a reading holds, each counted each time it is reached (what is shared counts as often as it is met; a slice's spare places count too). A statement '..UptoSaid' is the law's where the arguments, and the package variables that the reading takes, are together of bulk at most 1048576: NARROWER than '..Said'. Prove '..Said' where nothing that the law and all that it calls make is longer than what came in: it says more and counts as full. Else prove '..UptoSaid'. A law counts once. -/
mutual
def uptoBulk {H : Type} : DataW H → Nat
  | .lit (.string bytes) => bytes.length + 1
  | .lit _ => 1
  | .nil => 1
  | .ptr d => uptoBulk d + 1
  | .slice elems spare => uptoBulkAll elems + uptoBulkAll spare + 1
  | .agg parts => uptoBulkAll parts + 1
  | .iface _ d => uptoBulk d + 1
  | .map entries => uptoBulkEntries entries + 1
  | .held _ => 1
def uptoBulkAll {H : Type} : List (DataW H) → Nat
  | [] => 0
  | d :: r => uptoBulk d + uptoBulkAll r
def uptoBulkEntries {H : Type} : List (Lit × DataW H) → Nat
  | [] => 0
  | x :: r => uptoBulkEntry x + uptoBulkEntries r
def uptoBulkEntry {H : Type} : Lit × DataW H → Nat
  | (.string bytes, d) => bytes.length + uptoBulk d + 1
  | (_, d) => uptoBulk d + 1
 end
def uptoSmall : (H : Type) → List (DataW H) → Bool := fun _ ds => decide (uptoBulkAll ds ≤ 1048576)
def OpenSpec.upto (s : _root_.Go.ChangeSpec) : _root_.Go.OpenSpec := { _root_.Go.OpenSpec.ofChange s with cond := some uptoSmall }

/-- 'laws.FnExactGoodCalls', WHERE WHAT IT READS IS OF BULK AT MOST 1048576: true; the input reads as it did. -/
def fnExactGoodCallsUptoRow : OpenClaim := { program := "ytjngkfepppejeaa", sum := "585a2e207ecf08b90f1dd93a6fe64806f3afe4cc1b86c653bb02f5c965567df2", func := "loop.example/g00361/laws.FnExactGoodCalls", spec := "fnExactGoodCalls", apart := false, narrowed := true }
def FnExactGoodCallsUptoSaid : Prop := fnExactGoodCallsUptoRow.holds Try.pinned (OpenSpec.upto fnExactGoodCallsSpec)

/-- 'laws.FnExactOverlapsIn', WHERE WHAT IT READS IS OF BULK AT MOST 1048576: true; the input reads as it did. -/
def fnExactOverlapsInUptoRow : OpenClaim := { program := "ytjngkfepppejeaa", sum := "585a2e207ecf08b90f1dd93a6fe64806f3afe4cc1b86c653bb02f5c965567df2", func := "loop.example/g00361/laws.FnExactOverlapsIn", spec := "fnExactOverlapsIn", apart := false, narrowed := true }
def FnExactOverlapsInUptoSaid : Prop := fnExactOverlapsInUptoRow.holds Try.pinned (OpenSpec.upto fnExactOverlapsInSpec)

/-- 'laws.FnExactLeastQuorums', WHERE WHAT IT READS IS OF BULK AT MOST 1048576: true; the input reads as it did. -/
def fnExactLeastQuorumsUptoRow : OpenClaim := { program := "ytjngkfepppejeaa", sum := "585a2e207ecf08b90f1dd93a6fe64806f3afe4cc1b86c653bb02f5c965567df2", func := "loop.example/g00361/laws.FnExactLeastQuorums", spec := "fnExactLeastQuorums", unfollowed := true, recurses := true, apart := false, narrowed := true }
def FnExactLeastQuorumsUptoSaid : Prop := fnExactLeastQuorumsUptoRow.holds Try.pinned (OpenSpec.upto fnExactLeastQuorumsSpec)

/-- 'laws.FnExactDominates', WHERE WHAT IT READS IS OF BULK AT MOST 1048576: true; the input reads as it did. -/
def fnExactDominatesUptoRow : OpenClaim := { program := "ytjngkfepppejeaa", sum := "585a2e207ecf08b90f1dd93a6fe64806f3afe4cc1b86c653bb02f5c965567df2", func := "loop.example/g00361/laws.FnExactDominates", spec := "fnExactDominates", unfollowed := true, recurses := true, apart := false, narrowed := true }
def FnExactDominatesUptoSaid : Prop := fnExactDominatesUptoRow.holds Try.pinned (OpenSpec.upto fnExactDominatesSpec)

/-- 'laws.FnExactBlocksOf', WHERE WHAT IT READS IS OF BULK AT MOST 1048576: true; the input reads as it did. -/
def fnExactBlocksOfUptoRow : OpenClaim := { program := "ytjngkfepppejeaa", sum := "585a2e207ecf08b90f1dd93a6fe64806f3afe4cc1b86c653bb02f5c965567df2", func := "loop.example/g00361/laws.FnExactBlocksOf", spec := "fnExactBlocksOf", unfollowed := true, recurses := true, apart := false, narrowed := true }
def FnExactBlocksOfUptoSaid : Prop := fnExactBlocksOfUptoRow.holds Try.pinned (OpenSpec.upto fnExactBlocksOfSpec)

/-- 'laws.FnQuorums', WHERE WHAT IT READS IS OF BULK AT MOST 1048576: true; the input reads as it did. -/
def fnQuorumsUptoRow : OpenClaim := { program := "ytjngkfepppejeaa", sum := "585a2e207ecf08b90f1dd93a6fe64806f3afe4cc1b86c653bb02f5c965567df2", func := "loop.example/g00361/laws.FnQuorums", spec := "fnQuorums", unfollowed := true, recurses := true, apart := false, narrowed := true }
def FnQuorumsUptoSaid : Prop := fnQuorumsUptoRow.holds Try.pinned (OpenSpec.upto fnQuorumsSpec)

/-- 'laws.FnCoteries', WHERE WHAT IT READS IS OF BULK AT MOST 1048576: true; the input reads as it did. -/
def fnCoteriesUptoRow : OpenClaim := { program := "ytjngkfepppejeaa", sum := "585a2e207ecf08b90f1dd93a6fe64806f3afe4cc1b86c653bb02f5c965567df2", func := "loop.example/g00361/laws.FnCoteries", spec := "fnCoteries", unfollowed := true, recurses := true, apart := false, narrowed := true }
def FnCoteriesUptoSaid : Prop := fnCoteriesUptoRow.holds Try.pinned (OpenSpec.upto fnCoteriesSpec)

end Rows
end Go.Proofs.Ytjngkfepppejeaa
