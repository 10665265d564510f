/-
  No cell of these rows narrows 'for every input' (looked for: loops, veiled, ifaces, maps, wideKeys, modest, calm, conditions, laid).
  DERIVED. THE GIVEN ROWS OF THIS SEAT. 11 by the template 'for every input the law returns true; each argument reads behind the call as it read before'; 0 by the template 'total and deterministic' (their statements: YtomdjipejoafgaaTotals.lean).
  GIVEN WITH THE SEED: the statements are not yours to turn. If you find one false, say at which input.
  Laid BY PROGRAM, IN A SANDBOX (cutbox-rows.mjs): the forced cells as the released guide's own fill.sh prints them over the translation 56e4d871c55e6bcf… (all of the seat's roots in one cut). By AI agents, Wed Nov 11 2026. No macro, syntax, notation, axiom, sorry.
-/
import Derived.Test.YtomdjipejoafgaaChecked
import GoSem.Claim
import GoSem.ClaimJoined
import GoSem.ClaimMapViews
import Derived.JoinedTies
import Derived.KernelRfl
namespace Go.Proofs.Ytomdjipejoafgaa
/- THE CELL 'sum', in the pinned program and in every row, IS THE sha256 OF THE DUMP (.gsa) THAT YtomdjipejoafgaaProg.lean LOADS. Nothing in Lean hashes anything: it is a label: what it is worth is what the hold of that sum in a sandbox is worth. -/
noncomputable def Try.pinned : Pinned := { name := "ytomdjipejoafgaa", sum := "56e4d871c55e6bcfbaf841afa900ec0d9c3b42119664804906d3a98aa5098fbd", checked := Try.checked }
namespace Rows
def none {H : Type} : Left H := { results := [], args := [] }

/-- 'laws.FnExactUpToDate': WHATEVER THE INPUT: true; the input reads as it did. -/
def fnExactUpToDateSpec : ChangeSpec := { name := "fnExactUpToDate", fn := fun _ => fun
  | [d1, d2] => { results := [.lit (.bool true)], args := [d1, d2] }
  | _ => none }
def fnExactUpToDateRow : OpenClaim := { program := "ytomdjipejoafgaa", sum := "56e4d871c55e6bcfbaf841afa900ec0d9c3b42119664804906d3a98aa5098fbd", func := "loop.example/g00361/laws.FnExactUpToDate", spec := "fnExactUpToDate", apart := false }
def FnExactUpToDateSaid : Prop := fnExactUpToDateRow.holds Try.pinned (OpenSpec.ofChange fnExactUpToDateSpec)

/-- ITS FALSE NEIGHBOUR: 'it returns false'. Refute it at one input. -/
def fnExactUpToDateWrong : ChangeSpec := { name := "fnExactUpToDate", fn := fun _ => fun
  | [d1, d2] => { results := [.lit (.bool false)], args := [d1, d2] }
  | _ => none }
def FnExactUpToDateWrongFalsely : Prop := fnExactUpToDateRow.holds Try.pinned (OpenSpec.ofChange fnExactUpToDateWrong)

/-- 'laws.FnExactLogsMatch': WHATEVER THE INPUT: true; the input reads as it did. -/
def fnExactLogsMatchSpec : ChangeSpec := { name := "fnExactLogsMatch", fn := fun _ => fun
  | [d1, d2] => { results := [.lit (.bool true)], args := [d1, d2] }
  | _ => none }
def fnExactLogsMatchRow : OpenClaim := { program := "ytomdjipejoafgaa", sum := "56e4d871c55e6bcfbaf841afa900ec0d9c3b42119664804906d3a98aa5098fbd", func := "loop.example/g00361/laws.FnExactLogsMatch", spec := "fnExactLogsMatch", apart := false }
def FnExactLogsMatchSaid : Prop := fnExactLogsMatchRow.holds Try.pinned (OpenSpec.ofChange fnExactLogsMatchSpec)

/-- ITS FALSE NEIGHBOUR: 'it returns false'. Refute it at one input. -/
def fnExactLogsMatchWrong : ChangeSpec := { name := "fnExactLogsMatch", fn := fun _ => fun
  | [d1, d2] => { results := [.lit (.bool false)], args := [d1, d2] }
  | _ => none }
def FnExactLogsMatchWrongFalsely : Prop := fnExactLogsMatchRow.holds Try.pinned (OpenSpec.ofChange fnExactLogsMatchWrong)

/-- 'laws.FnExactNewRaft': WHATEVER THE INPUT: true; the input reads as it did. -/
def fnExactNewRaftSpec : ChangeSpec := { name := "fnExactNewRaft", fn := fun _ => fun
  | [d] => { results := [.lit (.bool true)], args := [d] }
  | _ => none }
def fnExactNewRaftRow : OpenClaim := { program := "ytomdjipejoafgaa", sum := "56e4d871c55e6bcfbaf841afa900ec0d9c3b42119664804906d3a98aa5098fbd", func := "loop.example/g00361/laws.FnExactNewRaft", spec := "fnExactNewRaft", apart := false }
def FnExactNewRaftSaid : Prop := fnExactNewRaftRow.holds Try.pinned (OpenSpec.ofChange fnExactNewRaftSpec)

/-- ITS FALSE NEIGHBOUR: 'it returns false'. Refute it at one input. -/
def fnExactNewRaftWrong : ChangeSpec := { name := "fnExactNewRaft", fn := fun _ => fun
  | [d] => { results := [.lit (.bool false)], args := [d] }
  | _ => none }
def FnExactNewRaftWrongFalsely : Prop := fnExactNewRaftRow.holds Try.pinned (OpenSpec.ofChange fnExactNewRaftWrong)

/-- 'laws.FnExactGoodElection': WHATEVER THE INPUT: true; the input reads as it did. -/
def fnExactGoodElectionSpec : ChangeSpec := { name := "fnExactGoodElection", fn := fun _ => fun
  | [d] => { results := [.lit (.bool true)], args := [d] }
  | _ => none }
def fnExactGoodElectionRow : OpenClaim := { program := "ytomdjipejoafgaa", sum := "56e4d871c55e6bcfbaf841afa900ec0d9c3b42119664804906d3a98aa5098fbd", func := "loop.example/g00361/laws.FnExactGoodElection", spec := "fnExactGoodElection", unfollowed := true, recurses := true, apart := false }
def FnExactGoodElectionSaid : Prop := fnExactGoodElectionRow.holds Try.pinned (OpenSpec.ofChange fnExactGoodElectionSpec)

/-- ITS FALSE NEIGHBOUR: 'it returns false'. Refute it at one input. -/
def fnExactGoodElectionWrong : ChangeSpec := { name := "fnExactGoodElection", fn := fun _ => fun
  | [d] => { results := [.lit (.bool false)], args := [d] }
  | _ => none }
def FnExactGoodElectionWrongFalsely : Prop := fnExactGoodElectionRow.holds Try.pinned (OpenSpec.ofChange fnExactGoodElectionWrong)

/-- 'laws.FnExactGoodRaft': WHATEVER THE INPUT: true; the input reads as it did. -/
def fnExactGoodRaftSpec : ChangeSpec := { name := "fnExactGoodRaft", fn := fun _ => fun
  | [d] => { results := [.lit (.bool true)], args := [d] }
  | _ => none }
def fnExactGoodRaftRow : OpenClaim := { program := "ytomdjipejoafgaa", sum := "56e4d871c55e6bcfbaf841afa900ec0d9c3b42119664804906d3a98aa5098fbd", func := "loop.example/g00361/laws.FnExactGoodRaft", spec := "fnExactGoodRaft", unfollowed := true, recurses := true, apart := false }
def FnExactGoodRaftSaid : Prop := fnExactGoodRaftRow.holds Try.pinned (OpenSpec.ofChange fnExactGoodRaftSpec)

/-- ITS FALSE NEIGHBOUR: 'it returns false'. Refute it at one input. -/
def fnExactGoodRaftWrong : ChangeSpec := { name := "fnExactGoodRaft", fn := fun _ => fun
  | [d] => { results := [.lit (.bool false)], args := [d] }
  | _ => none }
def FnExactGoodRaftWrongFalsely : Prop := fnExactGoodRaftRow.holds Try.pinned (OpenSpec.ofChange fnExactGoodRaftWrong)

/-- 'laws.FnExactEntryAt': WHATEVER THE INPUT: true; the input reads as it did. -/
def fnExactEntryAtSpec : ChangeSpec := { name := "fnExactEntryAt", fn := fun _ => fun
  | [d1, d2, d3] => { results := [.lit (.bool true)], args := [d1, d2, d3] }
  | _ => none }
def fnExactEntryAtRow : OpenClaim := { program := "ytomdjipejoafgaa", sum := "56e4d871c55e6bcfbaf841afa900ec0d9c3b42119664804906d3a98aa5098fbd", func := "loop.example/g00361/laws.FnExactEntryAt", spec := "fnExactEntryAt", unfollowed := true, recurses := true, apart := false }
def FnExactEntryAtSaid : Prop := fnExactEntryAtRow.holds Try.pinned (OpenSpec.ofChange fnExactEntryAtSpec)

/-- ITS FALSE NEIGHBOUR: 'it returns false'. Refute it at one input. -/
def fnExactEntryAtWrong : ChangeSpec := { name := "fnExactEntryAt", fn := fun _ => fun
  | [d1, d2, d3] => { results := [.lit (.bool false)], args := [d1, d2, d3] }
  | _ => none }
def FnExactEntryAtWrongFalsely : Prop := fnExactEntryAtRow.holds Try.pinned (OpenSpec.ofChange fnExactEntryAtWrong)

/-- 'laws.FnExactLeaderOf': WHATEVER THE INPUT: true; the input reads as it did. -/
def fnExactLeaderOfSpec : ChangeSpec := { name := "fnExactLeaderOf", fn := fun _ => fun
  | [d1, d2] => { results := [.lit (.bool true)], args := [d1, d2] }
  | _ => none }
def fnExactLeaderOfRow : OpenClaim := { program := "ytomdjipejoafgaa", sum := "56e4d871c55e6bcfbaf841afa900ec0d9c3b42119664804906d3a98aa5098fbd", func := "loop.example/g00361/laws.FnExactLeaderOf", spec := "fnExactLeaderOf", unfollowed := true, recurses := true, apart := false }
def FnExactLeaderOfSaid : Prop := fnExactLeaderOfRow.holds Try.pinned (OpenSpec.ofChange fnExactLeaderOfSpec)

/-- ITS FALSE NEIGHBOUR: 'it returns false'. Refute it at one input. -/
def fnExactLeaderOfWrong : ChangeSpec := { name := "fnExactLeaderOf", fn := fun _ => fun
  | [d1, d2] => { results := [.lit (.bool false)], args := [d1, d2] }
  | _ => none }
def FnExactLeaderOfWrongFalsely : Prop := fnExactLeaderOfRow.holds Try.pinned (OpenSpec.ofChange fnExactLeaderOfWrong)

/-- 'laws.FnExactNewElection': WHATEVER THE INPUT: true; the input reads as it did. -/
def fnExactNewElectionSpec : ChangeSpec := { name := "fnExactNewElection", fn := fun _ => fun
  | [d] => { results := [.lit (.bool true)], args := [d] }
  | _ => none }
def fnExactNewElectionRow : OpenClaim := { program := "ytomdjipejoafgaa", sum := "56e4d871c55e6bcfbaf841afa900ec0d9c3b42119664804906d3a98aa5098fbd", func := "loop.example/g00361/laws.FnExactNewElection", spec := "fnExactNewElection", apart := false }
def FnExactNewElectionSaid : Prop := fnExactNewElectionRow.holds Try.pinned (OpenSpec.ofChange fnExactNewElectionSpec)

/-- ITS FALSE NEIGHBOUR: 'it returns false'. Refute it at one input. -/
def fnExactNewElectionWrong : ChangeSpec := { name := "fnExactNewElection", fn := fun _ => fun
  | [d] => { results := [.lit (.bool false)], args := [d] }
  | _ => none }
def FnExactNewElectionWrongFalsely : Prop := fnExactNewElectionRow.holds Try.pinned (OpenSpec.ofChange fnExactNewElectionWrong)

/-- 'laws.FnExactMayLead': WHATEVER THE INPUT: true; the input reads as it did. -/
def fnExactMayLeadSpec : ChangeSpec := { name := "fnExactMayLead", fn := fun _ => fun
  | [d1, d2] => { results := [.lit (.bool true)], args := [d1, d2] }
  | _ => none }
def fnExactMayLeadRow : OpenClaim := { program := "ytomdjipejoafgaa", sum := "56e4d871c55e6bcfbaf841afa900ec0d9c3b42119664804906d3a98aa5098fbd", func := "loop.example/g00361/laws.FnExactMayLead", spec := "fnExactMayLead", unfollowed := true, recurses := true, apart := false }
def FnExactMayLeadSaid : Prop := fnExactMayLeadRow.holds Try.pinned (OpenSpec.ofChange fnExactMayLeadSpec)

/-- ITS FALSE NEIGHBOUR: 'it returns false'. Refute it at one input. -/
def fnExactMayLeadWrong : ChangeSpec := { name := "fnExactMayLead", fn := fun _ => fun
  | [d1, d2] => { results := [.lit (.bool false)], args := [d1, d2] }
  | _ => none }
def FnExactMayLeadWrongFalsely : Prop := fnExactMayLeadRow.holds Try.pinned (OpenSpec.ofChange fnExactMayLeadWrong)

/-- 'laws.FnExactLeadersIn': WHATEVER THE INPUT: true; the input reads as it did. -/
def fnExactLeadersInSpec : ChangeSpec := { name := "fnExactLeadersIn", fn := fun _ => fun
  | [d] => { results := [.lit (.bool true)], args := [d] }
  | _ => none }
def fnExactLeadersInRow : OpenClaim := { program := "ytomdjipejoafgaa", sum := "56e4d871c55e6bcfbaf841afa900ec0d9c3b42119664804906d3a98aa5098fbd", func := "loop.example/g00361/laws.FnExactLeadersIn", spec := "fnExactLeadersIn", unfollowed := true, recurses := true, apart := false }
def FnExactLeadersInSaid : Prop := fnExactLeadersInRow.holds Try.pinned (OpenSpec.ofChange fnExactLeadersInSpec)

/-- ITS FALSE NEIGHBOUR: 'it returns false'. Refute it at one input. -/
def fnExactLeadersInWrong : ChangeSpec := { name := "fnExactLeadersIn", fn := fun _ => fun
  | [d] => { results := [.lit (.bool false)], args := [d] }
  | _ => none }
def FnExactLeadersInWrongFalsely : Prop := fnExactLeadersInRow.holds Try.pinned (OpenSpec.ofChange fnExactLeadersInWrong)

/-- 'laws.FnExactCommittedIn': WHATEVER THE INPUT: true; the input reads as it did. -/
def fnExactCommittedInSpec : ChangeSpec := { name := "fnExactCommittedIn", fn := fun _ => fun
  | [d] => { results := [.lit (.bool true)], args := [d] }
  | _ => none }
def fnExactCommittedInRow : OpenClaim := { program := "ytomdjipejoafgaa", sum := "56e4d871c55e6bcfbaf841afa900ec0d9c3b42119664804906d3a98aa5098fbd", func := "loop.example/g00361/laws.FnExactCommittedIn", spec := "fnExactCommittedIn", unfollowed := true, recurses := true, apart := false }
def FnExactCommittedInSaid : Prop := fnExactCommittedInRow.holds Try.pinned (OpenSpec.ofChange fnExactCommittedInSpec)

/-- ITS FALSE NEIGHBOUR: 'it returns false'. Refute it at one input. -/
def fnExactCommittedInWrong : ChangeSpec := { name := "fnExactCommittedIn", fn := fun _ => fun
  | [d] => { results := [.lit (.bool false)], args := [d] }
  | _ => none }
def FnExactCommittedInWrongFalsely : Prop := fnExactCommittedInRow.holds Try.pinned (OpenSpec.ofChange fnExactCommittedInWrong)

/- THE SECOND FORM. 'bulk': how many values and letters a reading holds, each counted each time it is reached (what is shared counts as often as it is met; a slice's spare places count too). A statement '..UptoSaid' is the law's where the arguments, and the package variables that the reading takes, are together of bulk at most 1048576: NARROWER than '..Said'. Prove '..Said' where nothing that the law and all that it calls make is longer than what came in: it says more and counts as full. Else prove '..UptoSaid'. A law counts once. -/
mutual
def uptoBulk {H : Type} : DataW H → Nat
  | .lit (.string bytes) => bytes.length + 1
  | .lit _ => 1
  | .nil => 1
  | .ptr d => uptoBulk d + 1
  | .slice elems spare => uptoBulkAll elems + uptoBulkAll spare + 1
  | .agg parts => uptoBulkAll parts + 1
  | .iface _ d => uptoBulk d + 1
  | .map entries => uptoBulkEntries entries + 1
  | .held _ => 1
def uptoBulkAll {H : Type} : List (DataW H) → Nat
  | [] => 0
  | d :: r => uptoBulk d + uptoBulkAll r
def uptoBulkEntries {H : Type} : List (Lit × DataW H) → Nat
  | [] => 0
  | x :: r => uptoBulkEntry x + uptoBulkEntries r
def uptoBulkEntry {H : Type} : Lit × DataW H → Nat
  | (.string bytes, d) => bytes.length + uptoBulk d + 1
  | (_, d) => uptoBulk d + 1
 end
def uptoSmall : (H : Type) → List (DataW H) → Bool := fun _ ds => decide (uptoBulkAll ds ≤ 1048576)
def OpenSpec.upto (s : _root_.Go.ChangeSpec) : _root_.Go.OpenSpec := { _root_.Go.OpenSpec.ofChange s with cond := some uptoSmall }

/-- 'laws.FnExactUpToDate', WHERE WHAT IT READS IS OF BULK AT MOST 1048576: true; the input reads as it did. -/
def fnExactUpToDateUptoRow : OpenClaim := { program := "ytomdjipejoafgaa", sum := "56e4d871c55e6bcfbaf841afa900ec0d9c3b42119664804906d3a98aa5098fbd", func := "loop.example/g00361/laws.FnExactUpToDate", spec := "fnExactUpToDate", apart := false, narrowed := true }
def FnExactUpToDateUptoSaid : Prop := fnExactUpToDateUptoRow.holds Try.pinned (OpenSpec.upto fnExactUpToDateSpec)

/-- 'laws.FnExactLogsMatch', WHERE WHAT IT READS IS OF BULK AT MOST 1048576: true; the input reads as it did. -/
def fnExactLogsMatchUptoRow : OpenClaim := { program := "ytomdjipejoafgaa", sum := "56e4d871c55e6bcfbaf841afa900ec0d9c3b42119664804906d3a98aa5098fbd", func := "loop.example/g00361/laws.FnExactLogsMatch", spec := "fnExactLogsMatch", apart := false, narrowed := true }
def FnExactLogsMatchUptoSaid : Prop := fnExactLogsMatchUptoRow.holds Try.pinned (OpenSpec.upto fnExactLogsMatchSpec)

/-- 'laws.FnExactNewRaft', WHERE WHAT IT READS IS OF BULK AT MOST 1048576: true; the input reads as it did. -/
def fnExactNewRaftUptoRow : OpenClaim := { program := "ytomdjipejoafgaa", sum := "56e4d871c55e6bcfbaf841afa900ec0d9c3b42119664804906d3a98aa5098fbd", func := "loop.example/g00361/laws.FnExactNewRaft", spec := "fnExactNewRaft", apart := false, narrowed := true }
def FnExactNewRaftUptoSaid : Prop := fnExactNewRaftUptoRow.holds Try.pinned (OpenSpec.upto fnExactNewRaftSpec)

/-- 'laws.FnExactGoodElection', WHERE WHAT IT READS IS OF BULK AT MOST 1048576: true; the input reads as it did. -/
def fnExactGoodElectionUptoRow : OpenClaim := { program := "ytomdjipejoafgaa", sum := "56e4d871c55e6bcfbaf841afa900ec0d9c3b42119664804906d3a98aa5098fbd", func := "loop.example/g00361/laws.FnExactGoodElection", spec := "fnExactGoodElection", unfollowed := true, recurses := true, apart := false, narrowed := true }
def FnExactGoodElectionUptoSaid : Prop := fnExactGoodElectionUptoRow.holds Try.pinned (OpenSpec.upto fnExactGoodElectionSpec)

/-- 'laws.FnExactGoodRaft', WHERE WHAT IT READS IS OF BULK AT MOST 1048576: true; the input reads as it did. -/
def fnExactGoodRaftUptoRow : OpenClaim := { program := "ytomdjipejoafgaa", sum := "56e4d871c55e6bcfbaf841afa900ec0d9c3b42119664804906d3a98aa5098fbd", func := "loop.example/g00361/laws.FnExactGoodRaft", spec := "fnExactGoodRaft", unfollowed := true, recurses := true, apart := false, narrowed := true }
def FnExactGoodRaftUptoSaid : Prop := fnExactGoodRaftUptoRow.holds Try.pinned (OpenSpec.upto fnExactGoodRaftSpec)

/-- 'laws.FnExactEntryAt', WHERE WHAT IT READS IS OF BULK AT MOST 1048576: true; the input reads as it did. -/
def fnExactEntryAtUptoRow : OpenClaim := { program := "ytomdjipejoafgaa", sum := "56e4d871c55e6bcfbaf841afa900ec0d9c3b42119664804906d3a98aa5098fbd", func := "loop.example/g00361/laws.FnExactEntryAt", spec := "fnExactEntryAt", unfollowed := true, recurses := true, apart := false, narrowed := true }
def FnExactEntryAtUptoSaid : Prop := fnExactEntryAtUptoRow.holds Try.pinned (OpenSpec.upto fnExactEntryAtSpec)

/-- 'laws.FnExactLeaderOf', WHERE WHAT IT READS IS OF BULK AT MOST 1048576: true; the input reads as it did. -/
def fnExactLeaderOfUptoRow : OpenClaim := { program := "ytomdjipejoafgaa", sum := "56e4d871c55e6bcfbaf841afa900ec0d9c3b42119664804906d3a98aa5098fbd", func := "loop.example/g00361/laws.FnExactLeaderOf", spec := "fnExactLeaderOf", unfollowed := true, recurses := true, apart := false, narrowed := true }
def FnExactLeaderOfUptoSaid : Prop := fnExactLeaderOfUptoRow.holds Try.pinned (OpenSpec.upto fnExactLeaderOfSpec)

/-- 'laws.FnExactNewElection', WHERE WHAT IT READS IS OF BULK AT MOST 1048576: true; the input reads as it did. -/
def fnExactNewElectionUptoRow : OpenClaim := { program := "ytomdjipejoafgaa", sum := "56e4d871c55e6bcfbaf841afa900ec0d9c3b42119664804906d3a98aa5098fbd", func := "loop.example/g00361/laws.FnExactNewElection", spec := "fnExactNewElection", apart := false, narrowed := true }
def FnExactNewElectionUptoSaid : Prop := fnExactNewElectionUptoRow.holds Try.pinned (OpenSpec.upto fnExactNewElectionSpec)

/-- 'laws.FnExactMayLead', WHERE WHAT IT READS IS OF BULK AT MOST 1048576: true; the input reads as it did. -/
def fnExactMayLeadUptoRow : OpenClaim := { program := "ytomdjipejoafgaa", sum := "56e4d871c55e6bcfbaf841afa900ec0d9c3b42119664804906d3a98aa5098fbd", func := "loop.example/g00361/laws.FnExactMayLead", spec := "fnExactMayLead", unfollowed := true, recurses := true, apart := false, narrowed := true }
def FnExactMayLeadUptoSaid : Prop := fnExactMayLeadUptoRow.holds Try.pinned (OpenSpec.upto fnExactMayLeadSpec)

/-- 'laws.FnExactLeadersIn', WHERE WHAT IT READS IS OF BULK AT MOST 1048576: true; the input reads as it did. -/
def fnExactLeadersInUptoRow : OpenClaim := { program := "ytomdjipejoafgaa", sum := "56e4d871c55e6bcfbaf841afa900ec0d9c3b42119664804906d3a98aa5098fbd", func := "loop.example/g00361/laws.FnExactLeadersIn", spec := "fnExactLeadersIn", unfollowed := true, recurses := true, apart := false, narrowed := true }
def FnExactLeadersInUptoSaid : Prop := fnExactLeadersInUptoRow.holds Try.pinned (OpenSpec.upto fnExactLeadersInSpec)

/-- 'laws.FnExactCommittedIn', WHERE WHAT IT READS IS OF BULK AT MOST 1048576: true; the input reads as it did. -/
def fnExactCommittedInUptoRow : OpenClaim := { program := "ytomdjipejoafgaa", sum := "56e4d871c55e6bcfbaf841afa900ec0d9c3b42119664804906d3a98aa5098fbd", func := "loop.example/g00361/laws.FnExactCommittedIn", spec := "fnExactCommittedIn", unfollowed := true, recurses := true, apart := false, narrowed := true }
def FnExactCommittedInUptoSaid : Prop := fnExactCommittedInUptoRow.holds Try.pinned (OpenSpec.upto fnExactCommittedInSpec)

end Rows
end Go.Proofs.Ytomdjipejoafgaa
