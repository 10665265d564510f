/-
  No cell of these rows narrows 'for every input' (looked for: loops, veiled, ifaces, maps, wideKeys, modest, calm, conditions, laid).
  DERIVED. THE GIVEN ROWS OF THIS SEAT. 6 by the template 'for every input the law returns true; each argument reads behind the call as it read before'; 0 by the template 'total and deterministic' (their statements: YtphmplmeofledaaTotals.lean).
  GIVEN WITH THE SEED: the statements are not yours to turn. If you find one false, say at which input.
  Laid BY PROGRAM, IN A SANDBOX (cutbox-rows.mjs): the forced cells as the released guide's own fill.sh prints them over the translation f9804da2b185a306… (all of the seat's roots in one cut). By AI agents, Wed Nov 11 2026. No macro, syntax, notation, axiom, sorry.
-/
import Derived.Test.YtphmplmeofledaaChecked
import GoSem.Claim
import GoSem.ClaimJoined
import GoSem.ClaimMapViews
import Derived.JoinedTies
import Derived.KernelRfl
namespace Go.Proofs.Ytphmplmeofledaa
/- THE CELL 'sum', in the pinned program and in every row, IS THE sha256 OF THE DUMP (.gsa) THAT YtphmplmeofledaaProg.lean LOADS. Nothing in Lean hashes anything: it is a label: what it is worth is what the hold of that sum in a sandbox is worth. -/
noncomputable def Try.pinned : Pinned := { name := "ytphmplmeofledaa", sum := "f9804da2b185a306d4080ad29035d430275696740d6e0e8c0079a832704294eb", checked := Try.checked }
namespace Rows
def none {H : Type} : Left H := { results := [], args := [] }

/-- 'laws.FnExactGoodPlaces': WHATEVER THE INPUT: true; the input reads as it did. -/
def fnExactGoodPlacesSpec : ChangeSpec := { name := "fnExactGoodPlaces", fn := fun _ => fun
  | [d1, d2] => { results := [.lit (.bool true)], args := [d1, d2] }
  | _ => none }
def fnExactGoodPlacesRow : OpenClaim := { program := "ytphmplmeofledaa", sum := "f9804da2b185a306d4080ad29035d430275696740d6e0e8c0079a832704294eb", func := "loop.example/g00361/laws.FnExactGoodPlaces", spec := "fnExactGoodPlaces", unfollowed := true, recurses := true, apart := false }
def FnExactGoodPlacesSaid : Prop := fnExactGoodPlacesRow.holds Try.pinned (OpenSpec.ofChange fnExactGoodPlacesSpec)

/-- ITS FALSE NEIGHBOUR: 'it returns false'. Refute it at one input. -/
def fnExactGoodPlacesWrong : ChangeSpec := { name := "fnExactGoodPlaces", fn := fun _ => fun
  | [d1, d2] => { results := [.lit (.bool false)], args := [d1, d2] }
  | _ => none }
def FnExactGoodPlacesWrongFalsely : Prop := fnExactGoodPlacesRow.holds Try.pinned (OpenSpec.ofChange fnExactGoodPlacesWrong)

/-- 'laws.FnExactUpToDate': WHATEVER THE INPUT: true; the input reads as it did. -/
def fnExactUpToDateSpec : ChangeSpec := { name := "fnExactUpToDate", fn := fun _ => fun
  | [d1, d2] => { results := [.lit (.bool true)], args := [d1, d2] }
  | _ => none }
def fnExactUpToDateRow : OpenClaim := { program := "ytphmplmeofledaa", sum := "f9804da2b185a306d4080ad29035d430275696740d6e0e8c0079a832704294eb", func := "loop.example/g00361/laws.FnExactUpToDate", spec := "fnExactUpToDate", apart := false }
def FnExactUpToDateSaid : Prop := fnExactUpToDateRow.holds Try.pinned (OpenSpec.ofChange fnExactUpToDateSpec)

/-- ITS FALSE NEIGHBOUR: 'it returns false'. Refute it at one input. -/
def fnExactUpToDateWrong : ChangeSpec := { name := "fnExactUpToDate", fn := fun _ => fun
  | [d1, d2] => { results := [.lit (.bool false)], args := [d1, d2] }
  | _ => none }
def FnExactUpToDateWrongFalsely : Prop := fnExactUpToDateRow.holds Try.pinned (OpenSpec.ofChange fnExactUpToDateWrong)

/-- 'laws.FnExactMovesTo': WHATEVER THE INPUT: true; the input reads as it did. -/
def fnExactMovesToSpec : ChangeSpec := { name := "fnExactMovesTo", fn := fun _ => fun
  | [d1, d2] => { results := [.lit (.bool true)], args := [d1, d2] }
  | _ => none }
def fnExactMovesToRow : OpenClaim := { program := "ytphmplmeofledaa", sum := "f9804da2b185a306d4080ad29035d430275696740d6e0e8c0079a832704294eb", func := "loop.example/g00361/laws.FnExactMovesTo", spec := "fnExactMovesTo", unfollowed := true, recurses := true, apart := false }
def FnExactMovesToSaid : Prop := fnExactMovesToRow.holds Try.pinned (OpenSpec.ofChange fnExactMovesToSpec)

/-- ITS FALSE NEIGHBOUR: 'it returns false'. Refute it at one input. -/
def fnExactMovesToWrong : ChangeSpec := { name := "fnExactMovesTo", fn := fun _ => fun
  | [d1, d2] => { results := [.lit (.bool false)], args := [d1, d2] }
  | _ => none }
def FnExactMovesToWrongFalsely : Prop := fnExactMovesToRow.holds Try.pinned (OpenSpec.ofChange fnExactMovesToWrong)

/-- 'laws.FnExactJoinClocks': WHATEVER THE INPUT: true; the input reads as it did. -/
def fnExactJoinClocksSpec : ChangeSpec := { name := "fnExactJoinClocks", fn := fun _ => fun
  | [d1, d2] => { results := [.lit (.bool true)], args := [d1, d2] }
  | _ => none }
def fnExactJoinClocksRow : OpenClaim := { program := "ytphmplmeofledaa", sum := "f9804da2b185a306d4080ad29035d430275696740d6e0e8c0079a832704294eb", func := "loop.example/g00361/laws.FnExactJoinClocks", spec := "fnExactJoinClocks", apart := false }
def FnExactJoinClocksSaid : Prop := fnExactJoinClocksRow.holds Try.pinned (OpenSpec.ofChange fnExactJoinClocksSpec)

/-- ITS FALSE NEIGHBOUR: 'it returns false'. Refute it at one input. -/
def fnExactJoinClocksWrong : ChangeSpec := { name := "fnExactJoinClocks", fn := fun _ => fun
  | [d1, d2] => { results := [.lit (.bool false)], args := [d1, d2] }
  | _ => none }
def FnExactJoinClocksWrongFalsely : Prop := fnExactJoinClocksRow.holds Try.pinned (OpenSpec.ofChange fnExactJoinClocksWrong)

/-- 'laws.FnExactCompareClocks': WHATEVER THE INPUT: true; the input reads as it did. -/
def fnExactCompareClocksSpec : ChangeSpec := { name := "fnExactCompareClocks", fn := fun _ => fun
  | [d1, d2] => { results := [.lit (.bool true)], args := [d1, d2] }
  | _ => none }
def fnExactCompareClocksRow : OpenClaim := { program := "ytphmplmeofledaa", sum := "f9804da2b185a306d4080ad29035d430275696740d6e0e8c0079a832704294eb", func := "loop.example/g00361/laws.FnExactCompareClocks", spec := "fnExactCompareClocks", apart := false }
def FnExactCompareClocksSaid : Prop := fnExactCompareClocksRow.holds Try.pinned (OpenSpec.ofChange fnExactCompareClocksSpec)

/-- ITS FALSE NEIGHBOUR: 'it returns false'. Refute it at one input. -/
def fnExactCompareClocksWrong : ChangeSpec := { name := "fnExactCompareClocks", fn := fun _ => fun
  | [d1, d2] => { results := [.lit (.bool false)], args := [d1, d2] }
  | _ => none }
def FnExactCompareClocksWrongFalsely : Prop := fnExactCompareClocksRow.holds Try.pinned (OpenSpec.ofChange fnExactCompareClocksWrong)

/-- 'laws.FnExactLoadsOf': WHATEVER THE INPUT: true; the input reads as it did. -/
def fnExactLoadsOfSpec : ChangeSpec := { name := "fnExactLoadsOf", fn := fun _ => fun
  | [d1, d2] => { results := [.lit (.bool true)], args := [d1, d2] }
  | _ => none }
def fnExactLoadsOfRow : OpenClaim := { program := "ytphmplmeofledaa", sum := "f9804da2b185a306d4080ad29035d430275696740d6e0e8c0079a832704294eb", func := "loop.example/g00361/laws.FnExactLoadsOf", spec := "fnExactLoadsOf", unfollowed := true, recurses := true, apart := false }
def FnExactLoadsOfSaid : Prop := fnExactLoadsOfRow.holds Try.pinned (OpenSpec.ofChange fnExactLoadsOfSpec)

/-- ITS FALSE NEIGHBOUR: 'it returns false'. Refute it at one input. -/
def fnExactLoadsOfWrong : ChangeSpec := { name := "fnExactLoadsOf", fn := fun _ => fun
  | [d1, d2] => { results := [.lit (.bool false)], args := [d1, d2] }
  | _ => none }
def FnExactLoadsOfWrongFalsely : Prop := fnExactLoadsOfRow.holds Try.pinned (OpenSpec.ofChange fnExactLoadsOfWrong)

/- THE SECOND FORM. 'bulk': how many values and letters a reading holds, each counted each time it is reached (what is shared counts as often as it is met; a slice's spare places count too). A statement '..UptoSaid' is the law's where the arguments, and the package variables that the reading takes, are together of bulk at most 1048576: NARROWER than '..Said'. Prove '..Said' where nothing that the law and all that it calls make is longer than what came in: it says more and counts as full. Else prove '..UptoSaid'. A law counts once. -/
mutual
def uptoBulk {H : Type} : DataW H → Nat
  | .lit (.string bytes) => bytes.length + 1
  | .lit _ => 1
  | .nil => 1
  | .ptr d => uptoBulk d + 1
  | .slice elems spare => uptoBulkAll elems + uptoBulkAll spare + 1
  | .agg parts => uptoBulkAll parts + 1
  | .iface _ d => uptoBulk d + 1
  | .map entries => uptoBulkEntries entries + 1
  | .held _ => 1
def uptoBulkAll {H : Type} : List (DataW H) → Nat
  | [] => 0
  | d :: r => uptoBulk d + uptoBulkAll r
def uptoBulkEntries {H : Type} : List (Lit × DataW H) → Nat
  | [] => 0
  | x :: r => uptoBulkEntry x + uptoBulkEntries r
def uptoBulkEntry {H : Type} : Lit × DataW H → Nat
  | (.string bytes, d) => bytes.length + uptoBulk d + 1
  | (_, d) => uptoBulk d + 1
 end
def uptoSmall : (H : Type) → List (DataW H) → Bool := fun _ ds => decide (uptoBulkAll ds ≤ 1048576)
def OpenSpec.upto (s : _root_.Go.ChangeSpec) : _root_.Go.OpenSpec := { _root_.Go.OpenSpec.ofChange s with cond := some uptoSmall }

/-- 'laws.FnExactGoodPlaces', WHERE WHAT IT READS IS OF BULK AT MOST 1048576: true; the input reads as it did. -/
def fnExactGoodPlacesUptoRow : OpenClaim := { program := "ytphmplmeofledaa", sum := "f9804da2b185a306d4080ad29035d430275696740d6e0e8c0079a832704294eb", func := "loop.example/g00361/laws.FnExactGoodPlaces", spec := "fnExactGoodPlaces", unfollowed := true, recurses := true, apart := false, narrowed := true }
def FnExactGoodPlacesUptoSaid : Prop := fnExactGoodPlacesUptoRow.holds Try.pinned (OpenSpec.upto fnExactGoodPlacesSpec)

/-- 'laws.FnExactUpToDate', WHERE WHAT IT READS IS OF BULK AT MOST 1048576: true; the input reads as it did. -/
def fnExactUpToDateUptoRow : OpenClaim := { program := "ytphmplmeofledaa", sum := "f9804da2b185a306d4080ad29035d430275696740d6e0e8c0079a832704294eb", func := "loop.example/g00361/laws.FnExactUpToDate", spec := "fnExactUpToDate", apart := false, narrowed := true }
def FnExactUpToDateUptoSaid : Prop := fnExactUpToDateUptoRow.holds Try.pinned (OpenSpec.upto fnExactUpToDateSpec)

/-- 'laws.FnExactMovesTo', WHERE WHAT IT READS IS OF BULK AT MOST 1048576: true; the input reads as it did. -/
def fnExactMovesToUptoRow : OpenClaim := { program := "ytphmplmeofledaa", sum := "f9804da2b185a306d4080ad29035d430275696740d6e0e8c0079a832704294eb", func := "loop.example/g00361/laws.FnExactMovesTo", spec := "fnExactMovesTo", unfollowed := true, recurses := true, apart := false, narrowed := true }
def FnExactMovesToUptoSaid : Prop := fnExactMovesToUptoRow.holds Try.pinned (OpenSpec.upto fnExactMovesToSpec)

/-- 'laws.FnExactJoinClocks', WHERE WHAT IT READS IS OF BULK AT MOST 1048576: true; the input reads as it did. -/
def fnExactJoinClocksUptoRow : OpenClaim := { program := "ytphmplmeofledaa", sum := "f9804da2b185a306d4080ad29035d430275696740d6e0e8c0079a832704294eb", func := "loop.example/g00361/laws.FnExactJoinClocks", spec := "fnExactJoinClocks", apart := false, narrowed := true }
def FnExactJoinClocksUptoSaid : Prop := fnExactJoinClocksUptoRow.holds Try.pinned (OpenSpec.upto fnExactJoinClocksSpec)

/-- 'laws.FnExactCompareClocks', WHERE WHAT IT READS IS OF BULK AT MOST 1048576: true; the input reads as it did. -/
def fnExactCompareClocksUptoRow : OpenClaim := { program := "ytphmplmeofledaa", sum := "f9804da2b185a306d4080ad29035d430275696740d6e0e8c0079a832704294eb", func := "loop.example/g00361/laws.FnExactCompareClocks", spec := "fnExactCompareClocks", apart := false, narrowed := true }
def FnExactCompareClocksUptoSaid : Prop := fnExactCompareClocksUptoRow.holds Try.pinned (OpenSpec.upto fnExactCompareClocksSpec)

/-- 'laws.FnExactLoadsOf', WHERE WHAT IT READS IS OF BULK AT MOST 1048576: true; the input reads as it did. -/
def fnExactLoadsOfUptoRow : OpenClaim := { program := "ytphmplmeofledaa", sum := "f9804da2b185a306d4080ad29035d430275696740d6e0e8c0079a832704294eb", func := "loop.example/g00361/laws.FnExactLoadsOf", spec := "fnExactLoadsOf", unfollowed := true, recurses := true, apart := false, narrowed := true }
def FnExactLoadsOfUptoSaid : Prop := fnExactLoadsOfUptoRow.holds Try.pinned (OpenSpec.upto fnExactLoadsOfSpec)

end Rows
end Go.Proofs.Ytphmplmeofledaa
