/-
  No cell of these rows narrows 'for every input' (looked for: loops, veiled, ifaces, maps, wideKeys, modest, calm, conditions, laid).
  DERIVED. THE GIVEN ROWS OF THIS SEAT. 11 by the template 'for every input the law returns true; each argument reads behind the call as it read before'; 0 by the template 'total and deterministic' (their statements: YtgcliajajcinpaaTotals.lean).
  GIVEN WITH THE SEED: the statements are not yours to turn. If you find one false, say at which input.
  Laid BY PROGRAM, IN A SANDBOX (cutbox-rows.mjs): the forced cells as the released guide's own fill.sh prints them over the translation 21331b26d72d77bb… (all of the seat's roots in one cut). By AI agents, Wed Nov 11 2026. No macro, syntax, notation, axiom, sorry.
-/
import Derived.Test.YtgcliajajcinpaaChecked
import GoSem.Claim
import GoSem.ClaimJoined
import GoSem.ClaimMapViews
import Derived.JoinedTies
import Derived.KernelRfl
namespace Go.Proofs.Ytgcliajajcinpaa
/- THE CELL 'sum', in the pinned program and in every row, IS THE sha256 OF THE DUMP (.gsa) THAT YtgcliajajcinpaaProg.lean LOADS. Nothing in Lean hashes anything: it is a label: what it is worth is what the hold of that sum in a sandbox is worth. -/
noncomputable def Try.pinned : Pinned := { name := "ytgcliajajcinpaa", sum := "21331b26d72d77bb128db400b928a34428b708bd7a6d25abee698afdfdf5d6ed", checked := Try.checked }
namespace Rows
def none {H : Type} : Left H := { results := [], args := [] }

/-- 'laws.FnExactGoodPlaces': WHATEVER THE INPUT: true; the input reads as it did. -/
def fnExactGoodPlacesSpec : ChangeSpec := { name := "fnExactGoodPlaces", fn := fun _ => fun
  | [d1, d2] => { results := [.lit (.bool true)], args := [d1, d2] }
  | _ => none }
def fnExactGoodPlacesRow : OpenClaim := { program := "ytgcliajajcinpaa", sum := "21331b26d72d77bb128db400b928a34428b708bd7a6d25abee698afdfdf5d6ed", func := "loop.example/g00361/laws.FnExactGoodPlaces", spec := "fnExactGoodPlaces", unfollowed := true, recurses := true, apart := false }
def FnExactGoodPlacesSaid : Prop := fnExactGoodPlacesRow.holds Try.pinned (OpenSpec.ofChange fnExactGoodPlacesSpec)

/-- ITS FALSE NEIGHBOUR: 'it returns false'. Refute it at one input. -/
def fnExactGoodPlacesWrong : ChangeSpec := { name := "fnExactGoodPlaces", fn := fun _ => fun
  | [d1, d2] => { results := [.lit (.bool false)], args := [d1, d2] }
  | _ => none }
def FnExactGoodPlacesWrongFalsely : Prop := fnExactGoodPlacesRow.holds Try.pinned (OpenSpec.ofChange fnExactGoodPlacesWrong)

/-- 'laws.FnExactMovesTo': WHATEVER THE INPUT: true; the input reads as it did. -/
def fnExactMovesToSpec : ChangeSpec := { name := "fnExactMovesTo", fn := fun _ => fun
  | [d1, d2] => { results := [.lit (.bool true)], args := [d1, d2] }
  | _ => none }
def fnExactMovesToRow : OpenClaim := { program := "ytgcliajajcinpaa", sum := "21331b26d72d77bb128db400b928a34428b708bd7a6d25abee698afdfdf5d6ed", func := "loop.example/g00361/laws.FnExactMovesTo", spec := "fnExactMovesTo", unfollowed := true, recurses := true, apart := false }
def FnExactMovesToSaid : Prop := fnExactMovesToRow.holds Try.pinned (OpenSpec.ofChange fnExactMovesToSpec)

/-- ITS FALSE NEIGHBOUR: 'it returns false'. Refute it at one input. -/
def fnExactMovesToWrong : ChangeSpec := { name := "fnExactMovesTo", fn := fun _ => fun
  | [d1, d2] => { results := [.lit (.bool false)], args := [d1, d2] }
  | _ => none }
def FnExactMovesToWrongFalsely : Prop := fnExactMovesToRow.holds Try.pinned (OpenSpec.ofChange fnExactMovesToWrong)

/-- 'laws.FnExactLoadsOf': WHATEVER THE INPUT: true; the input reads as it did. -/
def fnExactLoadsOfSpec : ChangeSpec := { name := "fnExactLoadsOf", fn := fun _ => fun
  | [d1, d2] => { results := [.lit (.bool true)], args := [d1, d2] }
  | _ => none }
def fnExactLoadsOfRow : OpenClaim := { program := "ytgcliajajcinpaa", sum := "21331b26d72d77bb128db400b928a34428b708bd7a6d25abee698afdfdf5d6ed", func := "loop.example/g00361/laws.FnExactLoadsOf", spec := "fnExactLoadsOf", unfollowed := true, recurses := true, apart := false }
def FnExactLoadsOfSaid : Prop := fnExactLoadsOfRow.holds Try.pinned (OpenSpec.ofChange fnExactLoadsOfSpec)

/-- ITS FALSE NEIGHBOUR: 'it returns false'. Refute it at one input. -/
def fnExactLoadsOfWrong : ChangeSpec := { name := "fnExactLoadsOf", fn := fun _ => fun
  | [d1, d2] => { results := [.lit (.bool false)], args := [d1, d2] }
  | _ => none }
def FnExactLoadsOfWrongFalsely : Prop := fnExactLoadsOfRow.holds Try.pinned (OpenSpec.ofChange fnExactLoadsOfWrong)

/-- 'laws.FnSpread': WHATEVER THE INPUT: true; the input reads as it did. -/
def fnSpreadSpec : ChangeSpec := { name := "fnSpread", fn := fun _ => fun
  | [d1, d2] => { results := [.lit (.bool true)], args := [d1, d2] }
  | _ => none }
def fnSpreadRow : OpenClaim := { program := "ytgcliajajcinpaa", sum := "21331b26d72d77bb128db400b928a34428b708bd7a6d25abee698afdfdf5d6ed", func := "loop.example/g00361/laws.FnSpread", spec := "fnSpread", unfollowed := true, recurses := true, apart := false }
def FnSpreadSaid : Prop := fnSpreadRow.holds Try.pinned (OpenSpec.ofChange fnSpreadSpec)

/-- ITS FALSE NEIGHBOUR: 'it returns false'. Refute it at one input. -/
def fnSpreadWrong : ChangeSpec := { name := "fnSpread", fn := fun _ => fun
  | [d1, d2] => { results := [.lit (.bool false)], args := [d1, d2] }
  | _ => none }
def FnSpreadWrongFalsely : Prop := fnSpreadRow.holds Try.pinned (OpenSpec.ofChange fnSpreadWrong)

/-- 'laws.FnExactIsEven': WHATEVER THE INPUT: true; the input reads as it did. -/
def fnExactIsEvenSpec : ChangeSpec := { name := "fnExactIsEven", fn := fun _ => fun
  | [d1, d2] => { results := [.lit (.bool true)], args := [d1, d2] }
  | _ => none }
def fnExactIsEvenRow : OpenClaim := { program := "ytgcliajajcinpaa", sum := "21331b26d72d77bb128db400b928a34428b708bd7a6d25abee698afdfdf5d6ed", func := "loop.example/g00361/laws.FnExactIsEven", spec := "fnExactIsEven", unfollowed := true, recurses := true, apart := false }
def FnExactIsEvenSaid : Prop := fnExactIsEvenRow.holds Try.pinned (OpenSpec.ofChange fnExactIsEvenSpec)

/-- ITS FALSE NEIGHBOUR: 'it returns false'. Refute it at one input. -/
def fnExactIsEvenWrong : ChangeSpec := { name := "fnExactIsEven", fn := fun _ => fun
  | [d1, d2] => { results := [.lit (.bool false)], args := [d1, d2] }
  | _ => none }
def FnExactIsEvenWrongFalsely : Prop := fnExactIsEvenRow.holds Try.pinned (OpenSpec.ofChange fnExactIsEvenWrong)

/-- 'laws.FnExactRackSafe': WHATEVER THE INPUT: true; the input reads as it did. -/
def fnExactRackSafeSpec : ChangeSpec := { name := "fnExactRackSafe", fn := fun _ => fun
  | [d1, d2] => { results := [.lit (.bool true)], args := [d1, d2] }
  | _ => none }
def fnExactRackSafeRow : OpenClaim := { program := "ytgcliajajcinpaa", sum := "21331b26d72d77bb128db400b928a34428b708bd7a6d25abee698afdfdf5d6ed", func := "loop.example/g00361/laws.FnExactRackSafe", spec := "fnExactRackSafe", unfollowed := true, recurses := true, apart := false }
def FnExactRackSafeSaid : Prop := fnExactRackSafeRow.holds Try.pinned (OpenSpec.ofChange fnExactRackSafeSpec)

/-- ITS FALSE NEIGHBOUR: 'it returns false'. Refute it at one input. -/
def fnExactRackSafeWrong : ChangeSpec := { name := "fnExactRackSafe", fn := fun _ => fun
  | [d1, d2] => { results := [.lit (.bool false)], args := [d1, d2] }
  | _ => none }
def FnExactRackSafeWrongFalsely : Prop := fnExactRackSafeRow.holds Try.pinned (OpenSpec.ofChange fnExactRackSafeWrong)

/-- 'laws.FnExactRacksOf': WHATEVER THE INPUT: true; the input reads as it did. -/
def fnExactRacksOfSpec : ChangeSpec := { name := "fnExactRacksOf", fn := fun _ => fun
  | [d1, d2] => { results := [.lit (.bool true)], args := [d1, d2] }
  | _ => none }
def fnExactRacksOfRow : OpenClaim := { program := "ytgcliajajcinpaa", sum := "21331b26d72d77bb128db400b928a34428b708bd7a6d25abee698afdfdf5d6ed", func := "loop.example/g00361/laws.FnExactRacksOf", spec := "fnExactRacksOf", unfollowed := true, recurses := true, apart := false }
def FnExactRacksOfSaid : Prop := fnExactRacksOfRow.holds Try.pinned (OpenSpec.ofChange fnExactRacksOfSpec)

/-- ITS FALSE NEIGHBOUR: 'it returns false'. Refute it at one input. -/
def fnExactRacksOfWrong : ChangeSpec := { name := "fnExactRacksOf", fn := fun _ => fun
  | [d1, d2] => { results := [.lit (.bool false)], args := [d1, d2] }
  | _ => none }
def FnExactRacksOfWrongFalsely : Prop := fnExactRacksOfRow.holds Try.pinned (OpenSpec.ofChange fnExactRacksOfWrong)

/-- 'laws.FnRacks': WHATEVER THE INPUT: true; the input reads as it did. -/
def fnRacksSpec : ChangeSpec := { name := "fnRacks", fn := fun _ => fun
  | [d1, d2] => { results := [.lit (.bool true)], args := [d1, d2] }
  | _ => none }
def fnRacksRow : OpenClaim := { program := "ytgcliajajcinpaa", sum := "21331b26d72d77bb128db400b928a34428b708bd7a6d25abee698afdfdf5d6ed", func := "loop.example/g00361/laws.FnRacks", spec := "fnRacks", unfollowed := true, recurses := true, apart := false }
def FnRacksSaid : Prop := fnRacksRow.holds Try.pinned (OpenSpec.ofChange fnRacksSpec)

/-- ITS FALSE NEIGHBOUR: 'it returns false'. Refute it at one input. -/
def fnRacksWrong : ChangeSpec := { name := "fnRacks", fn := fun _ => fun
  | [d1, d2] => { results := [.lit (.bool false)], args := [d1, d2] }
  | _ => none }
def FnRacksWrongFalsely : Prop := fnRacksRow.holds Try.pinned (OpenSpec.ofChange fnRacksWrong)

/-- 'laws.FnExactDropHome': WHATEVER THE INPUT: true; the input reads as it did. -/
def fnExactDropHomeSpec : ChangeSpec := { name := "fnExactDropHome", fn := fun _ => fun
  | [d1, d2, d3] => { results := [.lit (.bool true)], args := [d1, d2, d3] }
  | _ => none }
def fnExactDropHomeRow : OpenClaim := { program := "ytgcliajajcinpaa", sum := "21331b26d72d77bb128db400b928a34428b708bd7a6d25abee698afdfdf5d6ed", func := "loop.example/g00361/laws.FnExactDropHome", spec := "fnExactDropHome", unfollowed := true, recurses := true, apart := false }
def FnExactDropHomeSaid : Prop := fnExactDropHomeRow.holds Try.pinned (OpenSpec.ofChange fnExactDropHomeSpec)

/-- ITS FALSE NEIGHBOUR: 'it returns false'. Refute it at one input. -/
def fnExactDropHomeWrong : ChangeSpec := { name := "fnExactDropHome", fn := fun _ => fun
  | [d1, d2, d3] => { results := [.lit (.bool false)], args := [d1, d2, d3] }
  | _ => none }
def FnExactDropHomeWrongFalsely : Prop := fnExactDropHomeRow.holds Try.pinned (OpenSpec.ofChange fnExactDropHomeWrong)

/-- 'laws.FnExactSpreadEven': WHATEVER THE INPUT: true; the input reads as it did. -/
def fnExactSpreadEvenSpec : ChangeSpec := { name := "fnExactSpreadEven", fn := fun _ => fun
  | [d1, d2] => { results := [.lit (.bool true)], args := [d1, d2] }
  | _ => none }
def fnExactSpreadEvenRow : OpenClaim := { program := "ytgcliajajcinpaa", sum := "21331b26d72d77bb128db400b928a34428b708bd7a6d25abee698afdfdf5d6ed", func := "loop.example/g00361/laws.FnExactSpreadEven", spec := "fnExactSpreadEven", unfollowed := true, recurses := true, apart := false }
def FnExactSpreadEvenSaid : Prop := fnExactSpreadEvenRow.holds Try.pinned (OpenSpec.ofChange fnExactSpreadEvenSpec)

/-- ITS FALSE NEIGHBOUR: 'it returns false'. Refute it at one input. -/
def fnExactSpreadEvenWrong : ChangeSpec := { name := "fnExactSpreadEven", fn := fun _ => fun
  | [d1, d2] => { results := [.lit (.bool false)], args := [d1, d2] }
  | _ => none }
def FnExactSpreadEvenWrongFalsely : Prop := fnExactSpreadEvenRow.holds Try.pinned (OpenSpec.ofChange fnExactSpreadEvenWrong)

/-- 'laws.FnExactFewestMoves': WHATEVER THE INPUT: true; the input reads as it did. -/
def fnExactFewestMovesSpec : ChangeSpec := { name := "fnExactFewestMoves", fn := fun _ => fun
  | [d1, d2] => { results := [.lit (.bool true)], args := [d1, d2] }
  | _ => none }
def fnExactFewestMovesRow : OpenClaim := { program := "ytgcliajajcinpaa", sum := "21331b26d72d77bb128db400b928a34428b708bd7a6d25abee698afdfdf5d6ed", func := "loop.example/g00361/laws.FnExactFewestMoves", spec := "fnExactFewestMoves", unfollowed := true, recurses := true, apart := false }
def FnExactFewestMovesSaid : Prop := fnExactFewestMovesRow.holds Try.pinned (OpenSpec.ofChange fnExactFewestMovesSpec)

/-- ITS FALSE NEIGHBOUR: 'it returns false'. Refute it at one input. -/
def fnExactFewestMovesWrong : ChangeSpec := { name := "fnExactFewestMoves", fn := fun _ => fun
  | [d1, d2] => { results := [.lit (.bool false)], args := [d1, d2] }
  | _ => none }
def FnExactFewestMovesWrongFalsely : Prop := fnExactFewestMovesRow.holds Try.pinned (OpenSpec.ofChange fnExactFewestMovesWrong)

/- THE SECOND FORM. 'bulk': how many values and letters a reading holds, each counted each time it is reached (what is shared counts as often as it is met; a slice's spare places count too). A statement '..UptoSaid' is the law's where the arguments, and the package variables that the reading takes, are together of bulk at most 1048576: NARROWER than '..Said'. Prove '..Said' where nothing that the law and all that it calls make is longer than what came in: it says more and counts as full. Else prove '..UptoSaid'. A law counts once. -/
mutual
def uptoBulk {H : Type} : DataW H → Nat
  | .lit (.string bytes) => bytes.length + 1
  | .lit _ => 1
  | .nil => 1
  | .ptr d => uptoBulk d + 1
  | .slice elems spare => uptoBulkAll elems + uptoBulkAll spare + 1
  | .agg parts => uptoBulkAll parts + 1
  | .iface _ d => uptoBulk d + 1
  | .map entries => uptoBulkEntries entries + 1
  | .held _ => 1
def uptoBulkAll {H : Type} : List (DataW H) → Nat
  | [] => 0
  | d :: r => uptoBulk d + uptoBulkAll r
def uptoBulkEntries {H : Type} : List (Lit × DataW H) → Nat
  | [] => 0
  | x :: r => uptoBulkEntry x + uptoBulkEntries r
def uptoBulkEntry {H : Type} : Lit × DataW H → Nat
  | (.string bytes, d) => bytes.length + uptoBulk d + 1
  | (_, d) => uptoBulk d + 1
 end
def uptoSmall : (H : Type) → List (DataW H) → Bool := fun _ ds => decide (uptoBulkAll ds ≤ 1048576)
def OpenSpec.upto (s : _root_.Go.ChangeSpec) : _root_.Go.OpenSpec := { _root_.Go.OpenSpec.ofChange s with cond := some uptoSmall }

/-- 'laws.FnExactGoodPlaces', WHERE WHAT IT READS IS OF BULK AT MOST 1048576: true; the input reads as it did. -/
def fnExactGoodPlacesUptoRow : OpenClaim := { program := "ytgcliajajcinpaa", sum := "21331b26d72d77bb128db400b928a34428b708bd7a6d25abee698afdfdf5d6ed", func := "loop.example/g00361/laws.FnExactGoodPlaces", spec := "fnExactGoodPlaces", unfollowed := true, recurses := true, apart := false, narrowed := true }
def FnExactGoodPlacesUptoSaid : Prop := fnExactGoodPlacesUptoRow.holds Try.pinned (OpenSpec.upto fnExactGoodPlacesSpec)

/-- 'laws.FnExactMovesTo', WHERE WHAT IT READS IS OF BULK AT MOST 1048576: true; the input reads as it did. -/
def fnExactMovesToUptoRow : OpenClaim := { program := "ytgcliajajcinpaa", sum := "21331b26d72d77bb128db400b928a34428b708bd7a6d25abee698afdfdf5d6ed", func := "loop.example/g00361/laws.FnExactMovesTo", spec := "fnExactMovesTo", unfollowed := true, recurses := true, apart := false, narrowed := true }
def FnExactMovesToUptoSaid : Prop := fnExactMovesToUptoRow.holds Try.pinned (OpenSpec.upto fnExactMovesToSpec)

/-- 'laws.FnExactLoadsOf', WHERE WHAT IT READS IS OF BULK AT MOST 1048576: true; the input reads as it did. -/
def fnExactLoadsOfUptoRow : OpenClaim := { program := "ytgcliajajcinpaa", sum := "21331b26d72d77bb128db400b928a34428b708bd7a6d25abee698afdfdf5d6ed", func := "loop.example/g00361/laws.FnExactLoadsOf", spec := "fnExactLoadsOf", unfollowed := true, recurses := true, apart := false, narrowed := true }
def FnExactLoadsOfUptoSaid : Prop := fnExactLoadsOfUptoRow.holds Try.pinned (OpenSpec.upto fnExactLoadsOfSpec)

/-- 'laws.FnSpread', WHERE WHAT IT READS IS OF BULK AT MOST 1048576: true; the input reads as it did. -/
def fnSpreadUptoRow : OpenClaim := { program := "ytgcliajajcinpaa", sum := "21331b26d72d77bb128db400b928a34428b708bd7a6d25abee698afdfdf5d6ed", func := "loop.example/g00361/laws.FnSpread", spec := "fnSpread", unfollowed := true, recurses := true, apart := false, narrowed := true }
def FnSpreadUptoSaid : Prop := fnSpreadUptoRow.holds Try.pinned (OpenSpec.upto fnSpreadSpec)

/-- 'laws.FnExactIsEven', WHERE WHAT IT READS IS OF BULK AT MOST 1048576: true; the input reads as it did. -/
def fnExactIsEvenUptoRow : OpenClaim := { program := "ytgcliajajcinpaa", sum := "21331b26d72d77bb128db400b928a34428b708bd7a6d25abee698afdfdf5d6ed", func := "loop.example/g00361/laws.FnExactIsEven", spec := "fnExactIsEven", unfollowed := true, recurses := true, apart := false, narrowed := true }
def FnExactIsEvenUptoSaid : Prop := fnExactIsEvenUptoRow.holds Try.pinned (OpenSpec.upto fnExactIsEvenSpec)

/-- 'laws.FnExactRackSafe', WHERE WHAT IT READS IS OF BULK AT MOST 1048576: true; the input reads as it did. -/
def fnExactRackSafeUptoRow : OpenClaim := { program := "ytgcliajajcinpaa", sum := "21331b26d72d77bb128db400b928a34428b708bd7a6d25abee698afdfdf5d6ed", func := "loop.example/g00361/laws.FnExactRackSafe", spec := "fnExactRackSafe", unfollowed := true, recurses := true, apart := false, narrowed := true }
def FnExactRackSafeUptoSaid : Prop := fnExactRackSafeUptoRow.holds Try.pinned (OpenSpec.upto fnExactRackSafeSpec)

/-- 'laws.FnExactRacksOf', WHERE WHAT IT READS IS OF BULK AT MOST 1048576: true; the input reads as it did. -/
def fnExactRacksOfUptoRow : OpenClaim := { program := "ytgcliajajcinpaa", sum := "21331b26d72d77bb128db400b928a34428b708bd7a6d25abee698afdfdf5d6ed", func := "loop.example/g00361/laws.FnExactRacksOf", spec := "fnExactRacksOf", unfollowed := true, recurses := true, apart := false, narrowed := true }
def FnExactRacksOfUptoSaid : Prop := fnExactRacksOfUptoRow.holds Try.pinned (OpenSpec.upto fnExactRacksOfSpec)

/-- 'laws.FnRacks', WHERE WHAT IT READS IS OF BULK AT MOST 1048576: true; the input reads as it did. -/
def fnRacksUptoRow : OpenClaim := { program := "ytgcliajajcinpaa", sum := "21331b26d72d77bb128db400b928a34428b708bd7a6d25abee698afdfdf5d6ed", func := "loop.example/g00361/laws.FnRacks", spec := "fnRacks", unfollowed := true, recurses := true, apart := false, narrowed := true }
def FnRacksUptoSaid : Prop := fnRacksUptoRow.holds Try.pinned (OpenSpec.upto fnRacksSpec)

/-- 'laws.FnExactDropHome', WHERE WHAT IT READS IS OF BULK AT MOST 1048576: true; the input reads as it did. -/
def fnExactDropHomeUptoRow : OpenClaim := { program := "ytgcliajajcinpaa", sum := "21331b26d72d77bb128db400b928a34428b708bd7a6d25abee698afdfdf5d6ed", func := "loop.example/g00361/laws.FnExactDropHome", spec := "fnExactDropHome", unfollowed := true, recurses := true, apart := false, narrowed := true }
def FnExactDropHomeUptoSaid : Prop := fnExactDropHomeUptoRow.holds Try.pinned (OpenSpec.upto fnExactDropHomeSpec)

/-- 'laws.FnExactSpreadEven', WHERE WHAT IT READS IS OF BULK AT MOST 1048576: true; the input reads as it did. -/
def fnExactSpreadEvenUptoRow : OpenClaim := { program := "ytgcliajajcinpaa", sum := "21331b26d72d77bb128db400b928a34428b708bd7a6d25abee698afdfdf5d6ed", func := "loop.example/g00361/laws.FnExactSpreadEven", spec := "fnExactSpreadEven", unfollowed := true, recurses := true, apart := false, narrowed := true }
def FnExactSpreadEvenUptoSaid : Prop := fnExactSpreadEvenUptoRow.holds Try.pinned (OpenSpec.upto fnExactSpreadEvenSpec)

/-- 'laws.FnExactFewestMoves', WHERE WHAT IT READS IS OF BULK AT MOST 1048576: true; the input reads as it did. -/
def fnExactFewestMovesUptoRow : OpenClaim := { program := "ytgcliajajcinpaa", sum := "21331b26d72d77bb128db400b928a34428b708bd7a6d25abee698afdfdf5d6ed", func := "loop.example/g00361/laws.FnExactFewestMoves", spec := "fnExactFewestMoves", unfollowed := true, recurses := true, apart := false, narrowed := true }
def FnExactFewestMovesUptoSaid : Prop := fnExactFewestMovesUptoRow.holds Try.pinned (OpenSpec.upto fnExactFewestMovesSpec)

end Rows
end Go.Proofs.Ytgcliajajcinpaa
