/-
  No cell of these rows narrows 'for every input' (looked for: loops, veiled, ifaces, maps, wideKeys, modest, calm, conditions, laid).
  DERIVED. THE GIVEN ROWS OF THIS SEAT. 9 by the template 'for every input the law returns true; each argument reads behind the call as it read before'; 0 by the template 'total and deterministic' (their statements: YtfdgmknjmljhbaaTotals.lean).
  GIVEN WITH THE SEED: the statements are not yours to turn. If you find one false, say at which input.
  Laid BY PROGRAM, IN A SANDBOX (cutbox-rows.mjs): the forced cells as the released guide's own fill.sh prints them over the translation 3007424a1227b01d… (all of the seat's roots in one cut). By AI agents, Wed Nov 11 2026. No macro, syntax, notation, axiom, sorry.
-/
import Derived.Test.YtfdgmknjmljhbaaChecked
import GoSem.Claim
import GoSem.ClaimJoined
import GoSem.ClaimMapViews
import Derived.JoinedTies
import Derived.KernelRfl
namespace Go.Proofs.Ytfdgmknjmljhbaa
/- THE CELL 'sum', in the pinned program and in every row, IS THE sha256 OF THE DUMP (.gsa) THAT YtfdgmknjmljhbaaProg.lean LOADS. Nothing in Lean hashes anything: it is a label: what it is worth is what the hold of that sum in a sandbox is worth. -/
noncomputable def Try.pinned : Pinned := { name := "ytfdgmknjmljhbaa", sum := "3007424a1227b01da77b7643a2e3a0d5a07fbd1cccc2175eb401b8d9ea5d5138", checked := Try.checked }
namespace Rows
def none {H : Type} : Left H := { results := [], args := [] }

/-- 'laws.FnExactNewReaders': WHATEVER THE INPUT: true; the input reads as it did. -/
def fnExactNewReadersSpec : ChangeSpec := { name := "fnExactNewReaders", fn := fun _ => fun
  | [d1, d2] => { results := [.lit (.bool true)], args := [d1, d2] }
  | _ => none }
def fnExactNewReadersRow : OpenClaim := { program := "ytfdgmknjmljhbaa", sum := "3007424a1227b01da77b7643a2e3a0d5a07fbd1cccc2175eb401b8d9ea5d5138", func := "loop.example/g00361/laws.FnExactNewReaders", spec := "fnExactNewReaders", unfollowed := true, recurses := true, apart := false }
def FnExactNewReadersSaid : Prop := fnExactNewReadersRow.holds Try.pinned (OpenSpec.ofChange fnExactNewReadersSpec)

/-- ITS FALSE NEIGHBOUR: 'it returns false'. Refute it at one input. -/
def fnExactNewReadersWrong : ChangeSpec := { name := "fnExactNewReaders", fn := fun _ => fun
  | [d1, d2] => { results := [.lit (.bool false)], args := [d1, d2] }
  | _ => none }
def FnExactNewReadersWrongFalsely : Prop := fnExactNewReadersRow.holds Try.pinned (OpenSpec.ofChange fnExactNewReadersWrong)

/-- 'laws.FnExactNewGroup': WHATEVER THE INPUT: true; the input reads as it did. -/
def fnExactNewGroupSpec : ChangeSpec := { name := "fnExactNewGroup", fn := fun _ => fun
  | [d] => { results := [.lit (.bool true)], args := [d] }
  | _ => none }
def fnExactNewGroupRow : OpenClaim := { program := "ytfdgmknjmljhbaa", sum := "3007424a1227b01da77b7643a2e3a0d5a07fbd1cccc2175eb401b8d9ea5d5138", func := "loop.example/g00361/laws.FnExactNewGroup", spec := "fnExactNewGroup", apart := false }
def FnExactNewGroupSaid : Prop := fnExactNewGroupRow.holds Try.pinned (OpenSpec.ofChange fnExactNewGroupSpec)

/-- ITS FALSE NEIGHBOUR: 'it returns false'. Refute it at one input. -/
def fnExactNewGroupWrong : ChangeSpec := { name := "fnExactNewGroup", fn := fun _ => fun
  | [d] => { results := [.lit (.bool false)], args := [d] }
  | _ => none }
def FnExactNewGroupWrongFalsely : Prop := fnExactNewGroupRow.holds Try.pinned (OpenSpec.ofChange fnExactNewGroupWrong)

/-- 'laws.FnExactGoodGroup': WHATEVER THE INPUT: true; the input reads as it did. -/
def fnExactGoodGroupSpec : ChangeSpec := { name := "fnExactGoodGroup", fn := fun _ => fun
  | [d] => { results := [.lit (.bool true)], args := [d] }
  | _ => none }
def fnExactGoodGroupRow : OpenClaim := { program := "ytfdgmknjmljhbaa", sum := "3007424a1227b01da77b7643a2e3a0d5a07fbd1cccc2175eb401b8d9ea5d5138", func := "loop.example/g00361/laws.FnExactGoodGroup", spec := "fnExactGoodGroup", apart := false }
def FnExactGoodGroupSaid : Prop := fnExactGoodGroupRow.holds Try.pinned (OpenSpec.ofChange fnExactGoodGroupSpec)

/-- ITS FALSE NEIGHBOUR: 'it returns false'. Refute it at one input. -/
def fnExactGoodGroupWrong : ChangeSpec := { name := "fnExactGoodGroup", fn := fun _ => fun
  | [d] => { results := [.lit (.bool false)], args := [d] }
  | _ => none }
def FnExactGoodGroupWrongFalsely : Prop := fnExactGoodGroupRow.holds Try.pinned (OpenSpec.ofChange fnExactGoodGroupWrong)

/-- 'laws.FnExactLagIn': WHATEVER THE INPUT: true; the input reads as it did. -/
def fnExactLagInSpec : ChangeSpec := { name := "fnExactLagIn", fn := fun _ => fun
  | [d1, d2] => { results := [.lit (.bool true)], args := [d1, d2] }
  | _ => none }
def fnExactLagInRow : OpenClaim := { program := "ytfdgmknjmljhbaa", sum := "3007424a1227b01da77b7643a2e3a0d5a07fbd1cccc2175eb401b8d9ea5d5138", func := "loop.example/g00361/laws.FnExactLagIn", spec := "fnExactLagIn", apart := false }
def FnExactLagInSaid : Prop := fnExactLagInRow.holds Try.pinned (OpenSpec.ofChange fnExactLagInSpec)

/-- ITS FALSE NEIGHBOUR: 'it returns false'. Refute it at one input. -/
def fnExactLagInWrong : ChangeSpec := { name := "fnExactLagIn", fn := fun _ => fun
  | [d1, d2] => { results := [.lit (.bool false)], args := [d1, d2] }
  | _ => none }
def FnExactLagInWrongFalsely : Prop := fnExactLagInRow.holds Try.pinned (OpenSpec.ofChange fnExactLagInWrong)

/-- 'laws.FnExactGoodReaders': WHATEVER THE INPUT: true; the input reads as it did. -/
def fnExactGoodReadersSpec : ChangeSpec := { name := "fnExactGoodReaders", fn := fun _ => fun
  | [d] => { results := [.lit (.bool true)], args := [d] }
  | _ => none }
def fnExactGoodReadersRow : OpenClaim := { program := "ytfdgmknjmljhbaa", sum := "3007424a1227b01da77b7643a2e3a0d5a07fbd1cccc2175eb401b8d9ea5d5138", func := "loop.example/g00361/laws.FnExactGoodReaders", spec := "fnExactGoodReaders", unfollowed := true, recurses := true, apart := false }
def FnExactGoodReadersSaid : Prop := fnExactGoodReadersRow.holds Try.pinned (OpenSpec.ofChange fnExactGoodReadersSpec)

/-- ITS FALSE NEIGHBOUR: 'it returns false'. Refute it at one input. -/
def fnExactGoodReadersWrong : ChangeSpec := { name := "fnExactGoodReaders", fn := fun _ => fun
  | [d] => { results := [.lit (.bool false)], args := [d] }
  | _ => none }
def FnExactGoodReadersWrongFalsely : Prop := fnExactGoodReadersRow.holds Try.pinned (OpenSpec.ofChange fnExactGoodReadersWrong)

/-- 'laws.FnExactLeftToRead': WHATEVER THE INPUT: true; the input reads as it did. -/
def fnExactLeftToReadSpec : ChangeSpec := { name := "fnExactLeftToRead", fn := fun _ => fun
  | [d] => { results := [.lit (.bool true)], args := [d] }
  | _ => none }
def fnExactLeftToReadRow : OpenClaim := { program := "ytfdgmknjmljhbaa", sum := "3007424a1227b01da77b7643a2e3a0d5a07fbd1cccc2175eb401b8d9ea5d5138", func := "loop.example/g00361/laws.FnExactLeftToRead", spec := "fnExactLeftToRead", unfollowed := true, recurses := true, apart := false }
def FnExactLeftToReadSaid : Prop := fnExactLeftToReadRow.holds Try.pinned (OpenSpec.ofChange fnExactLeftToReadSpec)

/-- ITS FALSE NEIGHBOUR: 'it returns false'. Refute it at one input. -/
def fnExactLeftToReadWrong : ChangeSpec := { name := "fnExactLeftToRead", fn := fun _ => fun
  | [d] => { results := [.lit (.bool false)], args := [d] }
  | _ => none }
def FnExactLeftToReadWrongFalsely : Prop := fnExactLeftToReadRow.holds Try.pinned (OpenSpec.ofChange fnExactLeftToReadWrong)

/-- 'laws.FnExactOwnerOf': WHATEVER THE INPUT: true; the input reads as it did. -/
def fnExactOwnerOfSpec : ChangeSpec := { name := "fnExactOwnerOf", fn := fun _ => fun
  | [d1, d2] => { results := [.lit (.bool true)], args := [d1, d2] }
  | _ => none }
def fnExactOwnerOfRow : OpenClaim := { program := "ytfdgmknjmljhbaa", sum := "3007424a1227b01da77b7643a2e3a0d5a07fbd1cccc2175eb401b8d9ea5d5138", func := "loop.example/g00361/laws.FnExactOwnerOf", spec := "fnExactOwnerOf", unfollowed := true, recurses := true, apart := false }
def FnExactOwnerOfSaid : Prop := fnExactOwnerOfRow.holds Try.pinned (OpenSpec.ofChange fnExactOwnerOfSpec)

/-- ITS FALSE NEIGHBOUR: 'it returns false'. Refute it at one input. -/
def fnExactOwnerOfWrong : ChangeSpec := { name := "fnExactOwnerOf", fn := fun _ => fun
  | [d1, d2] => { results := [.lit (.bool false)], args := [d1, d2] }
  | _ => none }
def FnExactOwnerOfWrongFalsely : Prop := fnExactOwnerOfRow.holds Try.pinned (OpenSpec.ofChange fnExactOwnerOfWrong)

/-- 'laws.FnExactCommittedRows': WHATEVER THE INPUT: true; the input reads as it did. -/
def fnExactCommittedRowsSpec : ChangeSpec := { name := "fnExactCommittedRows", fn := fun _ => fun
  | [d] => { results := [.lit (.bool true)], args := [d] }
  | _ => none }
def fnExactCommittedRowsRow : OpenClaim := { program := "ytfdgmknjmljhbaa", sum := "3007424a1227b01da77b7643a2e3a0d5a07fbd1cccc2175eb401b8d9ea5d5138", func := "loop.example/g00361/laws.FnExactCommittedRows", spec := "fnExactCommittedRows", apart := false }
def FnExactCommittedRowsSaid : Prop := fnExactCommittedRowsRow.holds Try.pinned (OpenSpec.ofChange fnExactCommittedRowsSpec)

/-- ITS FALSE NEIGHBOUR: 'it returns false'. Refute it at one input. -/
def fnExactCommittedRowsWrong : ChangeSpec := { name := "fnExactCommittedRows", fn := fun _ => fun
  | [d] => { results := [.lit (.bool false)], args := [d] }
  | _ => none }
def FnExactCommittedRowsWrongFalsely : Prop := fnExactCommittedRowsRow.holds Try.pinned (OpenSpec.ofChange fnExactCommittedRowsWrong)

/-- 'laws.FnExactShareOf': WHATEVER THE INPUT: true; the input reads as it did. -/
def fnExactShareOfSpec : ChangeSpec := { name := "fnExactShareOf", fn := fun _ => fun
  | [d1, d2] => { results := [.lit (.bool true)], args := [d1, d2] }
  | _ => none }
def fnExactShareOfRow : OpenClaim := { program := "ytfdgmknjmljhbaa", sum := "3007424a1227b01da77b7643a2e3a0d5a07fbd1cccc2175eb401b8d9ea5d5138", func := "loop.example/g00361/laws.FnExactShareOf", spec := "fnExactShareOf", unfollowed := true, recurses := true, apart := false }
def FnExactShareOfSaid : Prop := fnExactShareOfRow.holds Try.pinned (OpenSpec.ofChange fnExactShareOfSpec)

/-- ITS FALSE NEIGHBOUR: 'it returns false'. Refute it at one input. -/
def fnExactShareOfWrong : ChangeSpec := { name := "fnExactShareOf", fn := fun _ => fun
  | [d1, d2] => { results := [.lit (.bool false)], args := [d1, d2] }
  | _ => none }
def FnExactShareOfWrongFalsely : Prop := fnExactShareOfRow.holds Try.pinned (OpenSpec.ofChange fnExactShareOfWrong)

/- THE SECOND FORM. 'bulk': how many values and letters a reading holds, each counted each time it is reached (what is shared counts as often as it is met; a slice's spare places count too). A statement '..UptoSaid' is the law's where the arguments, and the package variables that the reading takes, are together of bulk at most 1048576: NARROWER than '..Said'. Prove '..Said' where nothing that the law and all that it calls make is longer than what came in: it says more and counts as full. Else prove '..UptoSaid'. A law counts once. -/
mutual
def uptoBulk {H : Type} : DataW H → Nat
  | .lit (.string bytes) => bytes.length + 1
  | .lit _ => 1
  | .nil => 1
  | .ptr d => uptoBulk d + 1
  | .slice elems spare => uptoBulkAll elems + uptoBulkAll spare + 1
  | .agg parts => uptoBulkAll parts + 1
  | .iface _ d => uptoBulk d + 1
  | .map entries => uptoBulkEntries entries + 1
  | .held _ => 1
def uptoBulkAll {H : Type} : List (DataW H) → Nat
  | [] => 0
  | d :: r => uptoBulk d + uptoBulkAll r
def uptoBulkEntries {H : Type} : List (Lit × DataW H) → Nat
  | [] => 0
  | x :: r => uptoBulkEntry x + uptoBulkEntries r
def uptoBulkEntry {H : Type} : Lit × DataW H → Nat
  | (.string bytes, d) => bytes.length + uptoBulk d + 1
  | (_, d) => uptoBulk d + 1
 end
def uptoSmall : (H : Type) → List (DataW H) → Bool := fun _ ds => decide (uptoBulkAll ds ≤ 1048576)
def OpenSpec.upto (s : _root_.Go.ChangeSpec) : _root_.Go.OpenSpec := { _root_.Go.OpenSpec.ofChange s with cond := some uptoSmall }

/-- 'laws.FnExactNewReaders', WHERE WHAT IT READS IS OF BULK AT MOST 1048576: true; the input reads as it did. -/
def fnExactNewReadersUptoRow : OpenClaim := { program := "ytfdgmknjmljhbaa", sum := "3007424a1227b01da77b7643a2e3a0d5a07fbd1cccc2175eb401b8d9ea5d5138", func := "loop.example/g00361/laws.FnExactNewReaders", spec := "fnExactNewReaders", unfollowed := true, recurses := true, apart := false, narrowed := true }
def FnExactNewReadersUptoSaid : Prop := fnExactNewReadersUptoRow.holds Try.pinned (OpenSpec.upto fnExactNewReadersSpec)

/-- 'laws.FnExactNewGroup', WHERE WHAT IT READS IS OF BULK AT MOST 1048576: true; the input reads as it did. -/
def fnExactNewGroupUptoRow : OpenClaim := { program := "ytfdgmknjmljhbaa", sum := "3007424a1227b01da77b7643a2e3a0d5a07fbd1cccc2175eb401b8d9ea5d5138", func := "loop.example/g00361/laws.FnExactNewGroup", spec := "fnExactNewGroup", apart := false, narrowed := true }
def FnExactNewGroupUptoSaid : Prop := fnExactNewGroupUptoRow.holds Try.pinned (OpenSpec.upto fnExactNewGroupSpec)

/-- 'laws.FnExactGoodGroup', WHERE WHAT IT READS IS OF BULK AT MOST 1048576: true; the input reads as it did. -/
def fnExactGoodGroupUptoRow : OpenClaim := { program := "ytfdgmknjmljhbaa", sum := "3007424a1227b01da77b7643a2e3a0d5a07fbd1cccc2175eb401b8d9ea5d5138", func := "loop.example/g00361/laws.FnExactGoodGroup", spec := "fnExactGoodGroup", apart := false, narrowed := true }
def FnExactGoodGroupUptoSaid : Prop := fnExactGoodGroupUptoRow.holds Try.pinned (OpenSpec.upto fnExactGoodGroupSpec)

/-- 'laws.FnExactLagIn', WHERE WHAT IT READS IS OF BULK AT MOST 1048576: true; the input reads as it did. -/
def fnExactLagInUptoRow : OpenClaim := { program := "ytfdgmknjmljhbaa", sum := "3007424a1227b01da77b7643a2e3a0d5a07fbd1cccc2175eb401b8d9ea5d5138", func := "loop.example/g00361/laws.FnExactLagIn", spec := "fnExactLagIn", apart := false, narrowed := true }
def FnExactLagInUptoSaid : Prop := fnExactLagInUptoRow.holds Try.pinned (OpenSpec.upto fnExactLagInSpec)

/-- 'laws.FnExactGoodReaders', WHERE WHAT IT READS IS OF BULK AT MOST 1048576: true; the input reads as it did. -/
def fnExactGoodReadersUptoRow : OpenClaim := { program := "ytfdgmknjmljhbaa", sum := "3007424a1227b01da77b7643a2e3a0d5a07fbd1cccc2175eb401b8d9ea5d5138", func := "loop.example/g00361/laws.FnExactGoodReaders", spec := "fnExactGoodReaders", unfollowed := true, recurses := true, apart := false, narrowed := true }
def FnExactGoodReadersUptoSaid : Prop := fnExactGoodReadersUptoRow.holds Try.pinned (OpenSpec.upto fnExactGoodReadersSpec)

/-- 'laws.FnExactLeftToRead', WHERE WHAT IT READS IS OF BULK AT MOST 1048576: true; the input reads as it did. -/
def fnExactLeftToReadUptoRow : OpenClaim := { program := "ytfdgmknjmljhbaa", sum := "3007424a1227b01da77b7643a2e3a0d5a07fbd1cccc2175eb401b8d9ea5d5138", func := "loop.example/g00361/laws.FnExactLeftToRead", spec := "fnExactLeftToRead", unfollowed := true, recurses := true, apart := false, narrowed := true }
def FnExactLeftToReadUptoSaid : Prop := fnExactLeftToReadUptoRow.holds Try.pinned (OpenSpec.upto fnExactLeftToReadSpec)

/-- 'laws.FnExactOwnerOf', WHERE WHAT IT READS IS OF BULK AT MOST 1048576: true; the input reads as it did. -/
def fnExactOwnerOfUptoRow : OpenClaim := { program := "ytfdgmknjmljhbaa", sum := "3007424a1227b01da77b7643a2e3a0d5a07fbd1cccc2175eb401b8d9ea5d5138", func := "loop.example/g00361/laws.FnExactOwnerOf", spec := "fnExactOwnerOf", unfollowed := true, recurses := true, apart := false, narrowed := true }
def FnExactOwnerOfUptoSaid : Prop := fnExactOwnerOfUptoRow.holds Try.pinned (OpenSpec.upto fnExactOwnerOfSpec)

/-- 'laws.FnExactCommittedRows', WHERE WHAT IT READS IS OF BULK AT MOST 1048576: true; the input reads as it did. -/
def fnExactCommittedRowsUptoRow : OpenClaim := { program := "ytfdgmknjmljhbaa", sum := "3007424a1227b01da77b7643a2e3a0d5a07fbd1cccc2175eb401b8d9ea5d5138", func := "loop.example/g00361/laws.FnExactCommittedRows", spec := "fnExactCommittedRows", apart := false, narrowed := true }
def FnExactCommittedRowsUptoSaid : Prop := fnExactCommittedRowsUptoRow.holds Try.pinned (OpenSpec.upto fnExactCommittedRowsSpec)

/-- 'laws.FnExactShareOf', WHERE WHAT IT READS IS OF BULK AT MOST 1048576: true; the input reads as it did. -/
def fnExactShareOfUptoRow : OpenClaim := { program := "ytfdgmknjmljhbaa", sum := "3007424a1227b01da77b7643a2e3a0d5a07fbd1cccc2175eb401b8d9ea5d5138", func := "loop.example/g00361/laws.FnExactShareOf", spec := "fnExactShareOf", unfollowed := true, recurses := true, apart := false, narrowed := true }
def FnExactShareOfUptoSaid : Prop := fnExactShareOfUptoRow.holds Try.pinned (OpenSpec.upto fnExactShareOfSpec)

end Rows
end Go.Proofs.Ytfdgmknjmljhbaa
