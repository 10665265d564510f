/-
  No cell of these rows narrows 'for every input' (looked for: loops, veiled, ifaces, maps, wideKeys, modest, calm, conditions, laid).
  DERIVED. THE GIVEN ROWS OF THIS SEAT. 9 by the template 'for every input the law returns true; each argument reads behind the call as it read before'; 0 by the template 'total and deterministic' (their statements: YtmkiffemanmgcaaTotals.lean).
  GIVEN WITH THE SEED: the statements are not yours to turn. If you find one false, say at which input.
  Laid BY PROGRAM, IN A SANDBOX (cutbox-rows.mjs): the forced cells as the released guide's own fill.sh prints them over the translation b2657de9ea194c6e… (all of the seat's roots in one cut). By AI agents, Wed Nov 11 2026. No macro, syntax, notation, axiom, sorry.
-/
import Derived.Test.YtmkiffemanmgcaaChecked
import GoSem.Claim
import GoSem.ClaimJoined
import GoSem.ClaimMapViews
import Derived.JoinedTies
import Derived.KernelRfl
namespace Go.Proofs.Ytmkiffemanmgcaa
/- THE CELL 'sum', in the pinned program and in every row, IS THE sha256 OF THE DUMP (.gsa) THAT YtmkiffemanmgcaaProg.lean LOADS. Nothing in Lean hashes anything: it is a label: what it is worth is what the hold of that sum in a sandbox is worth. -/
noncomputable def Try.pinned : Pinned := { name := "ytmkiffemanmgcaa", sum := "b2657de9ea194c6e95bdf6a8bfd4ce42990d3654f49bc586eb9843d14d89b40a", checked := Try.checked }
namespace Rows
def none {H : Type} : Left H := { results := [], args := [] }

/-- 'laws.FnExactNewControl': WHATEVER THE INPUT: true; the input reads as it did. -/
def fnExactNewControlSpec : ChangeSpec := { name := "fnExactNewControl", fn := fun _ => fun
  | [d] => { results := [.lit (.bool true)], args := [d] }
  | _ => none }
def fnExactNewControlRow : OpenClaim := { program := "ytmkiffemanmgcaa", sum := "b2657de9ea194c6e95bdf6a8bfd4ce42990d3654f49bc586eb9843d14d89b40a", func := "loop.example/g00361/laws.FnExactNewControl", spec := "fnExactNewControl", apart := false }
def FnExactNewControlSaid : Prop := fnExactNewControlRow.holds Try.pinned (OpenSpec.ofChange fnExactNewControlSpec)

/-- ITS FALSE NEIGHBOUR: 'it returns false'. Refute it at one input. -/
def fnExactNewControlWrong : ChangeSpec := { name := "fnExactNewControl", fn := fun _ => fun
  | [d] => { results := [.lit (.bool false)], args := [d] }
  | _ => none }
def FnExactNewControlWrongFalsely : Prop := fnExactNewControlRow.holds Try.pinned (OpenSpec.ofChange fnExactNewControlWrong)

/-- 'laws.FnExactNewSnap': WHATEVER THE INPUT: true; the input reads as it did. -/
def fnExactNewSnapSpec : ChangeSpec := { name := "fnExactNewSnap", fn := fun _ => fun
  | [d1, d2] => { results := [.lit (.bool true)], args := [d1, d2] }
  | _ => none }
def fnExactNewSnapRow : OpenClaim := { program := "ytmkiffemanmgcaa", sum := "b2657de9ea194c6e95bdf6a8bfd4ce42990d3654f49bc586eb9843d14d89b40a", func := "loop.example/g00361/laws.FnExactNewSnap", spec := "fnExactNewSnap", apart := false }
def FnExactNewSnapSaid : Prop := fnExactNewSnapRow.holds Try.pinned (OpenSpec.ofChange fnExactNewSnapSpec)

/-- ITS FALSE NEIGHBOUR: 'it returns false'. Refute it at one input. -/
def fnExactNewSnapWrong : ChangeSpec := { name := "fnExactNewSnap", fn := fun _ => fun
  | [d1, d2] => { results := [.lit (.bool false)], args := [d1, d2] }
  | _ => none }
def FnExactNewSnapWrongFalsely : Prop := fnExactNewSnapRow.holds Try.pinned (OpenSpec.ofChange fnExactNewSnapWrong)

/-- 'laws.FnExactGoodControl': WHATEVER THE INPUT: true; the input reads as it did. -/
def fnExactGoodControlSpec : ChangeSpec := { name := "fnExactGoodControl", fn := fun _ => fun
  | [d] => { results := [.lit (.bool true)], args := [d] }
  | _ => none }
def fnExactGoodControlRow : OpenClaim := { program := "ytmkiffemanmgcaa", sum := "b2657de9ea194c6e95bdf6a8bfd4ce42990d3654f49bc586eb9843d14d89b40a", func := "loop.example/g00361/laws.FnExactGoodControl", spec := "fnExactGoodControl", unfollowed := true, recurses := true, apart := false }
def FnExactGoodControlSaid : Prop := fnExactGoodControlRow.holds Try.pinned (OpenSpec.ofChange fnExactGoodControlSpec)

/-- ITS FALSE NEIGHBOUR: 'it returns false'. Refute it at one input. -/
def fnExactGoodControlWrong : ChangeSpec := { name := "fnExactGoodControl", fn := fun _ => fun
  | [d] => { results := [.lit (.bool false)], args := [d] }
  | _ => none }
def FnExactGoodControlWrongFalsely : Prop := fnExactGoodControlRow.holds Try.pinned (OpenSpec.ofChange fnExactGoodControlWrong)

/-- 'laws.FnExactLiveBrokers': WHATEVER THE INPUT: true; the input reads as it did. -/
def fnExactLiveBrokersSpec : ChangeSpec := { name := "fnExactLiveBrokers", fn := fun _ => fun
  | [d] => { results := [.lit (.bool true)], args := [d] }
  | _ => none }
def fnExactLiveBrokersRow : OpenClaim := { program := "ytmkiffemanmgcaa", sum := "b2657de9ea194c6e95bdf6a8bfd4ce42990d3654f49bc586eb9843d14d89b40a", func := "loop.example/g00361/laws.FnExactLiveBrokers", spec := "fnExactLiveBrokers", unfollowed := true, recurses := true, apart := false }
def FnExactLiveBrokersSaid : Prop := fnExactLiveBrokersRow.holds Try.pinned (OpenSpec.ofChange fnExactLiveBrokersSpec)

/-- ITS FALSE NEIGHBOUR: 'it returns false'. Refute it at one input. -/
def fnExactLiveBrokersWrong : ChangeSpec := { name := "fnExactLiveBrokers", fn := fun _ => fun
  | [d] => { results := [.lit (.bool false)], args := [d] }
  | _ => none }
def FnExactLiveBrokersWrongFalsely : Prop := fnExactLiveBrokersRow.holds Try.pinned (OpenSpec.ofChange fnExactLiveBrokersWrong)

/-- 'laws.FnExactLeadsIn': WHATEVER THE INPUT: true; the input reads as it did. -/
def fnExactLeadsInSpec : ChangeSpec := { name := "fnExactLeadsIn", fn := fun _ => fun
  | [d1, d2] => { results := [.lit (.bool true)], args := [d1, d2] }
  | _ => none }
def fnExactLeadsInRow : OpenClaim := { program := "ytmkiffemanmgcaa", sum := "b2657de9ea194c6e95bdf6a8bfd4ce42990d3654f49bc586eb9843d14d89b40a", func := "loop.example/g00361/laws.FnExactLeadsIn", spec := "fnExactLeadsIn", unfollowed := true, recurses := true, apart := false }
def FnExactLeadsInSaid : Prop := fnExactLeadsInRow.holds Try.pinned (OpenSpec.ofChange fnExactLeadsInSpec)

/-- ITS FALSE NEIGHBOUR: 'it returns false'. Refute it at one input. -/
def fnExactLeadsInWrong : ChangeSpec := { name := "fnExactLeadsIn", fn := fun _ => fun
  | [d1, d2] => { results := [.lit (.bool false)], args := [d1, d2] }
  | _ => none }
def FnExactLeadsInWrongFalsely : Prop := fnExactLeadsInRow.holds Try.pinned (OpenSpec.ofChange fnExactLeadsInWrong)

/-- 'laws.FnExactOfflineParts': WHATEVER THE INPUT: true; the input reads as it did. -/
def fnExactOfflinePartsSpec : ChangeSpec := { name := "fnExactOfflineParts", fn := fun _ => fun
  | [d] => { results := [.lit (.bool true)], args := [d] }
  | _ => none }
def fnExactOfflinePartsRow : OpenClaim := { program := "ytmkiffemanmgcaa", sum := "b2657de9ea194c6e95bdf6a8bfd4ce42990d3654f49bc586eb9843d14d89b40a", func := "loop.example/g00361/laws.FnExactOfflineParts", spec := "fnExactOfflineParts", unfollowed := true, recurses := true, apart := false }
def FnExactOfflinePartsSaid : Prop := fnExactOfflinePartsRow.holds Try.pinned (OpenSpec.ofChange fnExactOfflinePartsSpec)

/-- ITS FALSE NEIGHBOUR: 'it returns false'. Refute it at one input. -/
def fnExactOfflinePartsWrong : ChangeSpec := { name := "fnExactOfflineParts", fn := fun _ => fun
  | [d] => { results := [.lit (.bool false)], args := [d] }
  | _ => none }
def FnExactOfflinePartsWrongFalsely : Prop := fnExactOfflinePartsRow.holds Try.pinned (OpenSpec.ofChange fnExactOfflinePartsWrong)

/-- 'laws.FnExactGoodSnap': WHATEVER THE INPUT: true; the input reads as it did. -/
def fnExactGoodSnapSpec : ChangeSpec := { name := "fnExactGoodSnap", fn := fun _ => fun
  | [d] => { results := [.lit (.bool true)], args := [d] }
  | _ => none }
def fnExactGoodSnapRow : OpenClaim := { program := "ytmkiffemanmgcaa", sum := "b2657de9ea194c6e95bdf6a8bfd4ce42990d3654f49bc586eb9843d14d89b40a", func := "loop.example/g00361/laws.FnExactGoodSnap", spec := "fnExactGoodSnap", unfollowed := true, recurses := true, apart := false }
def FnExactGoodSnapSaid : Prop := fnExactGoodSnapRow.holds Try.pinned (OpenSpec.ofChange fnExactGoodSnapSpec)

/-- ITS FALSE NEIGHBOUR: 'it returns false'. Refute it at one input. -/
def fnExactGoodSnapWrong : ChangeSpec := { name := "fnExactGoodSnap", fn := fun _ => fun
  | [d] => { results := [.lit (.bool false)], args := [d] }
  | _ => none }
def FnExactGoodSnapWrongFalsely : Prop := fnExactGoodSnapRow.holds Try.pinned (OpenSpec.ofChange fnExactGoodSnapWrong)

/-- 'laws.FnExactOnWay': WHATEVER THE INPUT: true; the input reads as it did. -/
def fnExactOnWaySpec : ChangeSpec := { name := "fnExactOnWay", fn := fun _ => fun
  | [d] => { results := [.lit (.bool true)], args := [d] }
  | _ => none }
def fnExactOnWayRow : OpenClaim := { program := "ytmkiffemanmgcaa", sum := "b2657de9ea194c6e95bdf6a8bfd4ce42990d3654f49bc586eb9843d14d89b40a", func := "loop.example/g00361/laws.FnExactOnWay", spec := "fnExactOnWay", unfollowed := true, recurses := true, apart := false }
def FnExactOnWaySaid : Prop := fnExactOnWayRow.holds Try.pinned (OpenSpec.ofChange fnExactOnWaySpec)

/-- ITS FALSE NEIGHBOUR: 'it returns false'. Refute it at one input. -/
def fnExactOnWayWrong : ChangeSpec := { name := "fnExactOnWay", fn := fun _ => fun
  | [d] => { results := [.lit (.bool false)], args := [d] }
  | _ => none }
def FnExactOnWayWrongFalsely : Prop := fnExactOnWayRow.holds Try.pinned (OpenSpec.ofChange fnExactOnWayWrong)

/-- 'laws.FnExactPictureOf': WHATEVER THE INPUT: true; the input reads as it did. -/
def fnExactPictureOfSpec : ChangeSpec := { name := "fnExactPictureOf", fn := fun _ => fun
  | [d] => { results := [.lit (.bool true)], args := [d] }
  | _ => none }
def fnExactPictureOfRow : OpenClaim := { program := "ytmkiffemanmgcaa", sum := "b2657de9ea194c6e95bdf6a8bfd4ce42990d3654f49bc586eb9843d14d89b40a", func := "loop.example/g00361/laws.FnExactPictureOf", spec := "fnExactPictureOf", unfollowed := true, recurses := true, apart := false }
def FnExactPictureOfSaid : Prop := fnExactPictureOfRow.holds Try.pinned (OpenSpec.ofChange fnExactPictureOfSpec)

/-- ITS FALSE NEIGHBOUR: 'it returns false'. Refute it at one input. -/
def fnExactPictureOfWrong : ChangeSpec := { name := "fnExactPictureOf", fn := fun _ => fun
  | [d] => { results := [.lit (.bool false)], args := [d] }
  | _ => none }
def FnExactPictureOfWrongFalsely : Prop := fnExactPictureOfRow.holds Try.pinned (OpenSpec.ofChange fnExactPictureOfWrong)

/- THE SECOND FORM. 'bulk': how many values and letters a reading holds, each counted each time it is reached (what is shared counts as often as it is met; a slice's spare places count too). A statement '..UptoSaid' is the law's where the arguments, and the package variables that the reading takes, are together of bulk at most 1048576: NARROWER than '..Said'. Prove '..Said' where nothing that the law and all that it calls make is longer than what came in: it says more and counts as full. Else prove '..UptoSaid'. A law counts once. -/
mutual
def uptoBulk {H : Type} : DataW H → Nat
  | .lit (.string bytes) => bytes.length + 1
  | .lit _ => 1
  | .nil => 1
  | .ptr d => uptoBulk d + 1
  | .slice elems spare => uptoBulkAll elems + uptoBulkAll spare + 1
  | .agg parts => uptoBulkAll parts + 1
  | .iface _ d => uptoBulk d + 1
  | .map entries => uptoBulkEntries entries + 1
  | .held _ => 1
def uptoBulkAll {H : Type} : List (DataW H) → Nat
  | [] => 0
  | d :: r => uptoBulk d + uptoBulkAll r
def uptoBulkEntries {H : Type} : List (Lit × DataW H) → Nat
  | [] => 0
  | x :: r => uptoBulkEntry x + uptoBulkEntries r
def uptoBulkEntry {H : Type} : Lit × DataW H → Nat
  | (.string bytes, d) => bytes.length + uptoBulk d + 1
  | (_, d) => uptoBulk d + 1
 end
def uptoSmall : (H : Type) → List (DataW H) → Bool := fun _ ds => decide (uptoBulkAll ds ≤ 1048576)
def OpenSpec.upto (s : _root_.Go.ChangeSpec) : _root_.Go.OpenSpec := { _root_.Go.OpenSpec.ofChange s with cond := some uptoSmall }

/-- 'laws.FnExactNewControl', WHERE WHAT IT READS IS OF BULK AT MOST 1048576: true; the input reads as it did. -/
def fnExactNewControlUptoRow : OpenClaim := { program := "ytmkiffemanmgcaa", sum := "b2657de9ea194c6e95bdf6a8bfd4ce42990d3654f49bc586eb9843d14d89b40a", func := "loop.example/g00361/laws.FnExactNewControl", spec := "fnExactNewControl", apart := false, narrowed := true }
def FnExactNewControlUptoSaid : Prop := fnExactNewControlUptoRow.holds Try.pinned (OpenSpec.upto fnExactNewControlSpec)

/-- 'laws.FnExactNewSnap', WHERE WHAT IT READS IS OF BULK AT MOST 1048576: true; the input reads as it did. -/
def fnExactNewSnapUptoRow : OpenClaim := { program := "ytmkiffemanmgcaa", sum := "b2657de9ea194c6e95bdf6a8bfd4ce42990d3654f49bc586eb9843d14d89b40a", func := "loop.example/g00361/laws.FnExactNewSnap", spec := "fnExactNewSnap", apart := false, narrowed := true }
def FnExactNewSnapUptoSaid : Prop := fnExactNewSnapUptoRow.holds Try.pinned (OpenSpec.upto fnExactNewSnapSpec)

/-- 'laws.FnExactGoodControl', WHERE WHAT IT READS IS OF BULK AT MOST 1048576: true; the input reads as it did. -/
def fnExactGoodControlUptoRow : OpenClaim := { program := "ytmkiffemanmgcaa", sum := "b2657de9ea194c6e95bdf6a8bfd4ce42990d3654f49bc586eb9843d14d89b40a", func := "loop.example/g00361/laws.FnExactGoodControl", spec := "fnExactGoodControl", unfollowed := true, recurses := true, apart := false, narrowed := true }
def FnExactGoodControlUptoSaid : Prop := fnExactGoodControlUptoRow.holds Try.pinned (OpenSpec.upto fnExactGoodControlSpec)

/-- 'laws.FnExactLiveBrokers', WHERE WHAT IT READS IS OF BULK AT MOST 1048576: true; the input reads as it did. -/
def fnExactLiveBrokersUptoRow : OpenClaim := { program := "ytmkiffemanmgcaa", sum := "b2657de9ea194c6e95bdf6a8bfd4ce42990d3654f49bc586eb9843d14d89b40a", func := "loop.example/g00361/laws.FnExactLiveBrokers", spec := "fnExactLiveBrokers", unfollowed := true, recurses := true, apart := false, narrowed := true }
def FnExactLiveBrokersUptoSaid : Prop := fnExactLiveBrokersUptoRow.holds Try.pinned (OpenSpec.upto fnExactLiveBrokersSpec)

/-- 'laws.FnExactLeadsIn', WHERE WHAT IT READS IS OF BULK AT MOST 1048576: true; the input reads as it did. -/
def fnExactLeadsInUptoRow : OpenClaim := { program := "ytmkiffemanmgcaa", sum := "b2657de9ea194c6e95bdf6a8bfd4ce42990d3654f49bc586eb9843d14d89b40a", func := "loop.example/g00361/laws.FnExactLeadsIn", spec := "fnExactLeadsIn", unfollowed := true, recurses := true, apart := false, narrowed := true }
def FnExactLeadsInUptoSaid : Prop := fnExactLeadsInUptoRow.holds Try.pinned (OpenSpec.upto fnExactLeadsInSpec)

/-- 'laws.FnExactOfflineParts', WHERE WHAT IT READS IS OF BULK AT MOST 1048576: true; the input reads as it did. -/
def fnExactOfflinePartsUptoRow : OpenClaim := { program := "ytmkiffemanmgcaa", sum := "b2657de9ea194c6e95bdf6a8bfd4ce42990d3654f49bc586eb9843d14d89b40a", func := "loop.example/g00361/laws.FnExactOfflineParts", spec := "fnExactOfflineParts", unfollowed := true, recurses := true, apart := false, narrowed := true }
def FnExactOfflinePartsUptoSaid : Prop := fnExactOfflinePartsUptoRow.holds Try.pinned (OpenSpec.upto fnExactOfflinePartsSpec)

/-- 'laws.FnExactGoodSnap', WHERE WHAT IT READS IS OF BULK AT MOST 1048576: true; the input reads as it did. -/
def fnExactGoodSnapUptoRow : OpenClaim := { program := "ytmkiffemanmgcaa", sum := "b2657de9ea194c6e95bdf6a8bfd4ce42990d3654f49bc586eb9843d14d89b40a", func := "loop.example/g00361/laws.FnExactGoodSnap", spec := "fnExactGoodSnap", unfollowed := true, recurses := true, apart := false, narrowed := true }
def FnExactGoodSnapUptoSaid : Prop := fnExactGoodSnapUptoRow.holds Try.pinned (OpenSpec.upto fnExactGoodSnapSpec)

/-- 'laws.FnExactOnWay', WHERE WHAT IT READS IS OF BULK AT MOST 1048576: true; the input reads as it did. -/
def fnExactOnWayUptoRow : OpenClaim := { program := "ytmkiffemanmgcaa", sum := "b2657de9ea194c6e95bdf6a8bfd4ce42990d3654f49bc586eb9843d14d89b40a", func := "loop.example/g00361/laws.FnExactOnWay", spec := "fnExactOnWay", unfollowed := true, recurses := true, apart := false, narrowed := true }
def FnExactOnWayUptoSaid : Prop := fnExactOnWayUptoRow.holds Try.pinned (OpenSpec.upto fnExactOnWaySpec)

/-- 'laws.FnExactPictureOf', WHERE WHAT IT READS IS OF BULK AT MOST 1048576: true; the input reads as it did. -/
def fnExactPictureOfUptoRow : OpenClaim := { program := "ytmkiffemanmgcaa", sum := "b2657de9ea194c6e95bdf6a8bfd4ce42990d3654f49bc586eb9843d14d89b40a", func := "loop.example/g00361/laws.FnExactPictureOf", spec := "fnExactPictureOf", unfollowed := true, recurses := true, apart := false, narrowed := true }
def FnExactPictureOfUptoSaid : Prop := fnExactPictureOfUptoRow.holds Try.pinned (OpenSpec.upto fnExactPictureOfSpec)

end Rows
end Go.Proofs.Ytmkiffemanmgcaa
