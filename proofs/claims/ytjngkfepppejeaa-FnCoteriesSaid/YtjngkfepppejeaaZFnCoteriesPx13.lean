-- Written by programs of this session (wip/prune.py, wip/xp.py), out of the translation and the printed words; what the law does not reach is left out. Not trusted: Lean checks it.
import Derived.Test.YtjngkfepppejeaaZFnCoteriesPx0
import Derived.Test.YtjngkfepppejeaaZFnCoteriesPx1
import Derived.Test.YtjngkfepppejeaaZFnCoteriesPx2
import Derived.Test.YtjngkfepppejeaaZFnCoteriesPx3
import Derived.Test.YtjngkfepppejeaaZFnCoteriesPx4
import Derived.Test.YtjngkfepppejeaaZFnCoteriesPx5
section
namespace Go.Proofs.Ytjngkfepppejeaa.P
open Go.RowKit Go.Proofs.YtjngkfepppejeaaW.PrintWords Go.Proofs.YtjngkfepppejeaaW.PrintLast Go.Proofs.YtjngkfepppejeaaW.PrintMore
attribute [local go_sem] max2_int min2_int max_two min_two max_three min_three max_four min_four   -- for this text's walks alone
set_option linter.unusedVariables false
set_option linter.unusedSimpArgs false
def impl_areVotes_1.f (a0 : Int) : Option (Bool) := (impl_in.f a0 0 9).bind fun t101 => (some (!t101))
def slices_IndexFunc_int_int_of_impl_areVotes_1.l0 : Nat → List Int → Int → Int → Option (Int)
 | 0, _, _, _ => none
 | k + 1, x0, x7, x8 => if x8 < x7 then (if 0 ≤ x8 then (if x8 < (x0.length : Int) then ((impl_areVotes_1.f (rd x0 x8)).bind fun t102 => (if t102 = true then (some x8) else (slices_IndexFunc_int_int_of_impl_areVotes_1.l0 k x0 x7 (wrap64 (x8 + 1))))) else (none)) else (none)) else (some (-1))
def slices_IndexFunc_int_int_of_impl_areVotes_1.f (k : Nat) (l0 : List Int)  : Option (Int) := slices_IndexFunc_int_int_of_impl_areVotes_1.l0 k l0 (l0.length : Int) 0
def slices_ContainsFunc_int_int_of_impl_areVotes_1.f (k : Nat) (l0 : List Int)  : Option (Bool) := (slices_IndexFunc_int_int_of_impl_areVotes_1.f k l0).bind fun t101 => (some (decide (t101 ≥ 0)))
def impl_areVotes.f (k : Nat) (l0_0 : List Int) (a0_1 : Int) : Option (Bool) := (impl_in.f (l0_0.length : Int) 1 7).bind fun t102 => (if t102 = true then ((impl_in.f a0_1 1 100).bind fun t103 => (if t103 = true then ((slices_ContainsFunc_int_int_of_impl_areVotes_1.f k l0_0).bind fun t104 => (some (!t104))) else (some false))) else (some false))
def impl_Votes_weigh.l0 : Nat → Int → Int → List Int → Int → Int → Option (Int)
 | 0, _, _, _, _, _ => none
 | k + 1, x1, x5, x9, x10, x11 => if x11 < x10 then (if 0 ≤ x11 then (if x11 < (x9.length : Int) then (if (Go.bits .and .i64 (shr .i64 x1 x11) 1) = 1 then (impl_Votes_weigh.l0 k x1 (wrap64 (x5 + (rd x9 x11))) x9 x10 (wrap64 (x11 + 1))) else (impl_Votes_weigh.l0 k x1 x5 x9 x10 (wrap64 (x11 + 1)))) else (none)) else (none)) else (some x5)
def impl_Votes_weigh.f (k : Nat) (l0_0 : List Int) (a0_1 : Int) (a1 : Int) : Option (Int) := impl_Votes_weigh.l0 k a1 0 l0_0 (l0_0.length : Int) 0
def impl_LeastQuorums_1.f (k : Nat) (a0 : Int) (l1_0_0 : List Int) (a1_0_1 : Int) : Option (Bool) := (impl_Votes_weigh.f k l1_0_0 a1_0_1 a0).bind fun t102 => (some (decide (t102 ≥ a1_0_1)))
mutual
def impl_leastSets_of_impl_LeastQuorums_1.l0 : Nat → Int → List (List Int) → Int → Int → List Int → Int → Option ((List (List Int)))
 | 0, _, _, _, _, _, _ => none
 | k + 1, x0, x5, x11, x12, x102000, x102001 => if x12 < x11 then ((impl_LeastQuorums_1.f k x12 x102000 x102001).bind fun t105 => (impl_leastSets_of_impl_LeastQuorums_1.l1 k x0 x5 x12 t105 x11 x12 x0 0 x102000 x102001)) else (some x5)
def impl_leastSets_of_impl_LeastQuorums_1.l1 : Nat → Int → List (List Int) → Int → Bool → Int → Int → Int → Int → List Int → Int → Option ((List (List Int)))
 | 0, _, _, _, _, _, _, _, _, _, _ => none
 | k + 1, x0, x5, x6, x7, x11, x12, x18, x19, x102000, x102001 => if x19 < x18 then (if x7 = true then (if 0 ≤ x19 then (if (Go.bits .and .i64 (shr .i64 x6 x19) 1) = 0 then (impl_leastSets_of_impl_LeastQuorums_1.l1 k x0 x5 x6 true x11 x12 x18 (wrap64 (x19 + 1)) x102000 x102001) else ((impl_LeastQuorums_1.f k (Go.bits .andNot .i64 x6 (shl .i64 1 x19)) x102000 x102001).bind fun t106 => (impl_leastSets_of_impl_LeastQuorums_1.l1 k x0 x5 x6 (!t106) x11 x12 x18 (wrap64 (x19 + 1)) x102000 x102001))) else (none)) else (impl_leastSets_of_impl_LeastQuorums_1.l1 k x0 x5 x6 false x11 x12 x18 (wrap64 (x19 + 1)) x102000 x102001)) else (if x7 = true then ((impl_membersOf.f k x6).bind fun t107 => (if x5.length < 5864062014805 then (impl_leastSets_of_impl_LeastQuorums_1.l0 k x0 (x5 ++ [t107]) x11 (wrap64 (x12 + 1)) x102000 x102001) else (none))) else (impl_leastSets_of_impl_LeastQuorums_1.l0 k x0 x5 x11 (wrap64 (x12 + 1)) x102000 x102001))
end
def impl_leastSets_of_impl_LeastQuorums_1.f (k : Nat) (a0 : Int) (l1_0_0 : List Int) (a1_0_1 : Int) : Option ((List (List Int))) := if 0 ≤ a0 then (impl_leastSets_of_impl_LeastQuorums_1.l0 k a0 (([] : List (List Int))) (shl .i64 1 a0) 0 l1_0_0 a1_0_1) else (none)
def impl_LeastQuorums.f (k : Nat) (l0_0 : List Int) (a0_1 : Int) : Option ((List (List Int)) × Bool) := (impl_areVotes.f k l0_0 a0_1).bind fun t102 => (if t102 = true then ((impl_leastSets_of_impl_LeastQuorums_1.f k (l0_0.length : Int) l0_0 a0_1).bind fun t103 => (some (t103, true))) else (some (([] : List (List Int)), false)))
end Go.Proofs.Ytjngkfepppejeaa.P
end
