-- Written by programs of this session (wip/prune.py, wip/xp.py), out of the translation and the printed words; what the law does not reach is left out. Not trusted: Lean checks it.
import Derived.Test.YtmkiffemanmgcaaZXOnWayPx0
section
namespace Go.Proofs.Ytmkiffemanmgcaa.P
open Go.RowKit Go.Proofs.YtmkiffemanmgcaaW.PrintWords Go.Proofs.YtmkiffemanmgcaaW.PrintLast Go.Proofs.YtmkiffemanmgcaaW.PrintMore
attribute [local go_sem] max2_int min2_int max_two min_two max_three min_three max_four min_four   -- for this text's walks alone
set_option linter.unusedVariables false
set_option linter.unusedSimpArgs false
def Bm9 (n m : Nat) : Array Bool := ((List.range n).map (fun i => m.testBit i)).toArray
theorem Sa9 {α : Type} (l : List α) (i : Nat) (a : α) : l.toArray.setIfInBounds i a = (l.set i a).toArray := List.setIfInBounds_toArray l i a
theorem Sb9 {α : Type} (a b : α) (l : List α) : (a :: l).set 0 b = b :: l := rfl
theorem Sc9 {α : Type} (a b : α) (l : List α) (n : Nat) : (a :: l).set (n + 1) b = a :: l.set n b := rfl
mutual
def impl_newSnap.l0 : Nat → Int → Int → Int → Int → List Int → List (S94) → List (S76) → Int → Int → Option (List Int × (List (S94)) × (List (S76)) × Int × Int)
 | 0, _, _, _, _, _, _, _, _, _ => none
 | k + 1, x0, x1, x12, x13, x103000, x103001, x103002, x103003, x103004 => if x13 < x12 then (if x103000.length < 17592186044416 then (if 0 ≤ x0 then (if (x0 : Int).toNat ≤ 35184372088832 then (if (x0 : Int).toNat ≤ 281474976710656 then (if x103002.length < 2199023255552 then (impl_newSnap.l1 k x0 x1 x13 x12 x13 x0 0 (x103000 ++ [x1]) x103001 (x103002 ++ [(⟨false, 0, (List.replicate (x0 : Int).toNat 0), (List.replicate (x0 : Int).toNat false)⟩ : S76)]) x103003 x103004) else (none)) else (none)) else (none)) else (none)) else (none)) else (some (x103000, x103001, x103002, x103003, x103004))
def impl_newSnap.l1 : Nat → Int → Int → Int → Int → Int → Int → Int → List Int → List (S94) → List (S76) → Int → Int → Option (List Int × (List (S94)) × (List (S76)) × Int × Int)
 | 0, _, _, _, _, _, _, _, _, _, _, _, _ => none
 | k + 1, x0, x1, x6, x12, x13, x32, x33, x103000, x103001, x103002, x103003, x103004 => if x33 < x32 then (if x33 = x6 then (impl_newSnap.l1 k x0 x1 x6 x12 x13 x32 (wrap64 (x33 + 1)) x103000 x103001 x103002 x103003 x103004) else (if x103001.length < 3518437208883 then (impl_newSnap.l1 k x0 x1 x6 x12 x13 x32 (wrap64 (x33 + 1)) x103000 (x103001 ++ [(⟨x6, x33, ([] : List Int)⟩ : S94)]) x103002 x103003 x103004) else (none))) else (impl_newSnap.l0 k x0 x1 x12 (wrap64 (x13 + 1)) x103000 x103001 x103002 x103003 x103004)
end
def impl_newSnap.f (k : Nat) (a0 : Int) (a1 : Int) : Option (List Int × (List (S94)) × (List (S76)) × Int × Int) := impl_newSnap.l0 k a0 a1 a0 0 ([] : List Int) ([] : List (S94)) ([] : List (S76)) 0 (wrap64 (a0 * a1))
def impl_newSnap.T6 : Bool × List (List Nat × List Nat) := (true, [([], []), ([0], [0]), ([], []), ([2, 2], [2]), ([], []), ([4, 4], [4]), ([3, 5], [3, 5]), ([6], [6]), ([1, 7], [1, 7]), ([0, 1, 2, 3, 4, 5, 6, 7, 8], []), ([9, 8, 8, 0, 1, 2, 3, 4, 5, 6, 7, 8], [8, 9])])
def impl_newSnap.B6 : List Nat := [0, 1, 0, 4, 0, 16, 60, 124, 255, 511, 1023]
theorem impl_newSnap.tab6 : rtab .any (opsOf Try.f53 6) = impl_newSnap.T6 := by kernel_rfl
theorem impl_newSnap.bits6 : waitsOk impl_newSnap.T6.2 impl_newSnap.B6 = true := by kernel_rfl
set_option maxHeartbeats 8000000 in
set_option maxRecDepth 100000 in
theorem impl_newSnap.calls (k : Nat) (a0 : Int) (a1 : Int) (r1 : List Int) (r2 : List (S94)) (r3 : List (S76)) (r4 : Int) (r5 : Int) (w : World) (h : impl_newSnap.f k a0 a1 = some (r1, r2, r3, r4, r5)) :
  Calls Try.prog 53 #[.int .i64 a0, .int .i64 a1] w fun e w' => ∃ v0_ v1_ v2_ : Value, e = .returned (.agg #[v0_, v1_, v2_, .int .i64 r4, .int .i64 r5]) ∧ Kd.R (Kd.int .i64) 3 w' w.heap.size (fun _ => True) v0_ r1 ∧ Kd.S k94 94 w' w.heap.size (fun k_ => some k_ ≠ (v0_ : Value).ownBlock) v1_ r2 ∧ Kd.S k76 76 w' w.heap.size (fun k_ => some k_ ≠ (v0_ : Value).ownBlock) v2_ r3 ∧ Below w.heap.size w w' := by
 have hu35 := Try.underlying35
 have hu76 := Try.underlying76
 have hu94 := Try.underlying94
 have HB := Aside0.mk (Below.refl w.heap.size w)
 have H : (impl_newSnap.l0 k a0 a1 a0 0 ([] : List Int) ([] : List (S94)) ([] : List (S76)) 0 (wrap64 (a0 * a1))) = some (r1, r2, r3, r4, r5) := h
 clear h
 have H' := Aside0.mk H
 clear H
 go_enter Try.func53, Try.ntmps53
 go_wp2_with (first | ((with_reducible refine Zv (N := 4) rfl ?_); refine Zt ?hg (N := 4) ?hd (cs := #[.slice none 0 0, .slice none 0 0, .slice none 0 0, .int .i64 0, .int .i64 0]) (t := 35) ?hr ?_; (case hd => rfl); (case hg => rfl); (case hr => first | (go_simp; done) | (go_simp; rfl)); intro gb101 hg w3 hbox hb; have n0_ := Aside0.mk (Zo (by repeat (first | (with_reducible first | exact HB.out | apply Ze | apply Za | apply Zd) | exact HB.out)) hb); have n1_ := Aside0.mk (hbox); have n2_ := Aside0.mk ((by rw [hg]; exact (Zn (by repeat (first | (with_reducible first | exact HB.out | apply Ze | apply Za | apply Zd) | exact HB.out))) : w.heap.size ≤ gb101)); have n3_ := n2_; clear HB; have HB := n0_; have BK101 := n1_; have GW101 := n2_; have GE101 := n3_; clear n0_ n1_ n2_ n3_; clear hb hbox hg) | ((with_reducible refine Zv (N := 5) rfl ?_); refine Zt ?hg (N := 5) ?hd (cs := #[.slice none 0 0, .slice none 0 0, .slice none 0 0, .int .i64 0, .int .i64 0]) (t := 35) ?hr ?_; (case hd => rfl); (case hg => rfl); (case hr => first | (go_simp; done) | (go_simp; rfl)); intro gb102 hg w4 hbox hb; have n0_ := Aside0.mk (Zq (g := gb101) (o := .cells #[.slice none 0 0, .slice none 0 0, .slice none 0 0, .int .i64 0, .int .i64 0] 35 (0, 0)) (by (with_reducible repeat (first | refine Zh ?_ _ | refine Zi ?_ | refine Zg ?_ _)); exact BK101.out) hb); have n1_ := Aside0.mk (Zo (by repeat (first | (with_reducible first | exact HB.out | apply Ze | apply Za | apply Zd | refine Zf ?_ GE101.out) | exact HB.out)) hb); have n2_ := Aside0.mk (hbox); have n3_ := Aside0.mk ((by rw [hg]; exact (Zn (by repeat (first | (with_reducible first | exact HB.out | apply Ze | apply Za | apply Zd | refine Zf ?_ GE101.out) | exact HB.out))) : w.heap.size ≤ gb102)); have n4_ := n3_; have n5_ := Aside0.mk ((by rw [hg]; exact Nat.ne_of_lt (Zx (g := gb101) (o := .cells #[.slice none 0 0, .slice none 0 0, .slice none 0 0, .int .i64 0, .int .i64 0] 35 (0, 0)) (by (with_reducible repeat (first | refine Zh ?_ _ | refine Zi ?_ | refine Zg ?_ _)); exact BK101.out)) : gb101 ≠ gb102)); have n6_ := Aside0.mk n5_.out.symm; clear BK101; clear HB; have BK101 := n0_; have HB := n1_; have BK102 := n2_; have GW102 := n3_; have GE102 := n4_; have NB101_102 := n5_; have NB102_101 := n6_; clear n0_ n1_ n2_ n3_ n4_ n5_ n6_; clear hb hbox hg; have hnb5 := NB102_101.out; have hnc5 := NB101_102.out; have hcz6_0 : w4.cell? ⟨gb102, 0, none⟩ = some (.slice none 0 0) := (Zb BK102.out 0).trans rfl; have hcz6_1 : w4.cell? ⟨gb102, 1, none⟩ = some (.slice none 0 0) := (Zb BK102.out 1).trans rfl; have hcz6_2 : w4.cell? ⟨gb102, 2, none⟩ = some (.slice none 0 0) := (Zb BK102.out 2).trans rfl; have hcz6_3 : w4.cell? ⟨gb102, 3, none⟩ = some (.int .i64 0) := (Zb BK102.out 3).trans rfl; have hcz6_4 : w4.cell? ⟨gb102, 4, none⟩ = some (.int .i64 0) := (Zb BK102.out 4).trans rfl; have hfz6_0 := Zc BK102.out 0; have hfz6_1 := Zc BK102.out 1; have hfz6_2 := Zc BK102.out 2; have hfz6_3 := Zc BK102.out 3; have hfz6_4 := Zc BK102.out 4))
 go_loopg [13] k (fun kq v13 w' => ∃ (x13_1 : Int) (x103000_1 : List Int) (x103001_1 : List (S94)) (x103002_1 : List (S76)) (u103000 : Value) (u103001 : Value) (u103002 : Value), v13 = .int .i64 x13_1 ∧ Aside0 (impl_newSnap.l0 kq a0 a1 a0 x13_1 x103000_1 x103001_1 x103002_1 0 (wrap64 (a0 * a1)) = some (r1, r2, r3, r4, r5)) ∧ Aside0 (kq ≤ k) ∧ Aside0 (Kd.R (Kd.int .i64) 3 w' w.heap.size (fun _ => True) u103000 x103000_1) ∧ Aside0 (Kd.S k94 94 w' w.heap.size (fun k_ => some k_ ≠ (u103000 : Value).ownBlock) u103001 x103001_1) ∧ Aside0 (Kd.S k76 76 w' w.heap.size (fun k_ => some k_ ≠ (u103000 : Value).ownBlock) u103002 x103002_1) ∧ Aside0 (w'.heap[gb101]? = some (.cells #[(.slice none 0 0), (.slice none 0 0), (.slice none 0 0), .int .i64 0, .int .i64 0] 35 (0, 0))) ∧ Aside0 (w'.heap[gb102]? = some (.cells #[u103000, u103001, u103002, .int .i64 0, .int .i64 (wrap64 (a0 * a1))] 35 (0, 0))) ∧ Aside0 (Below w.heap.size w w'))
 case atStart => exact ⟨(0), (([] : List Int)), (([] : List (S94))), (([] : List (S76))), (.slice none 0 0), (.slice none 0 0), (.slice none 0 0), (by first | rfl | (simp; done) | (simp [*]; done)), H', ⟨Nat.le_refl _⟩, ⟨by first | exact Kd.R_nil _ _ _ _ _ | exact Kd.N_nil _ _ _ _ _ | exact Kd.V_nil _ _ _ _ _ | exact Kd.Q_nil _ _ _ _ _ | exact Kd.S_nil _ _ _ _ _⟩, ⟨by first | exact Kd.S_nil _ _ _ _ _ | exact Kd.N_nil _ _ _ _ _ | exact Kd.V_nil _ _ _ _ _ | exact Kd.Q_nil _ _ _ _ _ | exact Kd.R_nil _ _ _ _ _⟩, ⟨by first | exact Kd.S_nil _ _ _ _ _ | exact Kd.N_nil _ _ _ _ _ | exact Kd.V_nil _ _ _ _ _ | exact Kd.Q_nil _ _ _ _ _ | exact Kd.R_nil _ _ _ _ _⟩, ⟨by (with_reducible repeat (first | refine Zh ?_ _ | refine Zi ?_ | refine Zg ?_ _)); refine Zs ?_ NB101_102.out _; (with_reducible repeat (first | refine Zh ?_ _ | refine Zi ?_ | refine Zg ?_ _)); refine Zs ?_ NB101_102.out _; (with_reducible repeat (first | refine Zh ?_ _ | refine Zi ?_ | refine Zg ?_ _)); refine Zs ?_ NB101_102.out _; (with_reducible repeat (first | refine Zh ?_ _ | refine Zi ?_ | refine Zg ?_ _)); refine Zs ?_ NB101_102.out _; (with_reducible repeat (first | refine Zh ?_ _ | refine Zi ?_ | refine Zg ?_ _)); refine Zs ?_ NB101_102.out _; (with_reducible repeat (first | refine Zh ?_ _ | refine Zi ?_ | refine Zg ?_ _)); exact BK101.out⟩, ⟨by (with_reducible repeat (first | refine Zh ?_ _ | refine Zi ?_ | refine Zg ?_ _)); refine Zu (cs := #[.slice none 0 0, .slice none 0 0, .slice none 0 0, .int .i64 0, .int .i64 0]) ?_ 4 _ rfl; (with_reducible repeat (first | refine Zh ?_ _ | refine Zi ?_ | refine Zg ?_ _)); refine Zu (cs := #[.slice none 0 0, .slice none 0 0, .slice none 0 0, .int .i64 0, .int .i64 0]) ?_ 3 _ rfl; (with_reducible repeat (first | refine Zh ?_ _ | refine Zi ?_ | refine Zg ?_ _)); refine Zu (cs := #[.slice none 0 0, .slice none 0 0, .slice none 0 0, .int .i64 0, .int .i64 0]) ?_ 2 _ rfl; (with_reducible repeat (first | refine Zh ?_ _ | refine Zi ?_ | refine Zg ?_ _)); refine Zu (cs := #[.slice none 0 0, .slice none 0 0, .slice none 0 0, .int .i64 0, .int .i64 0]) ?_ 1 _ rfl; (with_reducible repeat (first | refine Zh ?_ _ | refine Zi ?_ | refine Zg ?_ _)); refine Zu (cs := #[.slice none 0 0, .slice none 0 0, .slice none 0 0, .int .i64 0, .int .i64 0]) ?_ 0 _ rfl; (with_reducible repeat (first | refine Zh ?_ _ | refine Zi ?_ | refine Zg ?_ _)); exact BK102.out⟩, ⟨by repeat (first | (with_reducible first | exact HB.out | apply Ze | apply Za | apply Zd | refine Zf ?_ GE101.out | refine Zf ?_ GE102.out) | exact HB.out)⟩⟩
 case round =>
  clear H'
  try clear hcz6_0
  try clear hcz6_1
  try clear hcz6_2
  try clear hcz6_3
  try clear hcz6_4
  try clear hfz6_0
  try clear hfz6_1
  try clear hfz6_2
  try clear hfz6_3
  try clear hfz6_4
  obtain ⟨x13_1, x103000_1, x103001_1, x103002_1, u103000, u103001, u103002, rfl, HA, HK1, HO_103000, HO_103001, HO_103002, BK101, BK102, HB⟩ := hrel
  cases gk with
  | zero => exact absurd HA.out (by simp [impl_newSnap.l0])
  | succ k1 =>
   have H := HA.out
   clear HA
   simp only [impl_newSnap.l0] at H
   by_cases c7 : x13_1 < a0
   ·rw [if_pos c7] at H
    have c7b0 : decide (x13_1 < a0) = true := decide_eq_true c7
    clear c7
    by_cases c8 : x103000_1.length < 17592186044416
    case neg => rw [if_neg c8] at H; exact absurd H (by simp)
    rw [if_pos c8] at H
    have LMc8 := Aside0.mk c8
    clear c8
    obtain ⟨y103, hy103⟩ : ∃ y_ : List Int, y_ = (x103000_1 ++ [a1]) := ⟨_, rfl⟩
    replace H : (if 0 ≤ a0 then (if (a0 : Int).toNat ≤ 35184372088832 then (if (a0 : Int).toNat ≤ 281474976710656 then (if x103002_1.length < 2199023255552 then (impl_newSnap.l1 k1 a0 a1 x13_1 a0 x13_1 a0 0 y103 x103001_1 (x103002_1 ++ [(⟨false, 0, (List.replicate (a0 : Int).toNat 0), (List.replicate (a0 : Int).toNat false)⟩ : S76)]) 0 (wrap64 (a0 * a1))) else (none)) else (none)) else (none)) else (none)) = some (r1, r2, r3, r4, r5) := by first | (rw [hy103]; with_reducible exact H) | (have H2_ := (Option.bind_some _ _).symm.trans H; rw [hy103]; with_reducible exact H2_) | (have H2_ := (Option.bind_some _ _).symm.trans H; with_reducible exact H2_) | with_reducible exact H | (rw [hy103]; exact H) | exact H
    have Ny103 := Aside0.mk hy103
    clear hy103
    by_cases c9 : 0 ≤ a0
    case neg => rw [if_neg c9] at H; exact absurd H (by simp)
    rw [if_pos c9] at H
    have c9b0 := eq_true c9
    have c9b1 : decide (0 ≤ a0) = true := decide_eq_true c9
    clear c9
    by_cases c10 : (a0 : Int).toNat ≤ 35184372088832
    case neg => rw [if_neg c10] at H; exact absurd H (by simp)
    rw [if_pos c10] at H
    have c10b0 := eq_true c10
    have c10b1 : decide ((a0 : Int).toNat ≤ 35184372088832) = true := decide_eq_true c10
    clear c10
    obtain ⟨y106, hy106⟩ : ∃ y_ : List Int, y_ = (List.replicate (a0 : Int).toNat 0) := ⟨_, rfl⟩
    replace H : (if (a0 : Int).toNat ≤ 281474976710656 then (if x103002_1.length < 2199023255552 then (impl_newSnap.l1 k1 a0 a1 x13_1 a0 x13_1 a0 0 y103 x103001_1 (x103002_1 ++ [(⟨false, 0, y106, (List.replicate (a0 : Int).toNat false)⟩ : S76)]) 0 (wrap64 (a0 * a1))) else (none)) else (none)) = some (r1, r2, r3, r4, r5) := by first | (rw [hy106]; with_reducible exact H) | (have H2_ := (Option.bind_some _ _).symm.trans H; rw [hy106]; with_reducible exact H2_) | (have H2_ := (Option.bind_some _ _).symm.trans H; with_reducible exact H2_) | with_reducible exact H | (rw [hy106]; exact H) | exact H
    have Ny106 := Aside0.mk hy106
    clear hy106
    by_cases c11 : (a0 : Int).toNat ≤ 281474976710656
    case neg => rw [if_neg c11] at H; exact absurd H (by simp)
    rw [if_pos c11] at H
    have c11b0 := eq_true c11
    have c11b1 : decide ((a0 : Int).toNat ≤ 281474976710656) = true := decide_eq_true c11
    clear c11
    obtain ⟨y109, hy109⟩ : ∃ y_ : List Bool, y_ = (List.replicate (a0 : Int).toNat false) := ⟨_, rfl⟩
    replace H : (if x103002_1.length < 2199023255552 then (impl_newSnap.l1 k1 a0 a1 x13_1 a0 x13_1 a0 0 y103 x103001_1 (x103002_1 ++ [(⟨false, 0, y106, y109⟩ : S76)]) 0 (wrap64 (a0 * a1))) else (none)) = some (r1, r2, r3, r4, r5) := by first | (rw [hy109]; with_reducible exact H) | (have H2_ := (Option.bind_some _ _).symm.trans H; rw [hy109]; with_reducible exact H2_) | (have H2_ := (Option.bind_some _ _).symm.trans H; with_reducible exact H2_) | with_reducible exact H | (rw [hy109]; exact H) | exact H
    have Ny109 := Aside0.mk hy109
    clear hy109
    by_cases c12 : x103002_1.length < 2199023255552
    case neg => rw [if_neg c12] at H; exact absurd H (by simp)
    rw [if_pos c12] at H
    have LMc12 := Aside0.mk c12
    clear c12
    obtain ⟨y112, hy112⟩ : ∃ y_ : List (S76), y_ = (x103002_1 ++ [(⟨false, 0, y106, y109⟩ : S76)]) := ⟨_, rfl⟩
    replace H : (impl_newSnap.l1 k1 a0 a1 x13_1 a0 x13_1 a0 0 y103 x103001_1 y112 0 (wrap64 (a0 * a1))) = some (r1, r2, r3, r4, r5) := by first | (rw [hy112]; with_reducible exact H) | (have H2_ := (Option.bind_some _ _).symm.trans H; rw [hy112]; with_reducible exact H2_) | (have H2_ := (Option.bind_some _ _).symm.trans H; with_reducible exact H2_) | with_reducible exact H | (rw [hy112]; exact H) | exact H
    have Ny112 := Aside0.mk hy112
    clear hy112
    have H' := Aside0.mk H
    clear H
    have hnb13 := NB102_101.out
    have hnc13 := NB101_102.out
    have hcz14_0 : wr.cell? ⟨gb102, 0, none⟩ = some (u103000) := (Zb BK102.out 0).trans rfl
    have hcz14_1 : wr.cell? ⟨gb102, 1, none⟩ = some (u103001) := (Zb BK102.out 1).trans rfl
    have hcz14_2 : wr.cell? ⟨gb102, 2, none⟩ = some (u103002) := (Zb BK102.out 2).trans rfl
    have hcz14_3 : wr.cell? ⟨gb102, 3, none⟩ = some (.int .i64 0) := (Zb BK102.out 3).trans rfl
    have hcz14_4 : wr.cell? ⟨gb102, 4, none⟩ = some (.int .i64 (wrap64 (a0 * a1))) := (Zb BK102.out 4).trans rfl
    have hfz14_0 := Zc BK102.out 0
    have hfz14_1 := Zc BK102.out 1
    have hfz14_2 := Zc BK102.out 2
    have hfz14_3 := Zc BK102.out 3
    have hfz14_4 := Zc BK102.out 4
    try go_wp2_with (first | ((with_reducible refine gate_builtin (b := .append) (xs := #[.tmp 17, .tmp 19]) rfl ?_); at_builtin; refine Kd.R_append (Kd.int .i64) (w0 := w) w.heap.size rfl (.tmp 17) (.tmp 19) 31 3 (.int .i64 0) 8 rfl Try.underlying31 info3 rfl (by decide) (by omega) u103000 x103000_1 a1 [.int .i64 a1] (fun _ => True) (fun _ => False) rfl rfl ?aP (fun _ hk => hk.elim) ?aF ?aO ?aB ?aS ?aL ?_; (case aP => exact rfl); (case aB => exact (by repeat (first | (with_reducible first | exact HB.out | apply Ze | apply Za | apply Zd | refine Zf ?_ GE101.out | refine Zf ?_ GE102.out) | exact HB.out))); (case aF => exact (fun _ _ => trivial)); (case aO => exact (by (with_reducible repeat (first | apply Kd.R_alloc | apply Kd.R_drewN | apply Kd.R_drew)); exact HO_103000.out)); (case aS => exact (Zn (by repeat (first | (with_reducible first | exact HB.out | apply Ze | apply Za | apply Zd | refine Zf ?_ GE101.out | refine Zf ?_ GE102.out) | exact HB.out)))); (case aL => have := LMc8.out; omega); intro v104 w15 ho hb hg hat; rw [← Ny103.out] at ho; have n0_ := Aside0.mk (Kd.S_after (ok := (fun _ => True)) (by (with_reducible repeat (first | apply Kd.S_alloc | apply Kd.S_drewN | apply Kd.S_drew)); exact Kd.S_mono HO_103001.out (fun _ hk => ⟨trivial, hk⟩)) hg hat); have n1_ := Aside0.mk (Kd.S_after (ok := (fun _ => True)) (by (with_reducible repeat (first | apply Kd.S_alloc | apply Kd.S_drewN | apply Kd.S_drew)); exact Kd.S_mono HO_103002.out (fun _ hk => ⟨trivial, hk⟩)) hg hat); have n2_ := Aside0.mk (blk_grown (g := gb101) (o := .cells #[.slice none 0 0, .slice none 0 0, .slice none 0 0, .int .i64 0, .int .i64 0] 35 (0, 0)) (by (with_reducible repeat (first | refine Zh ?_ _ | refine Zi ?_ | refine Zg ?_ _)); exact BK101.out) hg (Kd.R_ne HO_103000.out BK101.out (by decide))); have n3_ := Aside0.mk (blk_grown (g := gb102) (o := .cells #[u103000, u103001, u103002, .int .i64 0, .int .i64 (wrap64 (a0 * a1))] 35 (0, 0)) (by (with_reducible repeat (first | refine Zh ?_ _ | refine Zi ?_ | refine Zg ?_ _)); exact BK102.out) hg (Kd.R_ne HO_103000.out BK102.out (by decide))); have n4_ := Aside0.mk (hb); have n5_ := Aside0.mk (ho); clear HO_103001; clear HO_103002; clear BK101; clear BK102; clear HB; clear HO_103000; have HO_103001 := n0_; have HO_103002 := n1_; have BK101 := n2_; have BK102 := n3_; have HB := n4_; have HO105 := n5_; clear n0_ n1_ n2_ n3_ n4_ n5_; clear ho hb hg hat; obtain ⟨Ao16, co16, eo16⟩ := Kd.R_slice HO105.out; subst eo16; have hcz17_0 : w15.cell? ⟨gb102, 0, none⟩ = some (u103000) := (Zb BK102.out 0).trans rfl; have hcz17_1 : w15.cell? ⟨gb102, 1, none⟩ = some (u103001) := (Zb BK102.out 1).trans rfl; have hcz17_2 : w15.cell? ⟨gb102, 2, none⟩ = some (u103002) := (Zb BK102.out 2).trans rfl; have hcz17_3 : w15.cell? ⟨gb102, 3, none⟩ = some (.int .i64 0) := (Zb BK102.out 3).trans rfl; have hcz17_4 : w15.cell? ⟨gb102, 4, none⟩ = some (.int .i64 (wrap64 (a0 * a1))) := (Zb BK102.out 4).trans rfl; have hfz17_0 := Zc BK102.out 0; have hfz17_1 := Zc BK102.out 1; have hfz17_2 := Zc BK102.out 2; have hfz17_3 := Zc BK102.out 3; have hfz17_4 := Zc BK102.out 4; obtain ⟨Ao18, co18, eo18⟩ := Kd.S_slice HO_103002.out; subst eo18))
    have n0_ : Aside0 (Kd.S k94 94 (w15.setCell ⟨gb102, 0, none⟩ (.slice Ao16 y103.length co16)) w.heap.size (fun k_ => some k_ ≠ (.slice Ao16 y103.length co16 : Value).ownBlock) u103001 x103001_1) := ⟨by (with_reducible repeat (first | apply Kd.S_alloc | apply Kd.S_drewN | apply Kd.S_drew)); exact Kd.S_mono (Kd.S_far (p := ⟨gb102, 0, none⟩) (Kd.S_types HO_103001.out BK102.out (by decide)) (fun _ hk => hk.2) (.slice Ao16 y103.length co16)) (fun _ hk => hk.1.2)⟩
    have n1_ : Aside0 (Kd.S k76 76 (w15.setCell ⟨gb102, 0, none⟩ (.slice Ao16 y103.length co16)) w.heap.size (fun k_ => some k_ ≠ (.slice Ao16 y103.length co16 : Value).ownBlock) (.slice Ao18 x103002_1.length co18) x103002_1) := ⟨by (with_reducible repeat (first | apply Kd.S_alloc | apply Kd.S_drewN | apply Kd.S_drew)); exact Kd.S_mono (Kd.S_far (p := ⟨gb102, 0, none⟩) (Kd.S_types HO_103002.out BK102.out (by decide)) (fun _ hk => hk.2) (.slice Ao16 y103.length co16)) (fun _ hk => hk.1.2)⟩
    have n2_ : Aside0 (Kd.R (Kd.int .i64) 3 (w15.setCell ⟨gb102, 0, none⟩ (.slice Ao16 y103.length co16)) w.heap.size (fun _ => True) (.slice Ao16 y103.length co16) y103) := ⟨by (with_reducible repeat (first | apply Kd.R_alloc | apply Kd.R_drewN | apply Kd.R_drew)); exact Kd.R_mono (Kd.R_far (p := ⟨gb102, 0, none⟩) (Kd.R_types HO105.out BK102.out (by decide)) (fun _ hk => hk.2) (.slice Ao16 y103.length co16)) (fun _ hk => trivial)⟩
    have n3_ : Aside0 ((w15.setCell ⟨gb102, 0, none⟩ (.slice Ao16 y103.length co16)).heap[gb101]? = some (.cells #[.slice none 0 0, .slice none 0 0, .slice none 0 0, .int .i64 0, .int .i64 0] 35 (0, 0))) := ⟨by (with_reducible repeat (first | refine Zh ?_ _ | refine Zi ?_ | refine Zg ?_ _)); refine Zs ?_ NB101_102.out _; (with_reducible repeat (first | refine Zh ?_ _ | refine Zi ?_ | refine Zg ?_ _)); exact BK101.out⟩
    have n4_ : Aside0 ((w15.setCell ⟨gb102, 0, none⟩ (.slice Ao16 y103.length co16)).heap[gb102]? = some (.cells #[.slice Ao16 y103.length co16, u103001, .slice Ao18 x103002_1.length co18, .int .i64 0, .int .i64 (wrap64 (a0 * a1))] 35 (0, 0))) := ⟨by (with_reducible repeat (first | refine Zh ?_ _ | refine Zi ?_ | refine Zg ?_ _)); refine Zu (cs := #[u103000, u103001, .slice Ao18 x103002_1.length co18, .int .i64 0, .int .i64 (wrap64 (a0 * a1))]) ?_ 0 _ rfl; (with_reducible repeat (first | refine Zh ?_ _ | refine Zi ?_ | refine Zg ?_ _)); exact BK102.out⟩
    have n5_ : Aside0 (Below w.heap.size w (w15.setCell ⟨gb102, 0, none⟩ (.slice Ao16 y103.length co16))) := ⟨by repeat (first | (with_reducible first | exact HB.out | apply Ze | apply Za | apply Zd | refine Zf ?_ GE101.out | refine Zf ?_ GE102.out) | exact HB.out)⟩
    (try clear HO_103001)
    (try clear HO_103002)
    (try clear HO105)
    (try clear BK101)
    (try clear BK102)
    (try clear HB)
    generalize (w15.setCell ⟨gb102, 0, none⟩ (.slice Ao16 y103.length co16)) = w19 at n0_ n1_ n2_ n3_ n4_ n5_ ⊢
    have HO_103001 := n0_
    have HO_103002 := n1_
    have HO105 := n2_
    have BK101 := n3_
    have BK102 := n4_
    have HB := n5_
    clear n0_ n1_ n2_ n3_ n4_ n5_
    have n0_ := Aside0.mk (Kd.S_drew HO_103001.out)
    have n1_ := Aside0.mk (Kd.S_drew HO_103002.out)
    have n2_ := Aside0.mk (Kd.R_drew HO105.out)
    have n3_ := Aside0.mk (Zi BK101.out)
    have n4_ := Aside0.mk (Zi BK102.out)
    have n5_ := Aside0.mk (Zd HB.out)
    clear HO_103001
    clear HO_103002
    clear HO105
    clear BK101
    clear BK102
    clear HB
    have HO_103001 := n0_
    have HO_103002 := n1_
    have HO105 := n2_
    have BK101 := n3_
    have BK102 := n4_
    have HB := n5_
    clear n0_ n1_ n2_ n3_ n4_ n5_
    refine start_ (n := 11) (S := fun w' => w'.cell? ⟨gb102, 0, none⟩ = some (.slice Ao16 y103.length co16) ∧ w'.cell? ⟨gb102, 1, none⟩ = some (u103001) ∧ w'.cell? ⟨gb102, 2, none⟩ = some (.slice Ao18 x103002_1.length co18) ∧ w'.cell? ⟨gb102, 3, none⟩ = some (.int .i64 0) ∧ w'.cell? ⟨gb102, 4, none⟩ = some (.int .i64 (wrap64 (a0 * a1)))) (ds := [10]) #[false, false, false, false, false, false, false, false, false, false, false] (by kernel_rfl) rfl rfl ⟨(Zb BK102.out 0).trans rfl, (Zb BK102.out 1).trans rfl, (Zb BK102.out 2).trans rfl, (Zb BK102.out 3).trans rfl, (Zb BK102.out 4).trans rfl⟩ (fun hHeld => ?_); refine with_tabW impl_newSnap.tab6 impl_newSnap.bits6 (fun HT_ HW_ => ?_)
    generalize w19.drew = w20 at HO_103001 HO_103002 HO105 BK101 BK102 HB hHeld ⊢
    refine Zm (i := 0) (N := some 22) (v := ?_) (a' := ?_) (Bm9 11 1) rfl rfl (Zj HT_.out (by kernel_rfl)) (fun _ _ _ h => h) (Or.inl ⟨by rfl, ?_⟩) ?_ ?_
    rotate_left
    ·intro w'
     go_simp
     with_reducible rfl
    rotate_left
    ·simp only [Act.put, Sa9, Sb9, Sc9, Zk, Zl]
     rfl
    refine Zm (i := 2) (N := some 24) (v := ?_) (a' := ?_) (Bm9 11 5) rfl rfl (Zj HT_.out (by kernel_rfl)) (fun _ _ _ h => h) (Or.inl ⟨by rfl, ?_⟩) ?_ ?_
    rotate_left
    ·intro w'
     go_simp
     with_reducible rfl
    rotate_left
    ·simp only [Act.put, Sa9, Sb9, Sc9, Zk, Zl]
     rfl
    refine Zm (i := 4) (N := some 26) (v := ?_) (a' := ?_) (Bm9 11 21) rfl rfl (Zj HT_.out (by kernel_rfl)) (fun _ _ _ h => h) (Or.inl ⟨by rfl, ?_⟩) ?_ ?_
    rotate_left
    ·intro w'
     go_simp
     with_reducible rfl
    rotate_left
    ·simp only [Act.put, Sa9, Sb9, Sc9, Zk, Zl]
     rfl
    refine take_ (i := 1) (N := some 23) (v := ?_) (a' := ?_) (Bm9 11 23) rfl rfl (Zr HT_.out HW_.out (by kernel_rfl)) (fun _ _ _ h => h) (Or.inl ⟨by rfl, ?_⟩) hHeld ?_ ?_
    rotate_left
    ·rintro w' ⟨s0, s1, s2, s3, s4⟩
     go_simp
     with_reducible rfl
    rotate_left
    ·simp only [Act.put, Sa9, Sb9, Sc9, Zk, Zl]
     rfl
    refine join_ (σ := Value × Value) 5 (Bm9 11 63) (fun s_ => [(25, s_.1), (27, s_.2)]) (fun s_ w' => (w'.cell? ⟨gb102, 0, none⟩ = some (.slice Ao16 y103.length co16) ∧ w'.cell? ⟨gb102, 1, none⟩ = some (u103001) ∧ w'.cell? ⟨gb102, 2, none⟩ = some (.slice Ao18 x103002_1.length co18) ∧ w'.cell? ⟨gb102, 3, none⟩ = some (.int .i64 0) ∧ w'.cell? ⟨gb102, 4, none⟩ = some (.int .i64 (wrap64 (a0 * a1)))) ∧ (Kd.R (Kd.int .i64) 3 w' w.heap.size (fun k_ => some k_ ≠ (s_.1 : Value).ownBlock) (.slice Ao16 y103.length co16) y103) ∧ (Kd.R (Kd.int .i64) 3 w' w.heap.size (fun k_ => some k_ ≠ (.slice Ao16 y103.length co16 : Value).ownBlock) s_.1 y106) ∧ (Kd.R Kd.bool 4 w' w.heap.size (fun _ => True) s_.2 y109) ∧ (Kd.S k94 94 w' w.heap.size (fun k_ => some k_ ≠ (.slice Ao16 y103.length co16 : Value).ownBlock ∧ some k_ ≠ (s_.1 : Value).ownBlock) u103001 x103001_1) ∧ (Kd.S k76 76 w' w.heap.size (fun k_ => some k_ ≠ (.slice Ao16 y103.length co16 : Value).ownBlock ∧ some k_ ≠ (s_.1 : Value).ownBlock ∧ some k_ ≠ (s_.2 : Value).ownBlock) (.slice Ao18 x103002_1.length co18) x103002_1) ∧ (w'.heap[gb101]? = some (.cells #[.slice none 0 0, .slice none 0 0, .slice none 0 0, .int .i64 0, .int .i64 0] 35 (0, 0))) ∧ (w'.heap[gb102]? = some (.cells #[.slice Ao16 y103.length co16, u103001, .slice Ao18 x103002_1.length co18, .int .i64 0, .int .i64 (wrap64 (a0 * a1))] 35 (0, 0))) ∧ (Below w.heap.size w w')) ?_ ?_
    rotate_left
    ·intro hCont
     refine two_ (i := 3) (j := 5) (Ni := some 25) (Nj := some 27) (Bm9 11 31) (Bm9 11 55) rfl rfl rfl rfl (two_of HT_.out (by kernel_rfl)) (by decide) (by decide) (fun K hK => ?_) (fun K hK => ?_)
     ·skip
      refine Kd.R_make_step (Kd.int .i64) _ 3 (by rfl) (N := 25) rfl 31 _ _ rfl a0 rfl rfl Try.underlying31 (.int .i64 0) 8 info3 rfl (by decide) (by omega) 0 (ok := fun _ => True) (okp := fun _ => True) rfl (fun _ hk => hk) trivial (of_decide_eq_true (by assumption)) (Nat.le_trans (Nat.mul_le_mul_right _ (of_decide_eq_true (by assumption) : a0.toNat ≤ 35184372088832)) (by omega)) (Below.refl _ _) (Nat.le_refl _) ?_
      intro v107 w21 ho22 hb hg_ hnew_
      clear hg_ hnew_
      (first | rw [← Ny106.out] at ho22 | (simp only [Int.reduceToNat] at ho22; rw [← Ny106.out] at ho22))
      have n0_ := Aside0.mk (Kd.S_elder' (by (with_reducible repeat (first | apply Kd.S_alloc | apply Kd.S_drewN | apply Kd.S_drew)); exact HO_103001.out) (Kd.R_base ho22) hb)
      have n1_ := Aside0.mk (Kd.S_elder' (by (with_reducible repeat (first | apply Kd.S_alloc | apply Kd.S_drewN | apply Kd.S_drew)); exact HO_103002.out) (Kd.R_base ho22) hb)
      have n2_ := Aside0.mk (Kd.R_elder' (by (with_reducible repeat (first | apply Kd.R_alloc | apply Kd.R_drewN | apply Kd.R_drew)); exact HO105.out) (Kd.R_base ho22) hb)
      have n3_ := Aside0.mk (Kd.R_lower (Kd.R_new' ho22 (Kd.R_lt (by (with_reducible repeat (first | apply Kd.R_alloc | apply Kd.R_drewN | apply Kd.R_drew)); exact HO105.out))) (Zn (by repeat (first | (with_reducible first | exact HB.out | apply Ze | apply Za | apply Zd | refine Zf ?_ GE101.out | refine Zf ?_ GE102.out) | exact HB.out))))
      have n4_ := Aside0.mk (Zq (g := gb101) (o := .cells #[.slice none 0 0, .slice none 0 0, .slice none 0 0, .int .i64 0, .int .i64 0] 35 (0, 0)) (by (with_reducible repeat (first | refine Zh ?_ _ | refine Zi ?_ | refine Zg ?_ _)); exact BK101.out) hb)
      have n5_ := Aside0.mk (Zq (g := gb102) (o := .cells #[.slice Ao16 y103.length co16, u103001, .slice Ao18 x103002_1.length co18, .int .i64 0, .int .i64 (wrap64 (a0 * a1))] 35 (0, 0)) (by (with_reducible repeat (first | refine Zh ?_ _ | refine Zi ?_ | refine Zg ?_ _)); exact BK102.out) hb)
      have n6_ := Aside0.mk (Zo (by repeat (first | (with_reducible first | exact HB.out | apply Ze | apply Za | apply Zd | refine Zf ?_ GE101.out | refine Zf ?_ GE102.out) | exact HB.out)) hb)
      clear HO_103001
      clear HO_103002
      clear HO105
      clear BK101
      clear BK102
      clear HB
      have HO_103001 := n0_
      have HO_103002 := n1_
      have HO105 := n2_
      have HO108 := n3_
      have BK101 := n4_
      have BK102 := n5_
      have HB := n6_
      clear n0_ n1_ n2_ n3_ n4_ n5_ n6_
      clear hb ho22
      refine hK.out _ _ ⟨(Zb BK102.out 0).trans rfl, (Zb BK102.out 1).trans rfl, (Zb BK102.out 2).trans rfl, (Zb BK102.out 3).trans rfl, (Zb BK102.out 4).trans rfl⟩ (fun hHeld => ?_)
      clear hK K
      refine norm_ (a' := ?_) ?_ ?_
      rotate_left
      ·show Act.put _ (some 25) _ = _
       simp only [Act.put, Sa9, Sb9, Sc9, Zk, Zl]
       rfl
      refine one_ (i := 5) (N := some 27) (Bm9 11 63) rfl rfl (one_of HT_.out (by kernel_rfl)) (by decide) (fun K hK => ?_)
      refine Kd.R_make_step Kd.bool _ 4 (by rfl) (N := 27) rfl 74 _ _ rfl a0 rfl rfl Try.underlying74 (.bool false) 1 info4 rfl (by decide) (by omega) false (ok := fun _ => True) (okp := fun _ => True) rfl (fun _ hk => hk) trivial (of_decide_eq_true (by assumption)) (Nat.le_trans (Nat.mul_le_mul_right _ (of_decide_eq_true (by assumption) : a0.toNat ≤ 281474976710656)) (by omega)) (Below.refl _ _) (Nat.le_refl _) ?_
      intro v110 w23 ho24 hb hg_ hnew_
      clear hg_ hnew_
      (first | rw [← Ny109.out] at ho24 | (simp only [Int.reduceToNat] at ho24; rw [← Ny109.out] at ho24))
      have n0_ := Aside0.mk (Kd.S_below (by (with_reducible repeat (first | apply Kd.S_alloc | apply Kd.S_drewN | apply Kd.S_drew)); exact HO_103001.out) hb)
      have n1_ := Aside0.mk (Kd.S_elder' (by (with_reducible repeat (first | apply Kd.S_alloc | apply Kd.S_drewN | apply Kd.S_drew)); exact HO_103002.out) (Kd.R_base ho24) hb)
      have n2_ := Aside0.mk (Kd.R_below (by (with_reducible repeat (first | apply Kd.R_alloc | apply Kd.R_drewN | apply Kd.R_drew)); exact HO105.out) hb)
      have n3_ := Aside0.mk (Kd.R_below (by (with_reducible repeat (first | apply Kd.R_alloc | apply Kd.R_drewN | apply Kd.R_drew)); exact HO108.out) hb)
      have n4_ := Aside0.mk (Kd.R_lower ho24 (Zn (by repeat (first | (with_reducible first | exact HB.out | apply Ze | apply Za | apply Zd | refine Zf ?_ GE101.out | refine Zf ?_ GE102.out) | exact HB.out))))
      have n5_ := Aside0.mk (Zq (g := gb101) (o := .cells #[.slice none 0 0, .slice none 0 0, .slice none 0 0, .int .i64 0, .int .i64 0] 35 (0, 0)) (by (with_reducible repeat (first | refine Zh ?_ _ | refine Zi ?_ | refine Zg ?_ _)); exact BK101.out) hb)
      have n6_ := Aside0.mk (Zq (g := gb102) (o := .cells #[.slice Ao16 y103.length co16, u103001, .slice Ao18 x103002_1.length co18, .int .i64 0, .int .i64 (wrap64 (a0 * a1))] 35 (0, 0)) (by (with_reducible repeat (first | refine Zh ?_ _ | refine Zi ?_ | refine Zg ?_ _)); exact BK102.out) hb)
      have n7_ := Aside0.mk (Zo (by repeat (first | (with_reducible first | exact HB.out | apply Ze | apply Za | apply Zd | refine Zf ?_ GE101.out | refine Zf ?_ GE102.out) | exact HB.out)) hb)
      clear HO_103001
      clear HO_103002
      clear HO105
      clear HO108
      clear BK101
      clear BK102
      clear HB
      have HO_103001 := n0_
      have HO_103002 := n1_
      have HO105 := n2_
      have HO108 := n3_
      have HO111 := n4_
      have BK101 := n5_
      have BK102 := n6_
      have HB := n7_
      clear n0_ n1_ n2_ n3_ n4_ n5_ n6_ n7_
      clear hb ho24
      obtain ⟨Ao25, co25, eo25⟩ := Kd.R_slice HO111.out
      (first | subst eo25 | (injection eo25 with f1_ f2_ f3_; have f4_ := f1_.symm; have f5_ := f3_.symm; clear f1_ f2_ f3_; subst f4_; subst f5_))
      obtain ⟨Ao26, co26, eo26⟩ := Kd.R_slice HO108.out
      (first | subst eo26 | (injection eo26 with f1_ f2_ f3_; have f4_ := f1_.symm; have f5_ := f3_.symm; clear f1_ f2_ f3_; subst f4_; subst f5_))
      refine hK.out _ _ ⟨(Zb BK102.out 0).trans rfl, (Zb BK102.out 1).trans rfl, (Zb BK102.out 2).trans rfl, (Zb BK102.out 3).trans rfl, (Zb BK102.out 4).trans rfl⟩ (fun hHeld => ?_)
      clear hK K
      refine norm_ (a' := ?_) ?_ ?_
      rotate_left
      ·show Act.put _ (some 27) _ = _
       simp only [Act.put, Sa9, Sb9, Sc9, Zk, Zl]
       rfl
      exact norm_ (by simp only [putAll, Act.put, Sa9, Sb9, Sc9]) (hCont (.slice Ao26 y106.length co26, .slice Ao25 y109.length co25) _ ⟨hHeld, (by (with_reducible repeat (first | apply Kd.R_alloc | apply Kd.R_drewN | apply Kd.R_drew)); exact Kd.R_mono HO105.out (fun _ hk => hk.2)), (by (with_reducible repeat (first | apply Kd.R_alloc | apply Kd.R_drewN | apply Kd.R_drew)); exact Kd.R_mono HO108.out (fun _ hk => hk.2)), (by (with_reducible repeat (first | apply Kd.R_alloc | apply Kd.R_drewN | apply Kd.R_drew)); exact HO111.out), (by (with_reducible repeat (first | apply Kd.S_alloc | apply Kd.S_drewN | apply Kd.S_drew)); exact HO_103001.out), (by (with_reducible repeat (first | apply Kd.S_alloc | apply Kd.S_drewN | apply Kd.S_drew)); exact Kd.S_mono HO_103002.out (fun _ hk => ⟨hk.1.1, ⟨hk.1.2, hk.2⟩⟩)), (by (with_reducible repeat (first | refine Zh ?_ _ | refine Zi ?_ | refine Zg ?_ _)); exact BK101.out), (by (with_reducible repeat (first | refine Zh ?_ _ | refine Zi ?_ | refine Zg ?_ _)); exact BK102.out), (by repeat (first | (with_reducible first | exact HB.out | apply Ze | apply Za | apply Zd | refine Zf ?_ GE101.out | refine Zf ?_ GE102.out) | exact HB.out))⟩)
     ·skip
      refine Kd.R_make_step Kd.bool _ 4 (by rfl) (N := 27) rfl 74 _ _ rfl a0 rfl rfl Try.underlying74 (.bool false) 1 info4 rfl (by decide) (by omega) false (ok := fun _ => True) (okp := fun _ => True) rfl (fun _ hk => hk) trivial (of_decide_eq_true (by assumption)) (Nat.le_trans (Nat.mul_le_mul_right _ (of_decide_eq_true (by assumption) : a0.toNat ≤ 281474976710656)) (by omega)) (Below.refl _ _) (Nat.le_refl _) ?_
      intro v110 w21 ho22 hb hg_ hnew_
      clear hg_ hnew_
      (first | rw [← Ny109.out] at ho22 | (simp only [Int.reduceToNat] at ho22; rw [← Ny109.out] at ho22))
      have n0_ := Aside0.mk (Kd.S_below (by (with_reducible repeat (first | apply Kd.S_alloc | apply Kd.S_drewN | apply Kd.S_drew)); exact HO_103001.out) hb)
      have n1_ := Aside0.mk (Kd.S_elder' (by (with_reducible repeat (first | apply Kd.S_alloc | apply Kd.S_drewN | apply Kd.S_drew)); exact HO_103002.out) (Kd.R_base ho22) hb)
      have n2_ := Aside0.mk (Kd.R_below (by (with_reducible repeat (first | apply Kd.R_alloc | apply Kd.R_drewN | apply Kd.R_drew)); exact HO105.out) hb)
      have n3_ := Aside0.mk (Kd.R_lower ho22 (Zn (by repeat (first | (with_reducible first | exact HB.out | apply Ze | apply Za | apply Zd | refine Zf ?_ GE101.out | refine Zf ?_ GE102.out) | exact HB.out))))
      have n4_ := Aside0.mk (Zq (g := gb101) (o := .cells #[.slice none 0 0, .slice none 0 0, .slice none 0 0, .int .i64 0, .int .i64 0] 35 (0, 0)) (by (with_reducible repeat (first | refine Zh ?_ _ | refine Zi ?_ | refine Zg ?_ _)); exact BK101.out) hb)
      have n5_ := Aside0.mk (Zq (g := gb102) (o := .cells #[.slice Ao16 y103.length co16, u103001, .slice Ao18 x103002_1.length co18, .int .i64 0, .int .i64 (wrap64 (a0 * a1))] 35 (0, 0)) (by (with_reducible repeat (first | refine Zh ?_ _ | refine Zi ?_ | refine Zg ?_ _)); exact BK102.out) hb)
      have n6_ := Aside0.mk (Zo (by repeat (first | (with_reducible first | exact HB.out | apply Ze | apply Za | apply Zd | refine Zf ?_ GE101.out | refine Zf ?_ GE102.out) | exact HB.out)) hb)
      clear HO_103001
      clear HO_103002
      clear HO105
      clear BK101
      clear BK102
      clear HB
      have HO_103001 := n0_
      have HO_103002 := n1_
      have HO105 := n2_
      have HO111 := n3_
      have BK101 := n4_
      have BK102 := n5_
      have HB := n6_
      clear n0_ n1_ n2_ n3_ n4_ n5_ n6_
      clear hb ho22
      refine hK.out _ _ ⟨(Zb BK102.out 0).trans rfl, (Zb BK102.out 1).trans rfl, (Zb BK102.out 2).trans rfl, (Zb BK102.out 3).trans rfl, (Zb BK102.out 4).trans rfl⟩ (fun hHeld => ?_)
      clear hK K
      refine norm_ (a' := ?_) ?_ ?_
      rotate_left
      ·show Act.put _ (some 27) _ = _
       simp only [Act.put, Sa9, Sb9, Sc9, Zk, Zl]
       rfl
      refine one_ (i := 3) (N := some 25) (Bm9 11 63) rfl rfl (one_of HT_.out (by kernel_rfl)) (by decide) (fun K hK => ?_)
      refine Kd.R_make_step (Kd.int .i64) _ 3 (by rfl) (N := 25) rfl 31 _ _ rfl a0 rfl rfl Try.underlying31 (.int .i64 0) 8 info3 rfl (by decide) (by omega) 0 (ok := fun _ => True) (okp := fun _ => True) rfl (fun _ hk => hk) trivial (of_decide_eq_true (by assumption)) (Nat.le_trans (Nat.mul_le_mul_right _ (of_decide_eq_true (by assumption) : a0.toNat ≤ 35184372088832)) (by omega)) (Below.refl _ _) (Nat.le_refl _) ?_
      intro v107 w23 ho24 hb hg_ hnew_
      clear hg_ hnew_
      (first | rw [← Ny106.out] at ho24 | (simp only [Int.reduceToNat] at ho24; rw [← Ny106.out] at ho24))
      have n0_ := Aside0.mk (Kd.S_elder' (by (with_reducible repeat (first | apply Kd.S_alloc | apply Kd.S_drewN | apply Kd.S_drew)); exact HO_103001.out) (Kd.R_base ho24) hb)
      have n1_ := Aside0.mk (Kd.S_elder' (by (with_reducible repeat (first | apply Kd.S_alloc | apply Kd.S_drewN | apply Kd.S_drew)); exact HO_103002.out) (Kd.R_base ho24) hb)
      have n2_ := Aside0.mk (Kd.R_elder' (by (with_reducible repeat (first | apply Kd.R_alloc | apply Kd.R_drewN | apply Kd.R_drew)); exact HO105.out) (Kd.R_base ho24) hb)
      have n3_ := Aside0.mk (Kd.R_below (by (with_reducible repeat (first | apply Kd.R_alloc | apply Kd.R_drewN | apply Kd.R_drew)); exact HO111.out) hb)
      have n4_ := Aside0.mk (Kd.R_lower (Kd.R_new' ho24 (Kd.R_lt (by (with_reducible repeat (first | apply Kd.R_alloc | apply Kd.R_drewN | apply Kd.R_drew)); exact HO105.out))) (Zn (by repeat (first | (with_reducible first | exact HB.out | apply Ze | apply Za | apply Zd | refine Zf ?_ GE101.out | refine Zf ?_ GE102.out) | exact HB.out))))
      have n5_ := Aside0.mk (Zq (g := gb101) (o := .cells #[.slice none 0 0, .slice none 0 0, .slice none 0 0, .int .i64 0, .int .i64 0] 35 (0, 0)) (by (with_reducible repeat (first | refine Zh ?_ _ | refine Zi ?_ | refine Zg ?_ _)); exact BK101.out) hb)
      have n6_ := Aside0.mk (Zq (g := gb102) (o := .cells #[.slice Ao16 y103.length co16, u103001, .slice Ao18 x103002_1.length co18, .int .i64 0, .int .i64 (wrap64 (a0 * a1))] 35 (0, 0)) (by (with_reducible repeat (first | refine Zh ?_ _ | refine Zi ?_ | refine Zg ?_ _)); exact BK102.out) hb)
      have n7_ := Aside0.mk (Zo (by repeat (first | (with_reducible first | exact HB.out | apply Ze | apply Za | apply Zd | refine Zf ?_ GE101.out | refine Zf ?_ GE102.out) | exact HB.out)) hb)
      clear HO_103001
      clear HO_103002
      clear HO105
      clear HO111
      clear BK101
      clear BK102
      clear HB
      have HO_103001 := n0_
      have HO_103002 := n1_
      have HO105 := n2_
      have HO111 := n3_
      have HO108 := n4_
      have BK101 := n5_
      have BK102 := n6_
      have HB := n7_
      clear n0_ n1_ n2_ n3_ n4_ n5_ n6_ n7_
      clear hb ho24
      obtain ⟨Ao25, co25, eo25⟩ := Kd.R_slice HO111.out
      (first | subst eo25 | (injection eo25 with f1_ f2_ f3_; have f4_ := f1_.symm; have f5_ := f3_.symm; clear f1_ f2_ f3_; subst f4_; subst f5_))
      obtain ⟨Ao26, co26, eo26⟩ := Kd.R_slice HO108.out
      (first | subst eo26 | (injection eo26 with f1_ f2_ f3_; have f4_ := f1_.symm; have f5_ := f3_.symm; clear f1_ f2_ f3_; subst f4_; subst f5_))
      refine hK.out _ _ ⟨(Zb BK102.out 0).trans rfl, (Zb BK102.out 1).trans rfl, (Zb BK102.out 2).trans rfl, (Zb BK102.out 3).trans rfl, (Zb BK102.out 4).trans rfl⟩ (fun hHeld => ?_)
      clear hK K
      refine norm_ (a' := ?_) ?_ ?_
      rotate_left
      ·show Act.put _ (some 25) _ = _
       simp only [Act.put, Sa9, Sb9, Sc9, Zk, Zl]
       rfl
      exact norm_ (by simp only [putAll, Act.put, Sa9, Sb9, Sc9]) (hCont (.slice Ao26 y106.length co26, .slice Ao25 y109.length co25) _ ⟨hHeld, (by (with_reducible repeat (first | apply Kd.R_alloc | apply Kd.R_drewN | apply Kd.R_drew)); exact Kd.R_mono HO105.out (fun _ hk => hk.2)), (by (with_reducible repeat (first | apply Kd.R_alloc | apply Kd.R_drewN | apply Kd.R_drew)); exact Kd.R_mono HO108.out (fun _ hk => hk.2)), (by (with_reducible repeat (first | apply Kd.R_alloc | apply Kd.R_drewN | apply Kd.R_drew)); exact HO111.out), (by (with_reducible repeat (first | apply Kd.S_alloc | apply Kd.S_drewN | apply Kd.S_drew)); exact HO_103001.out), (by (with_reducible repeat (first | apply Kd.S_alloc | apply Kd.S_drewN | apply Kd.S_drew)); exact Kd.S_mono HO_103002.out (fun _ hk => ⟨hk.1.1, ⟨hk.2, hk.1.2⟩⟩)), (by (with_reducible repeat (first | refine Zh ?_ _ | refine Zi ?_ | refine Zg ?_ _)); exact BK101.out), (by (with_reducible repeat (first | refine Zh ?_ _ | refine Zi ?_ | refine Zg ?_ _)); exact BK102.out), (by repeat (first | (with_reducible first | exact HB.out | apply Ze | apply Za | apply Zd | refine Zf ?_ GE101.out | refine Zf ?_ GE102.out) | exact HB.out))⟩)
    rintro ⟨v107, v110⟩ w27 ⟨hS_, h0_, h1_, h2_, h3_, h4_, h5_, h6_, h7_⟩
    have n0_ : Aside0 (Kd.R (Kd.int .i64) 3 w27 w.heap.size (fun k_ => some k_ ≠ (v107 : Value).ownBlock) (.slice Ao16 y103.length co16) y103) := ⟨h0_⟩
    have n1_ : Aside0 (Kd.R (Kd.int .i64) 3 w27 w.heap.size (fun k_ => some k_ ≠ (.slice Ao16 y103.length co16 : Value).ownBlock) v107 y106) := ⟨h1_⟩
    have n2_ : Aside0 (Kd.R Kd.bool 4 w27 w.heap.size (fun _ => True) v110 y109) := ⟨h2_⟩
    have n3_ : Aside0 (Kd.S k94 94 w27 w.heap.size (fun k_ => some k_ ≠ (.slice Ao16 y103.length co16 : Value).ownBlock ∧ some k_ ≠ (v107 : Value).ownBlock) u103001 x103001_1) := ⟨h3_⟩
    have n4_ : Aside0 (Kd.S k76 76 w27 w.heap.size (fun k_ => some k_ ≠ (.slice Ao16 y103.length co16 : Value).ownBlock ∧ some k_ ≠ (v107 : Value).ownBlock ∧ some k_ ≠ (v110 : Value).ownBlock) (.slice Ao18 x103002_1.length co18) x103002_1) := ⟨h4_⟩
    have n5_ : Aside0 (w27.heap[gb101]? = some (.cells #[.slice none 0 0, .slice none 0 0, .slice none 0 0, .int .i64 0, .int .i64 0] 35 (0, 0))) := ⟨h5_⟩
    have n6_ : Aside0 (w27.heap[gb102]? = some (.cells #[.slice Ao16 y103.length co16, u103001, .slice Ao18 x103002_1.length co18, .int .i64 0, .int .i64 (wrap64 (a0 * a1))] 35 (0, 0))) := ⟨h6_⟩
    have n7_ : Aside0 (Below w.heap.size w w27) := ⟨h7_⟩
    clear HO_103001
    clear HO_103002
    clear HO105
    clear BK101
    clear BK102
    clear HB
    clear h0_ h1_ h2_ h3_ h4_ h5_ h6_ h7_
    have HO105 := n0_
    have HO108 := n1_
    have HO111 := n2_
    have HO_103001 := n3_
    have HO_103002 := n4_
    have BK101 := n5_
    have BK102 := n6_
    have HB := n7_
    clear n0_ n1_ n2_ n3_ n4_ n5_ n6_ n7_
    have hHeld : w27.cell? ⟨gb102, 0, none⟩ = some (.slice Ao16 y103.length co16) ∧ w27.cell? ⟨gb102, 1, none⟩ = some (u103001) ∧ w27.cell? ⟨gb102, 2, none⟩ = some (.slice Ao18 x103002_1.length co18) ∧ w27.cell? ⟨gb102, 3, none⟩ = some (.int .i64 0) ∧ w27.cell? ⟨gb102, 4, none⟩ = some (.int .i64 (wrap64 (a0 * a1))) := hS_
    obtain ⟨Ao28, co28, eo28⟩ := Kd.R_slice HO111.out
    (first | subst eo28 | (injection eo28 with f1_ f2_ f3_; have f4_ := f1_.symm; have f5_ := f3_.symm; clear f1_ f2_ f3_; subst f4_; subst f5_))
    obtain ⟨Ao29, co29, eo29⟩ := Kd.R_slice HO108.out
    (first | subst eo29 | (injection eo29 with f1_ f2_ f3_; have f4_ := f1_.symm; have f5_ := f3_.symm; clear f1_ f2_ f3_; subst f4_; subst f5_))
    refine norm_ (a' := ?_) ?_ ?_
    rotate_left
    ·simp only [putAll, Act.put, Sa9, Sb9, Sc9]
     rfl
    refine Zm (i := 6) (N := some 28) (v := ?_) (a' := ?_) (Bm9 11 127) rfl rfl (Zj HT_.out (by kernel_rfl)) (fun _ _ _ h => h) (Or.inl ⟨by rfl, ?_⟩) ?_ ?_
    rotate_left
    ·intro w'
     go_simp
     with_reducible rfl
    rotate_left
    ·simp only [Act.put, Sa9, Sb9, Sc9, Zk, Zl]
     rfl
    refine one_ (i := 7) (N := some 29) (Bm9 11 255) rfl rfl (one_of HT_.out (by kernel_rfl)) (by decide) (fun K hK => ?_)
    refine value_ (w1 := ?_) (v := ?_) (by rfl) rfl ?_ ?_
    rotate_left 2
    ·go_simp
     constructor
     ·rfl
     ·rfl
    refine hK.out _ _ ⟨(Zb (Zg BK102.out _) 0).trans rfl, (Zb (Zg BK102.out _) 1).trans rfl, (Zb (Zg BK102.out _) 2).trans rfl, (Zb (Zg BK102.out _) 3).trans rfl, (Zb (Zg BK102.out _) 4).trans rfl⟩ (fun hHeld => ?_)
    clear hK K
    refine norm_ (a' := ?_) ?_ ?_
    rotate_left
    ·show Act.put _ (some 29) _ = _
     simp only [Act.put, Sa9, Sb9, Sc9, Zk, Zl]
     rfl
    refine one_ (i := 8) (N := some 30) (Bm9 11 511) rfl rfl (one_of HT_.out (by kernel_rfl)) (by decide) (fun K hK => ?_)
    refine Kd.S_append_step k76 (w0 := w) w.heap.size (by rfl) (.tmp 23) (.tmp 29) 33 76 (.agg #[(.bool false), (.int .i64 0), (.slice none 0 0), (.slice none 0 0)]) 64 rfl Try.underlying33 info76 rfl (by decide) (by omega) (.slice Ao18 x103002_1.length co18) x103002_1 (⟨false, 0, y106, y109⟩ : S76) [.bool false, .int .i64 0, .slice Ao29 y106.length co29, .slice Ao28 y109.length co28] (fun k_ => some k_ ≠ (.slice Ao16 y103.length co16 : Value).ownBlock) (fun k_ => some k_ = (.slice Ao29 y106.length co29 : Value).ownBlock ∨ some k_ = (.slice Ao28 y109.length co28 : Value).ownBlock) rfl rfl ?aP (fun k_ hk_ => hk_.elim (fun h_ => ((Kd.R_mono (ok' := fun k_ => ((fun k_ => some k_ ≠ (.slice Ao16 y103.length co16 : Value).ownBlock)) k_ ∧ some k_ ≠ (.slice Ao18 x103002_1.length co18 : Value).ownBlock) (Kd.R_apart' (HO108.out) (Kd.S_typed HO_103002.out) (by decide)) (fun k_ hk => ⟨hk.1, hk.2⟩))).1 k_ h_.symm) (fun h_ => ((Kd.R_mono (ok' := fun k_ => ((fun k_ => some k_ ≠ (.slice Ao16 y103.length co16 : Value).ownBlock)) k_ ∧ some k_ ≠ (.slice Ao18 x103002_1.length co18 : Value).ownBlock) (Kd.R_apart' (Kd.R_apart' (HO111.out) (Kd.R_typed HO105.out) (by decide)) (Kd.S_typed HO_103002.out) (by decide)) (fun k_ hk => ⟨hk.1.2, hk.2⟩))).1 k_ h_.symm)) ?aF ?aO ?aB ?aS ?aL ?_
    (case aP => exact k76_mkM _ _ _ (⟨false, 0, y106, y109⟩ : S76) (Kd.R_mono (Kd.R_tight rfl (Kd.R_mono (ok' := fun k_ => ((fun k_ => some k_ ≠ (.slice Ao16 y103.length co16 : Value).ownBlock)) k_ ∧ some k_ ≠ (.slice Ao18 x103002_1.length co18 : Value).ownBlock) (Kd.R_apart' (HO108.out) (Kd.S_typed HO_103002.out) (by decide)) (fun k_ hk => ⟨hk.1, hk.2⟩))) (fun _ h_ => Or.inl h_)) (Kd.R_mono (Kd.R_tight rfl (Kd.R_mono (ok' := fun k_ => ((fun k_ => some k_ ≠ (.slice Ao16 y103.length co16 : Value).ownBlock)) k_ ∧ some k_ ≠ (.slice Ao18 x103002_1.length co18 : Value).ownBlock) (Kd.R_apart' (Kd.R_apart' (HO111.out) (Kd.R_typed HO105.out) (by decide)) (Kd.S_typed HO_103002.out) (by decide)) (fun k_ hk => ⟨hk.1.2, hk.2⟩))) (fun _ h_ => Or.inr (h_))))
    (case aB => exact (by repeat (first | (with_reducible first | exact HB.out | apply Ze | apply Za | apply Zd | refine Zf ?_ GE101.out | refine Zf ?_ GE102.out) | exact HB.out)))
    (case aF => exact (fun k_ hk => Kd.fresh' (Kd.R_lt (by (with_reducible repeat (first | apply Kd.R_alloc | apply Kd.R_drewN | apply Kd.R_drew)); exact HO105.out)) k_ hk))
    (case aO => exact (by (with_reducible repeat (first | apply Kd.S_alloc | apply Kd.S_drewN | apply Kd.S_drew)); exact Kd.S_mono HO_103002.out (fun k_ hk => ⟨hk.1, fun e_ => e_.elim (fun h_ => hk.2.1 h_) (fun h_ => hk.2.2 h_)⟩)))
    (case aS => exact (Zn (by repeat (first | (with_reducible first | exact HB.out | apply Ze | apply Za | apply Zd | refine Zf ?_ GE101.out | refine Zf ?_ GE102.out) | exact HB.out))))
    (case aL => have := LMc12.out; omega)
    intro v113 w30 ho hb hg hat
    rw [← Ny112.out] at ho
    have n0_ := Aside0.mk (Kd.S_over' (by (with_reducible repeat (first | apply Kd.S_alloc | apply Kd.S_drewN | apply Kd.S_drew)); exact HO_103001.out) (Kd.S_typed (by (with_reducible repeat (first | apply Kd.S_alloc | apply Kd.S_drewN | apply Kd.S_drew)); exact HO_103002.out)) (by decide) hg)
    have n1_ := Aside0.mk (blk_grown (g := gb101) (o := .cells #[.slice none 0 0, .slice none 0 0, .slice none 0 0, .int .i64 0, .int .i64 0] 35 (0, 0)) (by (with_reducible repeat (first | refine Zh ?_ _ | refine Zi ?_ | refine Zg ?_ _)); exact BK101.out) hg (Kd.S_ne HO_103002.out BK101.out (by decide)))
    have n2_ := Aside0.mk (blk_grown (g := gb102) (o := .cells #[.slice Ao16 y103.length co16, u103001, .slice Ao18 x103002_1.length co18, .int .i64 0, .int .i64 (wrap64 (a0 * a1))] 35 (0, 0)) (by (with_reducible repeat (first | refine Zh ?_ _ | refine Zi ?_ | refine Zg ?_ _)); exact BK102.out) hg (Kd.S_ne HO_103002.out BK102.out (by decide)))
    have n3_ := Aside0.mk (Kd.R_over' (by (with_reducible repeat (first | apply Kd.R_alloc | apply Kd.R_drewN | apply Kd.R_drew)); exact HO105.out) (Kd.S_typed (by (with_reducible repeat (first | apply Kd.S_alloc | apply Kd.S_drewN | apply Kd.S_drew)); exact HO_103002.out)) (by decide) hg)
    have n4_ := Aside0.mk (hb)
    have n5_ := Aside0.mk (ho)
    clear HO_103001
    clear BK101
    clear BK102
    clear HO105
    clear HB
    clear HO_103002
    clear HO108
    clear HO111
    have HO_103001 := n0_
    have BK101 := n1_
    have BK102 := n2_
    have HO105 := n3_
    have HB := n4_
    have HO114 := n5_
    clear n0_ n1_ n2_ n3_ n4_ n5_
    clear ho hb hg hat
    obtain ⟨Ao31, co31, eo31⟩ := Kd.S_slice HO114.out
    (first | subst eo31 | (injection eo31 with f1_ f2_ f3_; have f4_ := f1_.symm; have f5_ := f3_.symm; clear f1_ f2_ f3_; subst f4_; subst f5_))
    refine hK.out _ _ ⟨(Zb BK102.out 0).trans rfl, (Zb BK102.out 1).trans rfl, (Zb BK102.out 2).trans rfl, (Zb BK102.out 3).trans rfl, (Zb BK102.out 4).trans rfl⟩ (fun hHeld => ?_)
    clear hK K
    refine norm_ (a' := ?_) ?_ ?_
    rotate_left
    ·show Act.put _ (some 30) _ = _
     simp only [Act.put, Sa9, Sb9, Sc9, Zk, Zl]
     rfl
    refine Zm (i := 9) (N := some 31) (v := ?_) (a' := ?_) (Bm9 11 1023) rfl rfl (Zj HT_.out (by kernel_rfl)) (fun _ _ _ h => h) (Or.inl ⟨by rfl, ?_⟩) ?_ ?_
    rotate_left
    ·intro w'
     go_simp
     with_reducible rfl
    rotate_left
    ·simp only [Act.put, Sa9, Sb9, Sc9, Zk, Zl]
     rfl
    refine last_ (i := 10) (N := none) (Bm9 11 2047) rfl rfl (one_of HT_.out (by kernel_rfl)) (by decide) (fun K hK => ?_)
    have hs32 : w30.cell? ⟨gb102, 2, none⟩ = some (.slice Ao18 x103002_1.length co18) := (Zb BK102.out 2).trans rfl
    have hfs32 := Zc BK102.out 2
    have hns32_0 := NB101_102.out
    have hms32_0 := NB102_101.out
    refine skip_ (w1 := ?_) (by rfl) rfl ?_ ?_
    rotate_left
    ·go_simp
     rfl
    refine hK.out _ _ ?_
    clear hK K
    refine done_ (done_of HT_.out (by kernel_rfl)) ?_
    try go_wp2
    go_loopg [33] k1 (fun kq v33 w' => ∃ (x33_2 : Int) (x103001_2 : List (S94)) (u103001 : Value), v33 = .int .i64 x33_2 ∧ Aside0 (impl_newSnap.l1 kq a0 a1 x13_1 a0 x13_1 a0 x33_2 y103 x103001_2 y112 0 (wrap64 (a0 * a1)) = some (r1, r2, r3, r4, r5)) ∧ Aside0 (kq ≤ k1) ∧ Aside0 (Kd.R (Kd.int .i64) 3 w' w.heap.size (fun _ => True) (.slice Ao16 y103.length co16) y103) ∧ Aside0 (Kd.S k94 94 w' w.heap.size (fun k_ => some k_ ≠ ((.slice Ao16 y103.length co16) : Value).ownBlock) u103001 x103001_2) ∧ Aside0 (Kd.S k76 76 w' w.heap.size (fun k_ => some k_ ≠ ((.slice Ao16 y103.length co16) : Value).ownBlock) (.slice Ao31 y112.length co31) y112) ∧ Aside0 (w'.heap[gb101]? = some (.cells #[(.slice none 0 0), (.slice none 0 0), (.slice none 0 0), .int .i64 0, .int .i64 0] 35 (0, 0))) ∧ Aside0 (w'.heap[gb102]? = some (.cells #[(.slice Ao16 y103.length co16), u103001, (.slice Ao31 y112.length co31), .int .i64 0, .int .i64 (wrap64 (a0 * a1))] 35 (0, 0))) ∧ Aside0 (Below w.heap.size w w'))
    case atStart => exact ⟨(0), (x103001_1), (u103001), (by first | rfl | (simp; done) | (simp [*]; done)), H', ⟨Nat.le_refl _⟩, ⟨by (with_reducible repeat (first | apply Kd.R_alloc | apply Kd.R_drewN | apply Kd.R_drew)); exact Kd.R_mono (Kd.R_far (p := ⟨gb102, 2, none⟩) (Kd.R_types HO105.out BK102.out (by decide)) (fun _ hk => hk.2) (.slice Ao31 y112.length co31)) (fun _ hk => trivial)⟩, ⟨by (with_reducible repeat (first | apply Kd.S_alloc | apply Kd.S_drewN | apply Kd.S_drew)); exact Kd.S_mono (Kd.S_far (p := ⟨gb102, 2, none⟩) (Kd.S_types HO_103001.out BK102.out (by decide)) (fun _ hk => hk.2) (.slice Ao31 y112.length co31)) (fun _ hk => hk.1.1)⟩, ⟨by (with_reducible repeat (first | apply Kd.S_alloc | apply Kd.S_drewN | apply Kd.S_drew)); exact Kd.S_mono (Kd.S_far (p := ⟨gb102, 2, none⟩) (Kd.S_types HO114.out BK102.out (by decide)) (fun _ hk => hk.2) (.slice Ao31 y112.length co31)) (fun _ hk => hk.1)⟩, ⟨by (with_reducible repeat (first | refine Zh ?_ _ | refine Zi ?_ | refine Zg ?_ _)); refine Zs ?_ NB101_102.out _; (with_reducible repeat (first | refine Zh ?_ _ | refine Zi ?_ | refine Zg ?_ _)); exact BK101.out⟩, ⟨by (with_reducible repeat (first | refine Zh ?_ _ | refine Zi ?_ | refine Zg ?_ _)); refine Zu (cs := #[.slice Ao16 y103.length co16, u103001, .slice Ao18 x103002_1.length co18, .int .i64 0, .int .i64 (wrap64 (a0 * a1))]) ?_ 2 _ rfl; (with_reducible repeat (first | refine Zh ?_ _ | refine Zi ?_ | refine Zg ?_ _)); exact BK102.out⟩, ⟨by repeat (first | (with_reducible first | exact HB.out | apply Ze | apply Za | apply Zd | refine Zf ?_ GE101.out | refine Zf ?_ GE102.out) | exact HB.out)⟩⟩
    case round =>
     clear H'
     try clear c7
     try clear c7b0
     try clear c8
     try clear c9
     try clear c9b0
     try clear c9b1
     try clear c10
     try clear c10b0
     try clear c10b1
     try clear c11
     try clear c11b0
     try clear c11b1
     try clear c12
     try clear hcz14_0
     try clear hcz14_1
     try clear hcz14_2
     try clear hcz14_3
     try clear hcz14_4
     try clear hcz17_0
     try clear hcz17_1
     try clear hcz17_2
     try clear hcz17_3
     try clear hcz17_4
     try clear hcz6_0
     try clear hcz6_1
     try clear hcz6_2
     try clear hcz6_3
     try clear hcz6_4
     try clear hfz14_0
     try clear hfz14_1
     try clear hfz14_2
     try clear hfz14_3
     try clear hfz14_4
     try clear hfz17_0
     try clear hfz17_1
     try clear hfz17_2
     try clear hfz17_3
     try clear hfz17_4
     try clear hfz6_0
     try clear hfz6_1
     try clear hfz6_2
     try clear hfz6_3
     try clear hfz6_4
     obtain ⟨x33_2, x103001_2, u103001, rfl, HA, HK2, HO_103000, HO_103001, HO_103002, BK101, BK102, HB⟩ := hrel
     cases gk with
     | zero => exact absurd HA.out (by simp [impl_newSnap.l1])
     | succ k2 =>
      have H := HA.out
      clear HA
      simp only [impl_newSnap.l1] at H
      by_cases c33 : x33_2 < a0
      ·rw [if_pos c33] at H
       have c33b0 : decide (x33_2 < a0) = true := decide_eq_true c33
       clear c33
       by_cases c34 : x33_2 = x13_1
       ·rw [if_pos c34] at H
        have c34b0 : (x33_2 == x13_1) = true := beq_iff_eq.mpr c34
        have c34b1 : (x33_2 != x13_1) = false := bne_eq_false_iff_eq.mpr c34
        clear c34
        have H' := Aside0.mk H
        clear H
        go_wp2
        go_roundg k2
        case measure => have := HK1.out; have := HK2.out; omega
        case rel => exact ⟨(wrap64 (x33_2 + 1)), (x103001_2), (u103001), (by first | rfl | (simp; done) | (simp [*]; done)), H', ⟨by have := HK1.out; have := HK2.out; omega⟩, ⟨by (with_reducible repeat (first | apply Kd.R_alloc | apply Kd.R_drewN | apply Kd.R_drew)); exact HO_103000.out⟩, ⟨by (with_reducible repeat (first | apply Kd.S_alloc | apply Kd.S_drewN | apply Kd.S_drew)); exact HO_103001.out⟩, ⟨by (with_reducible repeat (first | apply Kd.S_alloc | apply Kd.S_drewN | apply Kd.S_drew)); exact HO_103002.out⟩, ⟨by (with_reducible repeat (first | refine Zh ?_ _ | refine Zi ?_ | refine Zg ?_ _)); exact BK101.out⟩, ⟨by (with_reducible repeat (first | refine Zh ?_ _ | refine Zi ?_ | refine Zg ?_ _)); exact BK102.out⟩, ⟨by repeat (first | (with_reducible first | exact HB.out | apply Ze | apply Za | apply Zd | refine Zf ?_ GE101.out | refine Zf ?_ GE102.out) | exact HB.out)⟩⟩
       ·rw [if_neg c34] at H
        have c34b0 : (x33_2 == x13_1) = false := beq_eq_false_iff_ne.mpr c34
        have c34b1 : (x33_2 != x13_1) = true := bne_iff_ne.mpr c34
        by_cases c35 : x103001_2.length < 3518437208883
        case neg => rw [if_neg c35] at H; exact absurd H (by simp)
        rw [if_pos c35] at H
        have LMc35 := Aside0.mk c35
        clear c35
        obtain ⟨y115, hy115⟩ : ∃ y_ : List (S94), y_ = (x103001_2 ++ [(⟨x13_1, x33_2, ([] : List Int)⟩ : S94)]) := ⟨_, rfl⟩
        replace H : (impl_newSnap.l1 k2 a0 a1 x13_1 a0 x13_1 a0 (wrap64 (x33_2 + 1)) y103 y115 y112 0 (wrap64 (a0 * a1))) = some (r1, r2, r3, r4, r5) := by first | (rw [hy115]; with_reducible exact H) | (have H2_ := (Option.bind_some _ _).symm.trans H; rw [hy115]; with_reducible exact H2_) | (have H2_ := (Option.bind_some _ _).symm.trans H; with_reducible exact H2_) | with_reducible exact H | (rw [hy115]; exact H) | exact H
        have Ny115 := Aside0.mk hy115
        clear hy115
        have H' := Aside0.mk H
        clear H
        have hnb36 := NB102_101.out
        have hnc36 := NB101_102.out
        have hcz37_0 : wr.cell? ⟨gb102, 0, none⟩ = some (.slice Ao16 y103.length co16) := (Zb BK102.out 0).trans rfl
        have hcz37_1 : wr.cell? ⟨gb102, 1, none⟩ = some (u103001) := (Zb BK102.out 1).trans rfl
        have hcz37_2 : wr.cell? ⟨gb102, 2, none⟩ = some (.slice Ao31 y112.length co31) := (Zb BK102.out 2).trans rfl
        have hcz37_3 : wr.cell? ⟨gb102, 3, none⟩ = some (.int .i64 0) := (Zb BK102.out 3).trans rfl
        have hcz37_4 : wr.cell? ⟨gb102, 4, none⟩ = some (.int .i64 (wrap64 (a0 * a1))) := (Zb BK102.out 4).trans rfl
        have hfz37_0 := Zc BK102.out 0
        have hfz37_1 := Zc BK102.out 1
        have hfz37_2 := Zc BK102.out 2
        have hfz37_3 := Zc BK102.out 3
        have hfz37_4 := Zc BK102.out 4
        go_wp2_with (first | ((with_reducible refine gate_builtin (b := .append) (xs := #[.tmp 40, .tmp 44]) rfl ?_); at_builtin; refine Kd.S_append k94 (w0 := w) w.heap.size rfl (.tmp 40) (.tmp 44) 32 94 (.agg #[(.int .i64 0), (.int .i64 0), (.slice none 0 0)]) 40 rfl Try.underlying32 info94 rfl (by decide) (by omega) u103001 x103001_2 (⟨x13_1, x33_2, ([] : List Int)⟩ : S94) [.int .i64 x13_1, .int .i64 x33_2, .slice none 0 0] (fun k_ => some k_ ≠ (.slice Ao16 y103.length co16 : Value).ownBlock) (fun _ => False) rfl rfl ?aP (fun k_ hk_ => hk_.elim) ?aF ?aO ?aB ?aS ?aL ?_; (case aP => exact k94_mkM _ _ _ (⟨x13_1, x33_2, ([] : List Int)⟩ : S94) (Kd.R_nil _ _ _ _ _)); (case aB => exact (by repeat (first | (with_reducible first | exact HB.out | apply Ze | apply Za | apply Zd | refine Zf ?_ GE101.out | refine Zf ?_ GE102.out) | exact HB.out))); (case aF => exact (fun k_ hk => Kd.fresh' (Kd.R_lt (by (with_reducible repeat (first | apply Kd.R_alloc | apply Kd.R_drewN | apply Kd.R_drew)); exact HO_103000.out)) k_ hk)); (case aO => exact (by (with_reducible repeat (first | apply Kd.S_alloc | apply Kd.S_drewN | apply Kd.S_drew)); exact Kd.S_mono HO_103001.out (fun k_ hk => ⟨hk, fun e_ => e_⟩))); (case aS => exact (Zn (by repeat (first | (with_reducible first | exact HB.out | apply Ze | apply Za | apply Zd | refine Zf ?_ GE101.out | refine Zf ?_ GE102.out) | exact HB.out)))); (case aL => have := LMc35.out; omega); intro v116 w38 ho hb hg hat; rw [← Ny115.out] at ho; have n0_ := Aside0.mk (Kd.R_over' (by (with_reducible repeat (first | apply Kd.R_alloc | apply Kd.R_drewN | apply Kd.R_drew)); exact HO_103000.out) (Kd.S_typed (by (with_reducible repeat (first | apply Kd.S_alloc | apply Kd.S_drewN | apply Kd.S_drew)); exact HO_103001.out)) (by decide) hg); have n1_ := Aside0.mk (Kd.S_over' (by (with_reducible repeat (first | apply Kd.S_alloc | apply Kd.S_drewN | apply Kd.S_drew)); exact HO_103002.out) (Kd.S_typed (by (with_reducible repeat (first | apply Kd.S_alloc | apply Kd.S_drewN | apply Kd.S_drew)); exact HO_103001.out)) (by decide) hg); have n2_ := Aside0.mk (blk_grown (g := gb101) (o := .cells #[.slice none 0 0, .slice none 0 0, .slice none 0 0, .int .i64 0, .int .i64 0] 35 (0, 0)) (by (with_reducible repeat (first | refine Zh ?_ _ | refine Zi ?_ | refine Zg ?_ _)); exact BK101.out) hg (Kd.S_ne HO_103001.out BK101.out (by decide))); have n3_ := Aside0.mk (blk_grown (g := gb102) (o := .cells #[.slice Ao16 y103.length co16, u103001, .slice Ao31 y112.length co31, .int .i64 0, .int .i64 (wrap64 (a0 * a1))] 35 (0, 0)) (by (with_reducible repeat (first | refine Zh ?_ _ | refine Zi ?_ | refine Zg ?_ _)); exact BK102.out) hg (Kd.S_ne HO_103001.out BK102.out (by decide))); have n4_ := Aside0.mk (hb); have n5_ := Aside0.mk (ho); clear HO_103000; clear HO_103002; clear BK101; clear BK102; clear HB; clear HO_103001; have HO_103000 := n0_; have HO_103002 := n1_; have BK101 := n2_; have BK102 := n3_; have HB := n4_; have HO117 := n5_; clear n0_ n1_ n2_ n3_ n4_ n5_; clear ho hb hg hat; obtain ⟨Ao39, co39, eo39⟩ := Kd.S_slice HO117.out; subst eo39; have hcz40_0 : w38.cell? ⟨gb102, 0, none⟩ = some (.slice Ao16 y103.length co16) := (Zb BK102.out 0).trans rfl; have hcz40_1 : w38.cell? ⟨gb102, 1, none⟩ = some (u103001) := (Zb BK102.out 1).trans rfl; have hcz40_2 : w38.cell? ⟨gb102, 2, none⟩ = some (.slice Ao31 y112.length co31) := (Zb BK102.out 2).trans rfl; have hcz40_3 : w38.cell? ⟨gb102, 3, none⟩ = some (.int .i64 0) := (Zb BK102.out 3).trans rfl; have hcz40_4 : w38.cell? ⟨gb102, 4, none⟩ = some (.int .i64 (wrap64 (a0 * a1))) := (Zb BK102.out 4).trans rfl; have hfz40_0 := Zc BK102.out 0; have hfz40_1 := Zc BK102.out 1; have hfz40_2 := Zc BK102.out 2; have hfz40_3 := Zc BK102.out 3; have hfz40_4 := Zc BK102.out 4))
        go_roundg k2
        case measure => have := HK1.out; have := HK2.out; omega
        case rel => exact ⟨(wrap64 (x33_2 + 1)), (y115), (.slice Ao39 y115.length co39), (by first | rfl | (simp; done) | (simp [*]; done)), H', ⟨by have := HK1.out; have := HK2.out; omega⟩, ⟨by (with_reducible repeat (first | apply Kd.R_alloc | apply Kd.R_drewN | apply Kd.R_drew)); exact Kd.R_mono (Kd.R_far (p := ⟨gb102, 1, none⟩) (Kd.R_types HO_103000.out BK102.out (by decide)) (fun _ hk => hk.2) (.slice Ao39 y115.length co39)) (fun _ hk => trivial)⟩, ⟨by (with_reducible repeat (first | apply Kd.S_alloc | apply Kd.S_drewN | apply Kd.S_drew)); exact Kd.S_mono (Kd.S_far (p := ⟨gb102, 1, none⟩) (Kd.S_types HO117.out BK102.out (by decide)) (fun _ hk => hk.2) (.slice Ao39 y115.length co39)) (fun _ hk => hk.1)⟩, ⟨by (with_reducible repeat (first | apply Kd.S_alloc | apply Kd.S_drewN | apply Kd.S_drew)); exact Kd.S_mono (Kd.S_far (p := ⟨gb102, 1, none⟩) (Kd.S_types HO_103002.out BK102.out (by decide)) (fun _ hk => hk.2) (.slice Ao39 y115.length co39)) (fun _ hk => hk.1)⟩, ⟨by (with_reducible repeat (first | refine Zh ?_ _ | refine Zi ?_ | refine Zg ?_ _)); refine Zs ?_ NB101_102.out _; (with_reducible repeat (first | refine Zh ?_ _ | refine Zi ?_ | refine Zg ?_ _)); exact BK101.out⟩, ⟨by (with_reducible repeat (first | refine Zh ?_ _ | refine Zi ?_ | refine Zg ?_ _)); refine Zu (cs := #[.slice Ao16 y103.length co16, u103001, .slice Ao31 y112.length co31, .int .i64 0, .int .i64 (wrap64 (a0 * a1))]) ?_ 1 _ rfl; (with_reducible repeat (first | refine Zh ?_ _ | refine Zi ?_ | refine Zg ?_ _)); exact BK102.out⟩, ⟨by repeat (first | (with_reducible first | exact HB.out | apply Ze | apply Za | apply Zd | refine Zf ?_ GE101.out | refine Zf ?_ GE102.out) | exact HB.out)⟩⟩
      ·rw [if_neg c33] at H
       have c33b0 : decide (x33_2 < a0) = false := decide_eq_false c33
       clear c33
       have H' := Aside0.mk H
       clear H
       go_wp2
       go_roundg k2
       case measure => have := HK1.out; have := HK2.out; omega
       case rel => exact ⟨(wrap64 (x13_1 + 1)), (y103), (x103001_2), (y112), (.slice Ao16 y103.length co16), (u103001), (.slice Ao31 y112.length co31), (by first | rfl | (simp; done) | (simp [*]; done)), H', ⟨by have := HK1.out; have := HK2.out; omega⟩, ⟨by (with_reducible repeat (first | apply Kd.R_alloc | apply Kd.R_drewN | apply Kd.R_drew)); exact HO_103000.out⟩, ⟨by (with_reducible repeat (first | apply Kd.S_alloc | apply Kd.S_drewN | apply Kd.S_drew)); exact HO_103001.out⟩, ⟨by (with_reducible repeat (first | apply Kd.S_alloc | apply Kd.S_drewN | apply Kd.S_drew)); exact HO_103002.out⟩, ⟨by (with_reducible repeat (first | refine Zh ?_ _ | refine Zi ?_ | refine Zg ?_ _)); exact BK101.out⟩, ⟨by (with_reducible repeat (first | refine Zh ?_ _ | refine Zi ?_ | refine Zg ?_ _)); exact BK102.out⟩, ⟨by repeat (first | (with_reducible first | exact HB.out | apply Ze | apply Za | apply Zd | refine Zf ?_ GE101.out | refine Zf ?_ GE102.out) | exact HB.out)⟩⟩
   ·rw [if_neg c7] at H
    have c7b0 : decide (x13_1 < a0) = false := decide_eq_false c7
    clear c7
    simp only [Option.some.injEq, Prod.mk.injEq] at H
    obtain ⟨rfl, rfl, rfl, rfl, rfl⟩ := H
    have hnb41 := NB102_101.out
    have hnc41 := NB101_102.out
    have hcz42_0 : wr.cell? ⟨gb102, 0, none⟩ = some (u103000) := (Zb BK102.out 0).trans rfl
    have hcz42_1 : wr.cell? ⟨gb102, 1, none⟩ = some (u103001) := (Zb BK102.out 1).trans rfl
    have hcz42_2 : wr.cell? ⟨gb102, 2, none⟩ = some (u103002) := (Zb BK102.out 2).trans rfl
    have hcz42_3 : wr.cell? ⟨gb102, 3, none⟩ = some (.int .i64 0) := (Zb BK102.out 3).trans rfl
    have hcz42_4 : wr.cell? ⟨gb102, 4, none⟩ = some (.int .i64 (wrap64 (a0 * a1))) := (Zb BK102.out 4).trans rfl
    have hfz42_0 := Zc BK102.out 0
    have hfz42_1 := Zc BK102.out 1
    have hfz42_2 := Zc BK102.out 2
    have hfz42_3 := Zc BK102.out 3
    have hfz42_4 := Zc BK102.out 4
    obtain ⟨Ao43, co43, eo43⟩ := Kd.R_slice HO_103000.out
    subst eo43
    have hcz44_0 : wr.cell? ⟨gb101, 0, none⟩ = some (.slice none 0 0) := (Zb BK101.out 0).trans rfl
    have hcz44_1 : wr.cell? ⟨gb101, 1, none⟩ = some (.slice none 0 0) := (Zb BK101.out 1).trans rfl
    have hcz44_2 : wr.cell? ⟨gb101, 2, none⟩ = some (.slice none 0 0) := (Zb BK101.out 2).trans rfl
    have hcz44_3 : wr.cell? ⟨gb101, 3, none⟩ = some (.int .i64 0) := (Zb BK101.out 3).trans rfl
    have hcz44_4 : wr.cell? ⟨gb101, 4, none⟩ = some (.int .i64 0) := (Zb BK101.out 4).trans rfl
    have hfz44_0 := Zc BK101.out 0
    have hfz44_1 := Zc BK101.out 1
    have hfz44_2 := Zc BK101.out 2
    have hfz44_3 := Zc BK101.out 3
    have hfz44_4 := Zc BK101.out 4
    obtain ⟨Ao45, co45, eo45⟩ := Kd.S_slice HO_103001.out
    subst eo45
    obtain ⟨Ao46, co46, eo46⟩ := Kd.S_slice HO_103002.out
    subst eo46
    go_wp2
    refine bodyPost_ret (results_cell_row rfl _ _ gb101 35 #[.slice Ao43 x103000_1.length co43, .slice Ao45 x103001_1.length co45, .slice Ao46 x103002_1.length co46, .int .i64 0, .int .i64 (wrap64 (a0 * a1))] (0, 0) _ rfl (by (with_reducible repeat (first | refine Zh ?_ _ | refine Zi ?_ | refine Zg ?_ _)); refine Zu (cs := #[.slice Ao43 x103000_1.length co43, .slice Ao45 x103001_1.length co45, .slice Ao46 x103002_1.length co46, .int .i64 0, .int .i64 0]) ?_ 4 _ rfl; (with_reducible repeat (first | refine Zh ?_ _ | refine Zi ?_ | refine Zg ?_ _)); refine Zu (cs := #[.slice Ao43 x103000_1.length co43, .slice Ao45 x103001_1.length co45, .slice Ao46 x103002_1.length co46, .int .i64 0, .int .i64 0]) ?_ 3 _ rfl; (with_reducible repeat (first | refine Zh ?_ _ | refine Zi ?_ | refine Zg ?_ _)); refine Zu (cs := #[.slice Ao43 x103000_1.length co43, .slice Ao45 x103001_1.length co45, .slice none 0 0, .int .i64 0, .int .i64 0]) ?_ 2 _ rfl; (with_reducible repeat (first | refine Zh ?_ _ | refine Zi ?_ | refine Zg ?_ _)); refine Zu (cs := #[.slice Ao43 x103000_1.length co43, .slice none 0 0, .slice none 0 0, .int .i64 0, .int .i64 0]) ?_ 1 _ rfl; (with_reducible repeat (first | refine Zh ?_ _ | refine Zi ?_ | refine Zg ?_ _)); refine Zu (cs := #[.slice none 0 0, .slice none 0 0, .slice none 0 0, .int .i64 0, .int .i64 0]) ?_ 0 _ rfl; (with_reducible repeat (first | refine Zh ?_ _ | refine Zi ?_ | refine Zg ?_ _)); exact BK101.out) Try.underlying35 rfl (by kernel_rfl)) rfl ?_
    exact ⟨_, _, _, by first | rfl | (simp [errW_none, errW_some] <;> rfl) | (simp [*, errW_none, errW_some] <;> rfl), by (with_reducible repeat (first | apply Kd.R_alloc | apply Kd.R_drewN | apply Kd.R_drew)); exact Kd.R_mono (Kd.R_far (p := ⟨gb101, 4, none⟩) (Kd.R_far (p := ⟨gb101, 3, none⟩) (Kd.R_far (p := ⟨gb101, 2, none⟩) (Kd.R_far (p := ⟨gb101, 1, none⟩) (Kd.R_far (p := ⟨gb101, 0, none⟩) (Kd.R_types HO_103000.out BK101.out (by decide)) (fun _ hk => hk.2) (.slice Ao43 x103000_1.length co43)) (fun _ hk => hk.2) (.slice Ao45 x103001_1.length co45)) (fun _ hk => hk.2) (.slice Ao46 x103002_1.length co46)) (fun _ hk => hk.2) (.int .i64 0)) (fun _ hk => hk.2) (.int .i64 (wrap64 (a0 * a1)))) (fun _ hk => trivial), by (with_reducible repeat (first | apply Kd.S_alloc | apply Kd.S_drewN | apply Kd.S_drew)); exact Kd.S_mono (Kd.S_far (p := ⟨gb101, 4, none⟩) (Kd.S_far (p := ⟨gb101, 3, none⟩) (Kd.S_far (p := ⟨gb101, 2, none⟩) (Kd.S_far (p := ⟨gb101, 1, none⟩) (Kd.S_far (p := ⟨gb101, 0, none⟩) (Kd.S_types HO_103001.out BK101.out (by decide)) (fun _ hk => hk.2) (.slice Ao43 x103000_1.length co43)) (fun _ hk => hk.2) (.slice Ao45 x103001_1.length co45)) (fun _ hk => hk.2) (.slice Ao46 x103002_1.length co46)) (fun _ hk => hk.2) (.int .i64 0)) (fun _ hk => hk.2) (.int .i64 (wrap64 (a0 * a1)))) (fun _ hk => hk.1), by (with_reducible repeat (first | apply Kd.S_alloc | apply Kd.S_drewN | apply Kd.S_drew)); exact Kd.S_mono (Kd.S_far (p := ⟨gb101, 4, none⟩) (Kd.S_far (p := ⟨gb101, 3, none⟩) (Kd.S_far (p := ⟨gb101, 2, none⟩) (Kd.S_far (p := ⟨gb101, 1, none⟩) (Kd.S_far (p := ⟨gb101, 0, none⟩) (Kd.S_types HO_103002.out BK101.out (by decide)) (fun _ hk => hk.2) (.slice Ao43 x103000_1.length co43)) (fun _ hk => hk.2) (.slice Ao45 x103001_1.length co45)) (fun _ hk => hk.2) (.slice Ao46 x103002_1.length co46)) (fun _ hk => hk.2) (.int .i64 0)) (fun _ hk => hk.2) (.int .i64 (wrap64 (a0 * a1)))) (fun _ hk => hk.1), by repeat (first | (with_reducible first | exact HB.out | apply Ze | apply Za | apply Zd | refine Zf ?_ GE101.out | refine Zf ?_ GE102.out) | exact HB.out)⟩
end Go.Proofs.Ytmkiffemanmgcaa.P
end
