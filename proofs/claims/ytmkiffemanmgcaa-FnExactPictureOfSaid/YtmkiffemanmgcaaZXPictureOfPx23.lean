-- Written by programs of this session (wip/prune.py, wip/xp.py), out of the translation and the printed words; what the law does not reach is left out. Not trusted: Lean checks it.
import Derived.Test.YtmkiffemanmgcaaZXPictureOfPx0
import Derived.Test.YtmkiffemanmgcaaZXPictureOfPx3
section
namespace Go.Proofs.Ytmkiffemanmgcaa.P
open Go.RowKit Go.Proofs.YtmkiffemanmgcaaW.PrintWords Go.Proofs.YtmkiffemanmgcaaW.PrintLast Go.Proofs.YtmkiffemanmgcaaW.PrintMore
attribute [local go_sem] max2_int min2_int max_two min_two max_three min_three max_four min_four   -- for this text's walks alone
set_option linter.unusedVariables false
set_option linter.unusedSimpArgs false
def Bm23 (n m : Nat) : Array Bool := ((List.range n).map (fun i => m.testBit i)).toArray
theorem Sa23 {α : Type} (l : List α) (i : Nat) (a : α) : l.toArray.setIfInBounds i a = (l.set i a).toArray := List.setIfInBounds_toArray l i a
theorem Sb23 {α : Type} (a b : α) (l : List α) : (a :: l).set 0 b = b :: l := rfl
theorem Sc23 {α : Type} (a b : α) (l : List α) (n : Nat) : (a :: l).set (n + 1) b = a :: l.set n b := rfl
mutual
def spec_l8Picture.j0 : Nat → Bool → Bool → Int → List Int → List Bool → Option (Bool)
 | 0, _, _, _, _, _ => none
 | k + 1, x62, x104000, x104001, x104002, x104003 => if x62 = true then (some false) else (spec_l8Picture.l0 k x104002 (x104002.length : Int) 0 x104000 x104001 x104002 x104003)
def spec_l8Picture.l0 : Nat → List Int → Int → Int → Bool → Int → List Int → List Bool → Option (Bool)
 | 0, _, _, _, _, _, _, _ => none
 | k + 1, x64, x65, x66, x104000, x104001, x104002, x104003 => if x66 < x65 then (if 0 ≤ x66 then (if x66 < (x64.length : Int) then ((spec_l1In.f (rd x64 x66) 0 1000000).bind fun t110 => (if t110 = true then (if x104000 = true then (spec_l8Picture.l0 k x64 x65 (wrap64 (x66 + 1)) x104000 x104001 x104002 x104003) else (if (rd x64 x66) = 0 then (if x66 < (x104003.length : Int) then (if rdOf false x104003 x66 = true then (some false) else (spec_l8Picture.l0 k x64 x65 (wrap64 (x66 + 1)) x104000 x104001 x104002 x104003)) else (none)) else (some false))) else (some false))) else (none)) else (none)) else (some true)
end
def spec_l8Picture.f (k : Nat) (l0_0 : List Int) (l0_1 : List (S94)) (l0_2 : List (S76)) (a0_3 : Int) (a0_4 : Int) (a1 : Int) : Option (Bool) := if 0 ≤ a1 then (if a1 < (l0_2.length : Int) then (if (((rd_T76 l0_2 a1).f2).length : Int) = (l0_0.length : Int) then (if (((rd_T76 l0_2 a1).f3).length : Int) = (l0_0.length : Int) then ((spec_l1In.f ((rd_T76 l0_2 a1).f1) 0 1000).bind fun t104 => (if t104 = true then (if ((rd_T76 l0_2 a1).f0 = true) then (if a1 < (((rd_T76 l0_2 a1).f2).length : Int) then (if (rd ((rd_T76 l0_2 a1).f2) a1) = 0 then (if a1 < (((rd_T76 l0_2 a1).f3).length : Int) then (spec_l8Picture.j0 k ((rdOf false ((rd_T76 l0_2 a1).f3) a1) != ((rd_T76 l0_2 a1).f0)) ((rd_T76 l0_2 a1).f0) ((rd_T76 l0_2 a1).f1) ((rd_T76 l0_2 a1).f2) ((rd_T76 l0_2 a1).f3)) else (none)) else (spec_l8Picture.j0 k true ((rd_T76 l0_2 a1).f0) ((rd_T76 l0_2 a1).f1) ((rd_T76 l0_2 a1).f2) ((rd_T76 l0_2 a1).f3))) else (none)) else (if ((rd_T76 l0_2 a1).f1) = 0 then (if a1 < (((rd_T76 l0_2 a1).f2).length : Int) then (if (rd ((rd_T76 l0_2 a1).f2) a1) = 0 then (if a1 < (((rd_T76 l0_2 a1).f3).length : Int) then (spec_l8Picture.j0 k ((rdOf false ((rd_T76 l0_2 a1).f3) a1) != ((rd_T76 l0_2 a1).f0)) ((rd_T76 l0_2 a1).f0) ((rd_T76 l0_2 a1).f1) ((rd_T76 l0_2 a1).f2) ((rd_T76 l0_2 a1).f3)) else (none)) else (spec_l8Picture.j0 k true ((rd_T76 l0_2 a1).f0) ((rd_T76 l0_2 a1).f1) ((rd_T76 l0_2 a1).f2) ((rd_T76 l0_2 a1).f3))) else (none)) else (spec_l8Picture.j0 k true ((rd_T76 l0_2 a1).f0) ((rd_T76 l0_2 a1).f1) ((rd_T76 l0_2 a1).f2) ((rd_T76 l0_2 a1).f3)))) else (spec_l8Picture.j0 k true ((rd_T76 l0_2 a1).f0) ((rd_T76 l0_2 a1).f1) ((rd_T76 l0_2 a1).f2) ((rd_T76 l0_2 a1).f3)))) else (spec_l8Picture.j0 k true ((rd_T76 l0_2 a1).f0) ((rd_T76 l0_2 a1).f1) ((rd_T76 l0_2 a1).f2) ((rd_T76 l0_2 a1).f3))) else (spec_l8Picture.j0 k true ((rd_T76 l0_2 a1).f0) ((rd_T76 l0_2 a1).f1) ((rd_T76 l0_2 a1).f2) ((rd_T76 l0_2 a1).f3))) else (none)) else (none)
def spec_l8Picture.T2 : Bool × List (List Nat × List Nat) := (true, [([], []), ([0], [0]), ([1], [1]), ([], []), ([3], [3]), ([4], [4]), ([2, 5], [2, 5]), ([6], [6]), ([7], [7]), ([8, 7], [7, 8]), ([9, 7], [7, 9]), ([7], [7]), ([11, 7], [7, 11]), ([12, 7], [7, 12]), ([10, 13, 7], [7, 10, 13]), ([7, 14], [7, 14]), ([15, 7], [15]), ([16], [16]), ([17, 16], [16, 17]), ([18, 16, 16], [16, 18]), ([19, 16], [16, 19]), ([16, 20], [16, 20]), ([21, 19], [21]), ([22], [22]), ([23, 22], [22, 23]), ([24, 22], [22, 24]), ([25, 22, 22], [22, 25]), ([26], [26]), ([27, 26], [26, 27]), ([28, 26], [26, 28]), ([26, 29, 22], [22, 26, 29]), ([22, 30], [22, 30]), ([31, 26], [31]), ([32], [32]), ([33, 32], [32, 33]), ([32], [32]), ([34, 35, 32], [32, 34, 35]), ([36, 32], [32, 36]), ([37, 32], [32, 37]), ([32, 38], [32, 38]), ([39, 32], [39]), ([40], [40]), ([41, 40], [40, 41]), ([40], [40]), ([42, 43, 40], [40, 42, 43]), ([44, 40], [40, 44]), ([40], [40]), ([46, 40], [40, 46]), ([45, 47, 40], [40, 45, 47]), ([40, 48], [40, 48])])
def spec_l8Picture.B2 : List Nat := [0, 1, 3, 0, 8, 24, 63, 127, 255, 511, 1023, 255, 2303, 6399, 16383, 32767, 65535, 131071, 262143, 524287, 1048575, 2097151, 4194303, 8388607, 16777215, 33554431, 67108863, 134217727, 268435455, 536870911, 1073741823, 2147483647, 4294967295, 8589934591, 17179869183, 8589934591, 68719476735, 137438953471, 274877906943, 549755813887, 1099511627775, 2199023255551, 4398046511103, 2199023255551, 17592186044415, 35184372088831, 2199023255551, 72567767433215, 281474976710655, 562949953421311]
theorem spec_l8Picture.tab2 : rtab .any (opsOf Try.f70 2) = spec_l8Picture.T2 := by kernel_rfl
theorem spec_l8Picture.bits2 : waitsOk spec_l8Picture.T2.2 spec_l8Picture.B2 = true := by kernel_rfl
set_option maxHeartbeats 8000000 in
set_option maxRecDepth 100000 in
theorem spec_l8Picture.calls (k : Nat) (A0_0 : Option Addr) (c0_0 : Nat) (l0_0 : List Int) (A0_1 : Option Addr) (c0_1 : Nat) (l0_1 : List (S94)) (A0_2 : Option Addr) (c0_2 : Nat) (l0_2 : List (S76)) (a0_3 : Int) (a0_4 : Int) (a1 : Int) (r : Bool) (w : World) (hr0_0 : Kd.C (Kd.int .i64) w A0_0 l0_0.length l0_0) (hc0_0 : l0_0.length ≤ c0_0) (hr0_1 : Kd.C k94 w A0_1 l0_1.length l0_1) (hc0_1 : l0_1.length ≤ c0_1) (hr0_2 : Kd.C k76 w A0_2 l0_2.length l0_2) (hc0_2 : l0_2.length ≤ c0_2) (h : spec_l8Picture.f k l0_0 l0_1 l0_2 a0_3 a0_4 a1 = some r) :
  Calls Try.prog 70 #[.agg #[.slice A0_0 l0_0.length c0_0, .slice A0_1 l0_1.length c0_1, .slice A0_2 l0_2.length c0_2, .int .i64 a0_3, .int .i64 a0_4], .int .i64 a1] w fun e w' => e = .returned (.bool r) ∧ Below w.heap.size w w' := by
 have hu35 := Try.underlying35; have hu76 := Try.underlying76; have hu31 := Try.underlying31; have HR0_0 := Aside0.mk hr0_0; have HC0_0 := Aside0.mk hc0_0; clear hr0_0 hc0_0; have HR0_1 := Aside0.mk hr0_1; have HC0_1 := Aside0.mk hc0_1; clear hr0_1 hc0_1; have HR0_2 := Aside0.mk hr0_2; have HC0_2 := Aside0.mk hc0_2; clear hr0_2 hc0_2; have HB := Aside0.mk (Below.refl w.heap.size w); have H : (if 0 ≤ a1 then (if a1 < (l0_2.length : Int) then (if (((rd_T76 l0_2 a1).f2).length : Int) = (l0_0.length : Int) then (if (((rd_T76 l0_2 a1).f3).length : Int) = (l0_0.length : Int) then ((spec_l1In.f ((rd_T76 l0_2 a1).f1) 0 1000).bind fun t104 => (if t104 = true then (if ((rd_T76 l0_2 a1).f0 = true) then (if a1 < (((rd_T76 l0_2 a1).f2).length : Int) then (if (rd ((rd_T76 l0_2 a1).f2) a1) = 0 then (if a1 < (((rd_T76 l0_2 a1).f3).length : Int) then (spec_l8Picture.j0 k ((rdOf false ((rd_T76 l0_2 a1).f3) a1) != ((rd_T76 l0_2 a1).f0)) ((rd_T76 l0_2 a1).f0) ((rd_T76 l0_2 a1).f1) ((rd_T76 l0_2 a1).f2) ((rd_T76 l0_2 a1).f3)) else (none)) else (spec_l8Picture.j0 k true ((rd_T76 l0_2 a1).f0) ((rd_T76 l0_2 a1).f1) ((rd_T76 l0_2 a1).f2) ((rd_T76 l0_2 a1).f3))) else (none)) else (if ((rd_T76 l0_2 a1).f1) = 0 then (if a1 < (((rd_T76 l0_2 a1).f2).length : Int) then (if (rd ((rd_T76 l0_2 a1).f2) a1) = 0 then (if a1 < (((rd_T76 l0_2 a1).f3).length : Int) then (spec_l8Picture.j0 k ((rdOf false ((rd_T76 l0_2 a1).f3) a1) != ((rd_T76 l0_2 a1).f0)) ((rd_T76 l0_2 a1).f0) ((rd_T76 l0_2 a1).f1) ((rd_T76 l0_2 a1).f2) ((rd_T76 l0_2 a1).f3)) else (none)) else (spec_l8Picture.j0 k true ((rd_T76 l0_2 a1).f0) ((rd_T76 l0_2 a1).f1) ((rd_T76 l0_2 a1).f2) ((rd_T76 l0_2 a1).f3))) else (none)) else (spec_l8Picture.j0 k true ((rd_T76 l0_2 a1).f0) ((rd_T76 l0_2 a1).f1) ((rd_T76 l0_2 a1).f2) ((rd_T76 l0_2 a1).f3)))) else (spec_l8Picture.j0 k true ((rd_T76 l0_2 a1).f0) ((rd_T76 l0_2 a1).f1) ((rd_T76 l0_2 a1).f2) ((rd_T76 l0_2 a1).f3)))) else (spec_l8Picture.j0 k true ((rd_T76 l0_2 a1).f0) ((rd_T76 l0_2 a1).f1) ((rd_T76 l0_2 a1).f2) ((rd_T76 l0_2 a1).f3))) else (spec_l8Picture.j0 k true ((rd_T76 l0_2 a1).f0) ((rd_T76 l0_2 a1).f1) ((rd_T76 l0_2 a1).f2) ((rd_T76 l0_2 a1).f3))) else (none)) else (none)) = some r := h; clear h; by_cases c3 : 0 ≤ a1
 case neg => rw [if_neg c3] at H; exact absurd H (by simp)
 rw [if_pos c3] at H; have c3b0 : decide (0 ≤ a1) = true := decide_eq_true c3; clear c3; by_cases c4 : a1 < (l0_2.length : Int)
 case neg => rw [if_neg c4] at H; exact absurd H (by simp)
 rw [if_pos c4] at H; have c4b0 : decide (a1 < (l0_2.length : Int)) = true := decide_eq_true c4; clear c4; have HC5 := Aside0.mk H; clear H; go_enter Try.func70, Try.ntmps70
 go_upto_region 2 with (first | ((with_reducible refine Zv (N := 2) rfl ?_); (try (refine gate_guard (by rfl) ?_; dsimp only)); refine Zu ?hg (N := 2) ?hd (cs := #[.slice A0_0 l0_0.length c0_0, .slice A0_1 l0_1.length c0_1, .slice A0_2 l0_2.length c0_2, .int .i64 a0_3, .int .i64 a0_4]) (t := 35) ?hr ?_; (case hd => rfl); (case hg => rfl); (case hr => first | (go_simp; done) | (go_simp; rfl)); intro gb101 hg w6 hbox hb; have n0_ := Aside0.mk (Zo (by repeat (first | (with_reducible first | exact HB.out | apply Ze | apply Za | apply Zd) | exact HB.out)) hb); have n1_ := Aside0.mk (hbox); have n2_ := Aside0.mk ((by rw [hg]; exact (Zn (by repeat (first | (with_reducible first | exact HB.out | apply Ze | apply Za | apply Zd) | exact HB.out))) : w.heap.size ≤ gb101)); have n3_ := n2_; clear HB; have HB := n0_; have BK101 := n1_; have GW101 := n2_; have GE101 := n3_; clear n0_ n1_ n2_ n3_; clear hb hbox hg; have hcz7_0 : w6.cell? ⟨gb101, 0, none⟩ = some (.slice A0_0 l0_0.length c0_0) := (Zb BK101.out 0).trans rfl; have hcz7_1 : w6.cell? ⟨gb101, 1, none⟩ = some (.slice A0_1 l0_1.length c0_1) := (Zb BK101.out 1).trans rfl; have hcz7_2 : w6.cell? ⟨gb101, 2, none⟩ = some (.slice A0_2 l0_2.length c0_2) := (Zb BK101.out 2).trans rfl; have hcz7_3 : w6.cell? ⟨gb101, 3, none⟩ = some (.int .i64 a0_3) := (Zb BK101.out 3).trans rfl; have hcz7_4 : w6.cell? ⟨gb101, 4, none⟩ = some (.int .i64 a0_4) := (Zb BK101.out 4).trans rfl; have hfz7_0 := Zc BK101.out 0; have hfz7_1 := Zc BK101.out 1; have hfz7_2 := Zc BK101.out 2; have hfz7_3 := Zc BK101.out 3; have hfz7_4 := Zc BK101.out 4; have p102 : 0 ≤ (a1 : Int) := of_decide_eq_true (by assumption); have q102 : a1 < (l0_2.length : Int) := of_decide_eq_true (by assumption); obtain ⟨ad102, A102_2, c102_2, A102_3, c102_3, e102, hx102_0, hx102_1, hx102_2, hx102_3, hl102_2, hi102_2, hl102_3, hi102_3⟩ := at_T76 HR0_2.out a1 p102 q102; cases e102; replace hx102_0 := (HB.out.cell (World.block_lt_of_cell? w _ hx102_0)).trans hx102_0; replace hx102_1 := (HB.out.cell (World.block_lt_of_cell? w _ hx102_1)).trans hx102_1; replace hx102_2 := (HB.out.cell (World.block_lt_of_cell? w _ hx102_2)).trans hx102_2; replace hx102_3 := (HB.out.cell (World.block_lt_of_cell? w _ hx102_3)).trans hx102_3; have HR102_2 := Aside0.mk hi102_2; have HC102_2 := Aside0.mk hl102_2; clear hi102_2 hl102_2; have HR102_3 := Aside0.mk hi102_3; have HC102_3 := Aside0.mk hl102_3; clear hi102_3 hl102_3; replace p102 := eq_true p102; replace q102 := eq_true q102) | ((with_reducible refine Zv (N := 5) rfl ?_); (try (refine gate_guard (by rfl) ?_; dsimp only)); refine Zu ?hg (N := 5) ?hd (cs := #[.bool false, .int .i64 0, .slice none 0 0, .slice none 0 0]) (t := 76) ?hr ?_; (case hd => rfl); (case hg => rfl); (case hr => first | (go_simp; done) | (go_simp; rfl)); intro gb103 hg w8 hbox hb; have n0_ := Aside0.mk (Zq (g := gb101) (o := .cells #[.slice A0_0 l0_0.length c0_0, .slice A0_1 l0_1.length c0_1, .slice (some ad102) l0_2.length c0_2, .int .i64 a0_3, .int .i64 a0_4] 35 (0, 0)) (by (with_reducible repeat (first | refine Zh ?_ _ | refine Zi ?_ | refine Zf ?_ _)); exact BK101.out) hb); have n1_ := Aside0.mk (Zo (by repeat (first | (with_reducible first | exact HB.out | apply Ze | apply Za | apply Zd | refine Zg ?_ GE101.out) | exact HB.out)) hb); have n2_ := Aside0.mk (hbox); have n3_ := Aside0.mk ((by rw [hg]; exact (Zn (by repeat (first | (with_reducible first | exact HB.out | apply Ze | apply Za | apply Zd | refine Zg ?_ GE101.out) | exact HB.out))) : w.heap.size ≤ gb103)); have n4_ := n3_; have n5_ := Aside0.mk ((by rw [hg]; exact Nat.ne_of_lt (Zx (g := gb101) (o := .cells #[.slice A0_0 l0_0.length c0_0, .slice A0_1 l0_1.length c0_1, .slice (some ad102) l0_2.length c0_2, .int .i64 a0_3, .int .i64 a0_4] 35 (0, 0)) (by (with_reducible repeat (first | refine Zh ?_ _ | refine Zi ?_ | refine Zf ?_ _)); exact BK101.out)) : gb101 ≠ gb103)); have n6_ := Aside0.mk n5_.out.symm; clear BK101; clear HB; have BK101 := n0_; have HB := n1_; have BK103 := n2_; have GW103 := n3_; have GE103 := n4_; have NB101_103 := n5_; have NB103_101 := n6_; clear n0_ n1_ n2_ n3_ n4_ n5_ n6_; clear hb hbox hg; have hnb9 := NB103_101.out; have hnc9 := NB101_103.out; have hcz10_0 : w8.cell? ⟨gb103, 0, none⟩ = some (.bool false) := (Zb BK103.out 0).trans rfl; have hcz10_1 : w8.cell? ⟨gb103, 1, none⟩ = some (.int .i64 0) := (Zb BK103.out 1).trans rfl; have hcz10_2 : w8.cell? ⟨gb103, 2, none⟩ = some (.slice none 0 0) := (Zb BK103.out 2).trans rfl; have hcz10_3 : w8.cell? ⟨gb103, 3, none⟩ = some (.slice none 0 0) := (Zb BK103.out 3).trans rfl; have hfz10_0 := Zc BK103.out 0; have hfz10_1 := Zc BK103.out 1; have hfz10_2 := Zc BK103.out 2; have hfz10_3 := Zc BK103.out 3))
 (try simp only [Act.put, Sa23, Sb23, Sc23])
 go_cut [62] (fun v62 wc => ∃ (kq : Nat) (x62_4 : Bool), v62 = .bool x62_4 ∧ Aside0 (spec_l8Picture.j0 kq x62_4 ((rd_T76 l0_2 a1).f0) ((rd_T76 l0_2 a1).f1) ((rd_T76 l0_2 a1).f2) ((rd_T76 l0_2 a1).f3) = some r) ∧ Aside0 (kq ≤ k) ∧ Aside0 (wc.heap[gb101]? = some (.cells #[(.slice A0_0 l0_0.length c0_0), (.slice A0_1 l0_1.length c0_1), (.slice (some ad102) l0_2.length c0_2), .int .i64 a0_3, .int .i64 a0_4] 35 (0, 0))) ∧ Aside0 (wc.heap[gb103]? = some (.cells #[.bool ((rd_T76 l0_2 a1).f0), .int .i64 ((rd_T76 l0_2 a1).f1), (.slice A102_2 ((rd_T76 l0_2 a1).f2).length c102_2), (.slice A102_3 ((rd_T76 l0_2 a1).f3).length c102_3)] 76 (0, 0))) ∧ Aside0 (Below w.heap.size w wc))
 case first =>
  have H := HC5.out; clear HC5; by_cases c11 : (((rd_T76 l0_2 a1).f2).length : Int) = (l0_0.length : Int)
  ·rw [if_pos c11] at H; have c11b0 : ((((rd_T76 l0_2 a1).f2).length : Int) == (l0_0.length : Int)) = true := beq_iff_eq.mpr c11; have c11b1 : ((((rd_T76 l0_2 a1).f2).length : Int) != (l0_0.length : Int)) = false := bne_eq_false_iff_eq.mpr c11; have c11b2 : (((rd_T76 l0_2 a1).f2).length == l0_0.length) = true := by first | simpa using c11 | (simp at c11 ⊢; omega)
   clear c11
   (first | rw [c11b0] | (simp only [Zk, Zl]; rw [c11b0]) | skip)
   by_cases c12 : (((rd_T76 l0_2 a1).f3).length : Int) = (l0_0.length : Int)
   ·rw [if_pos c12] at H; have c12b0 : ((((rd_T76 l0_2 a1).f3).length : Int) == (l0_0.length : Int)) = true := beq_iff_eq.mpr c12; have c12b1 : ((((rd_T76 l0_2 a1).f3).length : Int) != (l0_0.length : Int)) = false := bne_eq_false_iff_eq.mpr c12; have c12b2 : (((rd_T76 l0_2 a1).f3).length == l0_0.length) = true := by first | simpa using c12 | (simp at c12 ⊢; omega)
    clear c12; replace H := Option.bind_eq_some_iff.mp H; obtain ⟨t104, A130, H⟩ := H; have A13 := Aside0.mk A130; clear A130; by_cases c14 : t104 = true
    ·subst c14; rw [if_pos rfl] at H; obtain ⟨bq15, hbq15⟩ : ∃ b_ : Bool, b_ = ((rd_T76 l0_2 a1).f0) := ⟨_, rfl⟩
     replace H : (if (bq15 = true) then (if a1 < (((rd_T76 l0_2 a1).f2).length : Int) then (if (rd ((rd_T76 l0_2 a1).f2) a1) = 0 then (if a1 < (((rd_T76 l0_2 a1).f3).length : Int) then (spec_l8Picture.j0 k ((rdOf false ((rd_T76 l0_2 a1).f3) a1) != (bq15)) bq15 ((rd_T76 l0_2 a1).f1) ((rd_T76 l0_2 a1).f2) ((rd_T76 l0_2 a1).f3)) else (none)) else (spec_l8Picture.j0 k true bq15 ((rd_T76 l0_2 a1).f1) ((rd_T76 l0_2 a1).f2) ((rd_T76 l0_2 a1).f3))) else (none)) else (if ((rd_T76 l0_2 a1).f1) = 0 then (if a1 < (((rd_T76 l0_2 a1).f2).length : Int) then (if (rd ((rd_T76 l0_2 a1).f2) a1) = 0 then (if a1 < (((rd_T76 l0_2 a1).f3).length : Int) then (spec_l8Picture.j0 k ((rdOf false ((rd_T76 l0_2 a1).f3) a1) != (bq15)) bq15 ((rd_T76 l0_2 a1).f1) ((rd_T76 l0_2 a1).f2) ((rd_T76 l0_2 a1).f3)) else (none)) else (spec_l8Picture.j0 k true bq15 ((rd_T76 l0_2 a1).f1) ((rd_T76 l0_2 a1).f2) ((rd_T76 l0_2 a1).f3))) else (none)) else (spec_l8Picture.j0 k true bq15 ((rd_T76 l0_2 a1).f1) ((rd_T76 l0_2 a1).f2) ((rd_T76 l0_2 a1).f3)))) = some r := by rw [← hbq15] at H; exact H
     have Nbq15 := Aside0.mk hbq15; clear hbq15; by_cases c16 : (bq15 = true)
     ·subst c16; rw [if_pos rfl] at H; by_cases c17 : a1 < (((rd_T76 l0_2 a1).f2).length : Int)
      case neg => rw [if_neg c17] at H; exact absurd H (by simp)
      rw [if_pos c17] at H; have c17b0 : decide (a1 < (((rd_T76 l0_2 a1).f2).length : Int)) = true := decide_eq_true c17; clear c17; by_cases c18 : (rd ((rd_T76 l0_2 a1).f2) a1) = 0
      ·rw [if_pos c18] at H; have c18b0 : ((rd ((rd_T76 l0_2 a1).f2) a1) == 0) = true := beq_iff_eq.mpr c18; have c18b1 : ((rd ((rd_T76 l0_2 a1).f2) a1) != 0) = false := bne_eq_false_iff_eq.mpr c18; clear c18; by_cases c19 : a1 < (((rd_T76 l0_2 a1).f3).length : Int)
       case neg => rw [if_neg c19] at H; exact absurd H (by simp)
       rw [if_pos c19] at H; have c19b0 : decide (a1 < (((rd_T76 l0_2 a1).f3).length : Int)) = true := decide_eq_true c19; clear c19; have H' := Aside0.mk H; clear H; try go_wp2
       (try rw [← Nbq15.out])
       have n0_ : Aside0 (((((w8.setCell ⟨gb103, 0, none⟩ (.bool (true))).setCell ⟨gb103, 1, none⟩ (.int .i64 ((rd_T76 l0_2 a1).f1))).setCell ⟨gb103, 2, none⟩ (.slice A102_2 ((rd_T76 l0_2 a1).f2).length c102_2)).setCell ⟨gb103, 3, none⟩ (.slice A102_3 ((rd_T76 l0_2 a1).f3).length c102_3)).heap[gb101]? = some (.cells #[.slice A0_0 l0_0.length c0_0, .slice A0_1 l0_1.length c0_1, .slice (some ad102) l0_2.length c0_2, .int .i64 a0_3, .int .i64 a0_4] 35 (0, 0))) := ⟨by (with_reducible repeat (first | refine Zh ?_ _ | refine Zi ?_ | refine Zf ?_ _)); refine Zs ?_ NB101_103.out _; (with_reducible repeat (first | refine Zh ?_ _ | refine Zi ?_ | refine Zf ?_ _)); refine Zs ?_ NB101_103.out _; (with_reducible repeat (first | refine Zh ?_ _ | refine Zi ?_ | refine Zf ?_ _)); refine Zs ?_ NB101_103.out _; (with_reducible repeat (first | refine Zh ?_ _ | refine Zi ?_ | refine Zf ?_ _)); refine Zs ?_ NB101_103.out _; (with_reducible repeat (first | refine Zh ?_ _ | refine Zi ?_ | refine Zf ?_ _)); exact BK101.out⟩
       have n1_ : Aside0 (((((w8.setCell ⟨gb103, 0, none⟩ (.bool (true))).setCell ⟨gb103, 1, none⟩ (.int .i64 ((rd_T76 l0_2 a1).f1))).setCell ⟨gb103, 2, none⟩ (.slice A102_2 ((rd_T76 l0_2 a1).f2).length c102_2)).setCell ⟨gb103, 3, none⟩ (.slice A102_3 ((rd_T76 l0_2 a1).f3).length c102_3)).heap[gb103]? = some (.cells #[.bool true, .int .i64 ((rd_T76 l0_2 a1).f1), .slice A102_2 ((rd_T76 l0_2 a1).f2).length c102_2, .slice A102_3 ((rd_T76 l0_2 a1).f3).length c102_3] 76 (0, 0))) := ⟨by (with_reducible repeat (first | refine Zh ?_ _ | refine Zi ?_ | refine Zf ?_ _)); refine Zt (cs := #[.bool (true), .int .i64 ((rd_T76 l0_2 a1).f1), .slice A102_2 ((rd_T76 l0_2 a1).f2).length c102_2, .slice none 0 0]) ?_ 3 _ rfl; (with_reducible repeat (first | refine Zh ?_ _ | refine Zi ?_ | refine Zf ?_ _)); refine Zt (cs := #[.bool (true), .int .i64 ((rd_T76 l0_2 a1).f1), .slice none 0 0, .slice none 0 0]) ?_ 2 _ rfl; (with_reducible repeat (first | refine Zh ?_ _ | refine Zi ?_ | refine Zf ?_ _)); refine Zt (cs := #[.bool (true), .int .i64 0, .slice none 0 0, .slice none 0 0]) ?_ 1 _ rfl; (with_reducible repeat (first | refine Zh ?_ _ | refine Zi ?_ | refine Zf ?_ _)); refine Zt (cs := #[.bool false, .int .i64 0, .slice none 0 0, .slice none 0 0]) ?_ 0 _ rfl; (with_reducible repeat (first | refine Zh ?_ _ | refine Zi ?_ | refine Zf ?_ _)); exact BK103.out⟩
       have n2_ : Aside0 (Below w.heap.size w ((((w8.setCell ⟨gb103, 0, none⟩ (.bool (true))).setCell ⟨gb103, 1, none⟩ (.int .i64 ((rd_T76 l0_2 a1).f1))).setCell ⟨gb103, 2, none⟩ (.slice A102_2 ((rd_T76 l0_2 a1).f2).length c102_2)).setCell ⟨gb103, 3, none⟩ (.slice A102_3 ((rd_T76 l0_2 a1).f3).length c102_3))) := ⟨by repeat (first | (with_reducible first | exact HB.out | apply Ze | apply Za | apply Zd | refine Zg ?_ GE101.out | refine Zg ?_ GE103.out) | exact HB.out)⟩
       (try clear BK101)
       (try clear BK103)
       (try clear HB)
       generalize ((((w8.setCell ⟨gb103, 0, none⟩ (.bool (true))).setCell ⟨gb103, 1, none⟩ (.int .i64 ((rd_T76 l0_2 a1).f1))).setCell ⟨gb103, 2, none⟩ (.slice A102_2 ((rd_T76 l0_2 a1).f2).length c102_2)).setCell ⟨gb103, 3, none⟩ (.slice A102_3 ((rd_T76 l0_2 a1).f3).length c102_3)) = w20 at n0_ n1_ n2_ ⊢; have BK101 := n0_; have BK103 := n1_; have HB := n2_; clear n0_ n1_ n2_; have n0_ := Aside0.mk (Zi BK101.out); have n1_ := Aside0.mk (Zi BK103.out); have n2_ := Aside0.mk (Zd HB.out); clear BK101; clear BK103; clear HB; have BK101 := n0_; have BK103 := n1_; have HB := n2_; clear n0_ n1_ n2_; have p105 : 0 ≤ (a1 : Int) := of_decide_eq_true (by assumption); have q105 : a1 < (((rd_T76 l0_2 a1).f2).length : Int) := of_decide_eq_true (by assumption); obtain ⟨ad105, e105, hx105_0⟩ := Kd.at_int HR102_2.out a1 p105 q105; have hw105_0 := hx105_0; cases e105; replace hx105_0 := (HB.out.cell (World.block_lt_of_cell? w _ hx105_0)).trans hx105_0; replace p105 := eq_true p105; replace q105 := eq_true q105; have p106 : 0 ≤ (a1 : Int) := of_decide_eq_true (by assumption); have q106 : a1 < (((rd_T76 l0_2 a1).f3).length : Int) := of_decide_eq_true (by assumption); obtain ⟨ad106, e106, hx106_0⟩ := Kd.at_bool HR102_3.out a1 p106 q106; have hw106_0 := hx106_0
       (try rw [← Nbq15.out] at hx106_0)
       cases e106; replace hx106_0 := (HB.out.cell (World.block_lt_of_cell? w _ hx106_0)).trans hx106_0; replace p106 := eq_true p106; replace q106 := eq_true q106; refine start_ (n := 50) (S := fun w' => w'.cell? ⟨gb103, 0, none⟩ = some (.bool true) ∧ w'.cell? ⟨gb103, 1, none⟩ = some (.int .i64 ((rd_T76 l0_2 a1).f1)) ∧ w'.cell? ⟨gb103, 2, none⟩ = some (.slice (some ad105) ((rd_T76 l0_2 a1).f2).length c102_2) ∧ w'.cell? ⟨gb103, 3, none⟩ = some (.slice (some ad106) ((rd_T76 l0_2 a1).f3).length c102_3) ∧ w'.cell? ⟨gb101, 0, none⟩ = some (.slice A0_0 l0_0.length c0_0) ∧ w'.cell? ⟨gb101, 1, none⟩ = some (.slice A0_1 l0_1.length c0_1) ∧ w'.cell? ⟨gb101, 2, none⟩ = some (.slice (some ad102) l0_2.length c0_2) ∧ w'.cell? ⟨gb101, 3, none⟩ = some (.int .i64 a0_3) ∧ w'.cell? ⟨gb101, 4, none⟩ = some (.int .i64 a0_4) ∧ w'.cell? (ad105.add (a1).toNat) = some (.int .i64 (rd ((rd_T76 l0_2 a1).f2) a1)) ∧ w'.cell? (ad106.add (a1).toNat) = some (.bool (rdOf false ((rd_T76 l0_2 a1).f3) a1))) (ds := []) #[false, false, false, false, false, false, false, false, false, false, false, false, false, false, false, false, false, false, false, false, false, false, false, false, false, false, false, false, false, false, false, false, false, false, false, false, false, false, false, false, false, false, false, false, false, false, false, false, false, false] (by kernel_rfl) rfl rfl ⟨(Zb BK103.out 0).trans rfl, (Zb BK103.out 1).trans rfl, (Zb BK103.out 2).trans rfl, (Zb BK103.out 3).trans rfl, (Zb BK101.out 0).trans rfl, (Zb BK101.out 1).trans rfl, (Zb BK101.out 2).trans rfl, (Zb BK101.out 3).trans rfl, (Zb BK101.out 4).trans rfl, ((HB.out.cell (World.block_lt_of_cell? w _ hw105_0)).trans hw105_0), ((HB.out.cell (World.block_lt_of_cell? w _ hw106_0)).trans hw106_0)⟩ (fun hHeld => ?_); refine with_tabW spec_l8Picture.tab2 spec_l8Picture.bits2 (fun HT_ HW_ => ?_)
       generalize w20.drew = w21 at BK101 BK103 HB hx105_0 hx106_0 hHeld ⊢; refine Zm (i := 0) (N := some 13) (v := ?_) (a' := ?_) (Bm23 50 1) rfl rfl (Zj HT_.out (by kernel_rfl)) (fun _ _ _ h => h) (Or.inl ⟨by rfl, ?_⟩) ?_ ?_; rotate_left
       ·intro w'; go_simp; with_reducible rfl
       rotate_left
       ·simp only [Act.put, Sa23, Sb23, Sc23, Zk, Zl]; rfl
       refine Zm (i := 3) (N := some 16) (v := ?_) (a' := ?_) (Bm23 50 9) rfl rfl (Zj HT_.out (by kernel_rfl)) (fun _ _ _ h => h) (Or.inl ⟨by rfl, ?_⟩) ?_ ?_; rotate_left
       ·intro w'; go_simp; with_reducible rfl
       rotate_left
       ·simp only [Act.put, Sa23, Sb23, Sc23, Zk, Zl]; rfl
       refine take_ (i := 1) (N := some 14) (v := ?_) (a' := ?_) (Bm23 50 11) rfl rfl (Zr HT_.out HW_.out (by kernel_rfl)) (fun _ _ _ h => h) (Or.inl ⟨by rfl, ?_⟩) hHeld ?_ ?_; rotate_left
       ·rintro w' ⟨s0, s1, s2, s3, s4, s5, s6, s7, s8, s9, s10⟩
        go_simp; with_reducible rfl
       rotate_left
       ·simp only [Act.put, Sa23, Sb23, Sc23, Zk, Zl]; rfl
       refine Zm (i := 2) (N := some 15) (v := ?_) (a' := ?_) (Bm23 50 15) rfl rfl (Zj HT_.out (by kernel_rfl)) (fun _ _ _ h => h) (Or.inl ⟨by rfl, ?_⟩) ?_ ?_; rotate_left
       ·intro w'; go_simp; with_reducible rfl
       rotate_left
       ·simp only [Act.put, Sa23, Sb23, Sc23, Zk, Zl]; rfl
       refine take_ (i := 4) (N := some 17) (v := ?_) (a' := ?_) (Bm23 50 31) rfl rfl (Zr HT_.out HW_.out (by kernel_rfl)) (fun _ _ _ h => h) (Or.inl ⟨by rfl, ?_⟩) hHeld ?_ ?_; rotate_left
       ·rintro w' ⟨s0, s1, s2, s3, s4, s5, s6, s7, s8, s9, s10⟩
        go_simp; with_reducible rfl
       rotate_left
       ·simp only [Act.put, Sa23, Sb23, Sc23, Zk, Zl]; rfl
       refine Zm (i := 5) (N := some 18) (v := ?_) (a' := ?_) (Bm23 50 63) rfl rfl (Zj HT_.out (by kernel_rfl)) (fun _ _ _ h => h) (Or.inl ⟨by rfl, ?_⟩) ?_ ?_; rotate_left
       ·intro w'; go_simp; with_reducible rfl
       rotate_left
       ·simp only [Act.put, Sa23, Sb23, Sc23, Zk, Zl]; rfl
       refine Zm (i := 6) (N := some 19) (v := ?_) (a' := ?_) (Bm23 50 127) rfl rfl (Zj HT_.out (by kernel_rfl)) (fun _ _ _ h => h) (Or.inl ⟨by rfl, ?_⟩) ?_ ?_; rotate_left
       ·intro w'; go_simp; with_reducible rfl
       rotate_left
       ·simp only [Act.put, Sa23, Sb23, Sc23, Zk, Zl]; rfl
       refine Zm (i := 7) (N := some 20) (v := ?_) (a' := ?_) (Bm23 50 255) rfl rfl (Zj HT_.out (by kernel_rfl)) (fun _ _ _ h => h) (Or.inl ⟨by rfl, ?_⟩) ?_ ?_; rotate_left
       ·intro w'; go_simp; with_reducible rfl
       rotate_left
       ·simp only [Act.put, Sa23, Sb23, Sc23, Zk, Zl]; rfl
       refine Zm (i := 8) (N := some 21) (v := ?_) (a' := ?_) (Bm23 50 511) rfl rfl (Zj HT_.out (by kernel_rfl)) (fun _ _ _ h => h) (Or.inl ⟨by rfl, ?_⟩) ?_ ?_; rotate_left
       ·intro w'; go_simp; with_reducible rfl
       rotate_left
       ·simp only [Act.put, Sa23, Sb23, Sc23, Zk, Zl]; rfl
       refine Zm (i := 11) (N := some 24) (v := ?_) (a' := ?_) (Bm23 50 2559) rfl rfl (Zj HT_.out (by kernel_rfl)) (fun _ _ _ h => h) (Or.inl ⟨by rfl, ?_⟩) ?_ ?_; rotate_left
       ·intro w'; go_simp; with_reducible rfl
       rotate_left
       ·simp only [Act.put, Sa23, Sb23, Sc23, Zk, Zl]; rfl
       refine take_ (i := 9) (N := some 22) (v := ?_) (a' := ?_) (Bm23 50 3071) rfl rfl (Zr HT_.out HW_.out (by kernel_rfl)) (fun _ _ _ h => h) (Or.inl ⟨by rfl, ?_⟩) hHeld ?_ ?_; rotate_left
       ·rintro w' ⟨s0, s1, s2, s3, s4, s5, s6, s7, s8, s9, s10⟩
        go_simp; with_reducible rfl
       rotate_left
       ·simp only [Act.put, Sa23, Sb23, Sc23, Zk, Zl]; rfl
       refine Zm (i := 10) (N := some 23) (v := ?_) (a' := ?_) (Bm23 50 4095) rfl rfl (Zj HT_.out (by kernel_rfl)) (fun _ _ _ h => h) (Or.inl ⟨by rfl, ?_⟩) ?_ ?_; rotate_left
       ·intro w'; go_simp; with_reducible rfl
       rotate_left
       ·simp only [Act.put, Sa23, Sb23, Sc23, Zk, Zl]; rfl
       refine take_ (i := 12) (N := some 25) (v := ?_) (a' := ?_) (Bm23 50 8191) rfl rfl (Zr HT_.out HW_.out (by kernel_rfl)) (fun _ _ _ h => h) (Or.inl ⟨by rfl, ?_⟩) hHeld ?_ ?_; rotate_left
       ·rintro w' ⟨s0, s1, s2, s3, s4, s5, s6, s7, s8, s9, s10⟩
        go_simp; with_reducible rfl
       rotate_left
       ·simp only [Act.put, Sa23, Sb23, Sc23, Zk, Zl]; rfl
       refine Zm (i := 13) (N := some 26) (v := ?_) (a' := ?_) (Bm23 50 16383) rfl rfl (Zj HT_.out (by kernel_rfl)) (fun _ _ _ h => h) (Or.inl ⟨by rfl, ?_⟩) ?_ ?_; rotate_left
       ·intro w'; go_simp; with_reducible rfl
       rotate_left
       ·simp only [Act.put, Sa23, Sb23, Sc23, Zk, Zl]; rfl
       refine Zm (i := 14) (N := some 27) (v := ?_) (a' := ?_) (Bm23 50 32767) rfl rfl (Zj HT_.out (by kernel_rfl)) (fun _ _ _ h => h) (Or.inl ⟨by rfl, ?_⟩) ?_ ?_; rotate_left
       ·intro w'; go_simp; with_reducible rfl
       rotate_left
       ·simp only [Act.put, Sa23, Sb23, Sc23, Zk, Zl]; rfl
       refine Zm (i := 15) (N := some 28) (v := ?_) (a' := ?_) (Bm23 50 65535) rfl rfl (Zj HT_.out (by kernel_rfl)) (fun _ _ _ h => h) (Or.inl ⟨by rfl, ?_⟩) ?_ ?_; rotate_left
       ·intro w'; go_simp; with_reducible rfl
       rotate_left
       ·simp only [Act.put, Sa23, Sb23, Sc23, Zk, Zl]; rfl
       refine Zm (i := 16) (N := some 29) (v := ?_) (a' := ?_) (Bm23 50 131071) rfl rfl (Zj HT_.out (by kernel_rfl)) (fun _ _ _ h => h) (Or.inl ⟨by rfl, ?_⟩) ?_ ?_; rotate_left
       ·intro w'; go_simp; with_reducible rfl
       rotate_left
       ·simp only [Act.put, Sa23, Sb23, Sc23, Zk, Zl]; rfl
       refine Zm (i := 17) (N := some 30) (v := ?_) (a' := ?_) (Bm23 50 262143) rfl rfl (Zj HT_.out (by kernel_rfl)) (fun _ _ _ h => h) (Or.inl ⟨by rfl, ?_⟩) ?_ ?_; rotate_left
       ·intro w'; go_simp; with_reducible rfl
       rotate_left
       ·simp only [Act.put, Sa23, Sb23, Sc23, Zk, Zl]; rfl
       refine take_ (i := 18) (N := some 31) (v := ?_) (a' := ?_) (Bm23 50 524287) rfl rfl (Zr HT_.out HW_.out (by kernel_rfl)) (fun _ _ _ h => h) (Or.inl ⟨by rfl, ?_⟩) hHeld ?_ ?_; rotate_left
       ·rintro w' ⟨s0, s1, s2, s3, s4, s5, s6, s7, s8, s9, s10⟩
        go_simp; with_reducible rfl
       rotate_left
       ·simp only [Act.put, Sa23, Sb23, Sc23, Zk, Zl]; rfl
       refine one_ (i := 19) (N := some 32) (Bm23 50 1048575) rfl rfl (one_of HT_.out (by kernel_rfl)) (by decide) (fun K hK => ?_); refine goes_ Try.func43 (by kernel_rfl) rfl #[.int .i64 ((rd_T76 l0_2 a1).f1), .int .i64 0, .int .i64 1000] (by rfl) rfl rfl (by (try simp only [List.map_toArray, List.map_cons, List.map_nil]); first | done | rfl | (simp only [List.length_drop, List.length_take]; rfl)) ?_; with_reducible refine (spec_l1In.calls ((rd_T76 l0_2 a1).f1) 0 1000 true _ A13.out).mono ?_
       rintro e w' ⟨rfl, ⟨nd, rfl⟩⟩
       refine ⟨_, rfl, ?_⟩; refine hK.out _ _ ⟨(Zb BK103.out 0).trans rfl, (Zb BK103.out 1).trans rfl, (Zb BK103.out 2).trans rfl, (Zb BK103.out 3).trans rfl, (Zb BK101.out 0).trans rfl, (Zb BK101.out 1).trans rfl, (Zb BK101.out 2).trans rfl, (Zb BK101.out 3).trans rfl, (Zb BK101.out 4).trans rfl, ((HB.out.cell (World.block_lt_of_cell? w _ hw105_0)).trans hw105_0), ((HB.out.cell (World.block_lt_of_cell? w _ hw106_0)).trans hw106_0)⟩ (fun hHeld => ?_); clear hK K; refine norm_ (a' := ?_) ?_ ?_; rotate_left
       ·show Act.put _ (some 32) _ = _
        simp only [Act.put, Sa23, Sb23, Sc23, Zk, Zl]; rfl
       refine Zm (i := 20) (N := some 33) (v := ?_) (a' := ?_) (Bm23 50 2097151) rfl rfl (Zj HT_.out (by kernel_rfl)) (fun _ _ _ h => h) (Or.inl ⟨by rfl, ?_⟩) ?_ ?_; rotate_left
       ·intro w'; go_simp; with_reducible rfl
       rotate_left
       ·simp only [Act.put, Sa23, Sb23, Sc23, Zk, Zl]; rfl
       refine Zm (i := 21) (N := some 34) (v := ?_) (a' := ?_) (Bm23 50 4194303) rfl rfl (Zj HT_.out (by kernel_rfl)) (fun _ _ _ h => h) (Or.inl ⟨by rfl, ?_⟩) ?_ ?_; rotate_left
       ·intro w'; go_simp; with_reducible rfl
       rotate_left
       ·simp only [Act.put, Sa23, Sb23, Sc23, Zk, Zl]; rfl
       refine Zm (i := 22) (N := some 35) (v := ?_) (a' := ?_) (Bm23 50 8388607) rfl rfl (Zj HT_.out (by kernel_rfl)) (fun _ _ _ h => h) (Or.inl ⟨by rfl, ?_⟩) ?_ ?_; rotate_left
       ·intro w'; go_simp; with_reducible rfl
       rotate_left
       ·simp only [Act.put, Sa23, Sb23, Sc23, Zk, Zl]; rfl
       refine Zm (i := 23) (N := some 36) (v := ?_) (a' := ?_) (Bm23 50 16777215) rfl rfl (Zj HT_.out (by kernel_rfl)) (fun _ _ _ h => h) (Or.inl ⟨by rfl, ?_⟩) ?_ ?_; rotate_left
       ·intro w'; go_simp; with_reducible rfl
       rotate_left
       ·simp only [Act.put, Sa23, Sb23, Sc23, Zk, Zl]; rfl
       refine take_ (i := 24) (N := some 37) (v := ?_) (a' := ?_) (Bm23 50 33554431) rfl rfl (Zr HT_.out HW_.out (by kernel_rfl)) (fun _ _ _ h => h) (Or.inl ⟨by rfl, ?_⟩) hHeld ?_ ?_; rotate_left
       ·rintro w' ⟨s0, s1, s2, s3, s4, s5, s6, s7, s8, s9, s10⟩
        go_simp; with_reducible rfl
       rotate_left
       ·simp only [Act.put, Sa23, Sb23, Sc23, Zk, Zl]; rfl
       refine Zm (i := 25) (N := some 38) (v := ?_) (a' := ?_) (Bm23 50 67108863) rfl rfl (Zj HT_.out (by kernel_rfl)) (fun _ _ _ h => h) (Or.inl ⟨by rfl, ?_⟩) ?_ ?_; rotate_left
       ·intro w'; go_simp; with_reducible rfl
       rotate_left
       ·simp only [Act.put, Sa23, Sb23, Sc23, Zk, Zl]; rfl
       refine Zm (i := 26) (N := some 39) (v := ?_) (a' := ?_) (Bm23 50 134217727) rfl rfl (Zj HT_.out (by kernel_rfl)) (fun _ _ _ h => h) (Or.inl ⟨by rfl, ?_⟩) ?_ ?_; rotate_left
       ·intro w'; go_simp; with_reducible rfl
       rotate_left
       ·simp only [Act.put, Sa23, Sb23, Sc23, Zk, Zl]; rfl
       refine Zm (i := 27) (N := some 40) (v := undef) (a' := ?_) (Bm23 50 268435455) rfl rfl (Zj HT_.out (by kernel_rfl)) (fun _ _ _ h => h) (Or.inr ⟨by rfl, rfl⟩) ?_ ?_; rotate_left
       ·simp only [Act.put, Sa23, Sb23, Sc23, Zk, Zl]; rfl
       refine Zm (i := 28) (N := some 41) (v := undef) (a' := ?_) (Bm23 50 536870911) rfl rfl (Zj HT_.out (by kernel_rfl)) (fun _ _ _ h => h) (Or.inr ⟨by rfl, rfl⟩) ?_ ?_; rotate_left
       ·simp only [Act.put, Sa23, Sb23, Sc23, Zk, Zl]; rfl
       refine Zm (i := 29) (N := some 42) (v := undef) (a' := ?_) (Bm23 50 1073741823) rfl rfl (Zj HT_.out (by kernel_rfl)) (fun _ _ _ h => h) (Or.inr ⟨by rfl, rfl⟩) ?_ ?_; rotate_left
       ·simp only [Act.put, Sa23, Sb23, Sc23, Zk, Zl]; rfl
       refine Zm (i := 30) (N := some 43) (v := ?_) (a' := ?_) (Bm23 50 2147483647) rfl rfl (Zj HT_.out (by kernel_rfl)) (fun _ _ _ h => h) (Or.inl ⟨by rfl, ?_⟩) ?_ ?_; rotate_left
       ·intro w'; go_simp; with_reducible rfl
       rotate_left
       ·simp only [Act.put, Sa23, Sb23, Sc23, Zk, Zl]; rfl
       refine Zm (i := 31) (N := some 44) (v := ?_) (a' := ?_) (Bm23 50 4294967295) rfl rfl (Zj HT_.out (by kernel_rfl)) (fun _ _ _ h => h) (Or.inl ⟨by rfl, ?_⟩) ?_ ?_; rotate_left
       ·intro w'; go_simp; with_reducible rfl
       rotate_left
       ·simp only [Act.put, Sa23, Sb23, Sc23, Zk, Zl]; rfl
       refine Zm (i := 32) (N := some 45) (v := ?_) (a' := ?_) (Bm23 50 8589934591) rfl rfl (Zj HT_.out (by kernel_rfl)) (fun _ _ _ h => h) (Or.inl ⟨by rfl, ?_⟩) ?_ ?_; rotate_left
       ·intro w'; go_simp; with_reducible rfl
       rotate_left
       ·simp only [Act.put, Sa23, Sb23, Sc23, Zk, Zl]; rfl
       refine Zm (i := 33) (N := some 46) (v := ?_) (a' := ?_) (Bm23 50 17179869183) rfl rfl (Zj HT_.out (by kernel_rfl)) (fun _ _ _ h => h) (Or.inl ⟨by rfl, ?_⟩) ?_ ?_; rotate_left
       ·intro w'; go_simp; with_reducible rfl
       rotate_left
       ·simp only [Act.put, Sa23, Sb23, Sc23, Zk, Zl]; rfl
       refine Zm (i := 35) (N := some 48) (v := ?_) (a' := ?_) (Bm23 50 51539607551) rfl rfl (Zj HT_.out (by kernel_rfl)) (fun _ _ _ h => h) (Or.inl ⟨by rfl, ?_⟩) ?_ ?_; rotate_left
       ·intro w'; go_simp; with_reducible rfl
       rotate_left
       ·simp only [Act.put, Sa23, Sb23, Sc23, Zk, Zl]; rfl
       refine take_ (i := 34) (N := some 47) (v := ?_) (a' := ?_) (Bm23 50 68719476735) rfl rfl (Zr HT_.out HW_.out (by kernel_rfl)) (fun _ _ _ h => h) (Or.inl ⟨by rfl, ?_⟩) hHeld ?_ ?_; rotate_left
       ·rintro w' ⟨s0, s1, s2, s3, s4, s5, s6, s7, s8, s9, s10⟩
        go_simp; with_reducible rfl
       rotate_left
       ·simp only [Act.put, Sa23, Sb23, Sc23, Zk, Zl]; rfl
       refine Zm (i := 36) (N := some 49) (v := ?_) (a' := ?_) (Bm23 50 137438953471) rfl rfl (Zj HT_.out (by kernel_rfl)) (fun _ _ _ h => h) (Or.inl ⟨by rfl, ?_⟩) ?_ ?_; rotate_left
       ·intro w'; go_simp; with_reducible rfl
       rotate_left
       ·simp only [Act.put, Sa23, Sb23, Sc23, Zk, Zl]; rfl
       refine take_ (i := 37) (N := some 50) (v := ?_) (a' := ?_) (Bm23 50 274877906943) rfl rfl (Zr HT_.out HW_.out (by kernel_rfl)) (fun _ _ _ h => h) (Or.inl ⟨by rfl, ?_⟩) hHeld ?_ ?_; rotate_left
       ·rintro w' ⟨s0, s1, s2, s3, s4, s5, s6, s7, s8, s9, s10⟩
        go_simp; with_reducible rfl
       rotate_left
       ·simp only [Act.put, Sa23, Sb23, Sc23, Zk, Zl]; rfl
       refine Zm (i := 38) (N := some 51) (v := ?_) (a' := ?_) (Bm23 50 549755813887) rfl rfl (Zj HT_.out (by kernel_rfl)) (fun _ _ _ h => h) (Or.inl ⟨by rfl, ?_⟩) ?_ ?_; rotate_left
       ·intro w'; go_simp; with_reducible rfl
       rotate_left
       ·simp only [Act.put, Sa23, Sb23, Sc23, Zk, Zl]; rfl
       refine Zm (i := 39) (N := some 52) (v := ?_) (a' := ?_) (Bm23 50 1099511627775) rfl rfl (Zj HT_.out (by kernel_rfl)) (fun _ _ _ h => h) (Or.inl ⟨by rfl, ?_⟩) ?_ ?_; rotate_left
       ·intro w'; go_simp; with_reducible rfl
       rotate_left
       ·simp only [Act.put, Sa23, Sb23, Sc23, Zk, Zl]; rfl
       refine Zm (i := 40) (N := some 53) (v := ?_) (a' := ?_) (Bm23 50 2199023255551) rfl rfl (Zj HT_.out (by kernel_rfl)) (fun _ _ _ h => h) (Or.inl ⟨by rfl, ?_⟩) ?_ ?_; rotate_left
       ·intro w'; go_simp; with_reducible rfl
       rotate_left
       ·simp only [Act.put, Sa23, Sb23, Sc23, Zk, Zl]; rfl
       refine Zm (i := 41) (N := some 54) (v := ?_) (a' := ?_) (Bm23 50 4398046511103) rfl rfl (Zj HT_.out (by kernel_rfl)) (fun _ _ _ h => h) (Or.inl ⟨by rfl, ?_⟩) ?_ ?_; rotate_left
       ·intro w'; go_simp; with_reducible rfl
       rotate_left
       ·simp only [Act.put, Sa23, Sb23, Sc23, Zk, Zl]; rfl
       refine Zm (i := 43) (N := some 56) (v := ?_) (a' := ?_) (Bm23 50 13194139533311) rfl rfl (Zj HT_.out (by kernel_rfl)) (fun _ _ _ h => h) (Or.inl ⟨by rfl, ?_⟩) ?_ ?_; rotate_left
       ·intro w'; go_simp; with_reducible rfl
       rotate_left
       ·simp only [Act.put, Sa23, Sb23, Sc23, Zk, Zl]; rfl
       refine Zm (i := 46) (N := some 59) (v := ?_) (a' := ?_) (Bm23 50 83562883710975) rfl rfl (Zj HT_.out (by kernel_rfl)) (fun _ _ _ h => h) (Or.inl ⟨by rfl, ?_⟩) ?_ ?_; rotate_left
       ·intro w'; go_simp; with_reducible rfl
       rotate_left
       ·simp only [Act.put, Sa23, Sb23, Sc23, Zk, Zl]; rfl
       refine take_ (i := 42) (N := some 55) (v := ?_) (a' := ?_) (Bm23 50 87960930222079) rfl rfl (Zr HT_.out HW_.out (by kernel_rfl)) (fun _ _ _ h => h) (Or.inl ⟨by rfl, ?_⟩) hHeld ?_ ?_; rotate_left
       ·rintro w' ⟨s0, s1, s2, s3, s4, s5, s6, s7, s8, s9, s10⟩
        go_simp; with_reducible rfl
       rotate_left
       ·simp only [Act.put, Sa23, Sb23, Sc23, Zk, Zl]; rfl
       refine Zm (i := 44) (N := some 57) (v := ?_) (a' := ?_) (Bm23 50 105553116266495) rfl rfl (Zj HT_.out (by kernel_rfl)) (fun _ _ _ h => h) (Or.inl ⟨by rfl, ?_⟩) ?_ ?_; rotate_left
       ·intro w'; go_simp; with_reducible rfl
       rotate_left
       ·simp only [Act.put, Sa23, Sb23, Sc23, Zk, Zl]; rfl
       refine take_ (i := 45) (N := some 58) (v := ?_) (a' := ?_) (Bm23 50 140737488355327) rfl rfl (Zr HT_.out HW_.out (by kernel_rfl)) (fun _ _ _ h => h) (Or.inl ⟨by rfl, ?_⟩) hHeld ?_ ?_; rotate_left
       ·rintro w' ⟨s0, s1, s2, s3, s4, s5, s6, s7, s8, s9, s10⟩
        go_simp; with_reducible rfl
       rotate_left
       ·simp only [Act.put, Sa23, Sb23, Sc23, Zk, Zl]; rfl
       refine take_ (i := 47) (N := some 60) (v := ?_) (a' := ?_) (Bm23 50 281474976710655) rfl rfl (Zr HT_.out HW_.out (by kernel_rfl)) (fun _ _ _ h => h) (Or.inl ⟨by rfl, ?_⟩) hHeld ?_ ?_; rotate_left
       ·rintro w' ⟨s0, s1, s2, s3, s4, s5, s6, s7, s8, s9, s10⟩
        go_simp; with_reducible rfl
       rotate_left
       ·simp only [Act.put, Sa23, Sb23, Sc23, Zk, Zl]; rfl
       refine Zm (i := 48) (N := some 61) (v := ?_) (a' := ?_) (Bm23 50 562949953421311) rfl rfl (Zj HT_.out (by kernel_rfl)) (fun _ _ _ h => h) (Or.inl ⟨by rfl, ?_⟩) ?_ ?_; rotate_left
       ·intro w'; go_simp; with_reducible rfl
       rotate_left
       ·simp only [Act.put, Sa23, Sb23, Sc23, Zk, Zl]; rfl
       refine Zm (i := 49) (N := some 62) (v := ?_) (a' := ?_) (Bm23 50 1125899906842623) rfl rfl (Zj HT_.out (by kernel_rfl)) (fun _ _ _ h => h) (Or.inl ⟨by rfl, ?_⟩) ?_ ?_; rotate_left
       ·intro w'; go_simp; with_reducible rfl
       rotate_left
       ·simp only [Act.put, Sa23, Sb23, Sc23, Zk, Zl]; rfl
       refine done_ (done_of HT_.out (by kernel_rfl)) ?_; try go_wp2
       go_meet
       case rel => (try simp only [← Nbq15.out]); exact ⟨_, (((rdOf false ((rd_T76 l0_2 a1).f3) a1) != (true))), (by first | rfl | (simp; done) | (simp [*]; done)), H', ⟨by first | omega | exact Nat.le_refl _⟩, ⟨by (with_reducible repeat (first | refine Zh ?_ _ | refine Zi ?_ | refine Zf ?_ _)); exact BK101.out⟩, ⟨by (with_reducible repeat (first | refine Zh ?_ _ | refine Zi ?_ | refine Zf ?_ _)); exact BK103.out⟩, ⟨by repeat (first | (with_reducible first | exact HB.out | apply Ze | apply Za | apply Zd | refine Zg ?_ GE101.out | refine Zg ?_ GE103.out) | exact HB.out)⟩⟩
      ·rw [if_neg c18] at H; have c18b0 : ((rd ((rd_T76 l0_2 a1).f2) a1) == 0) = false := beq_eq_false_iff_ne.mpr c18; have c18b1 : ((rd ((rd_T76 l0_2 a1).f2) a1) != 0) = true := bne_iff_ne.mpr c18; have H' := Aside0.mk H; clear H; try go_wp2
       (try rw [← Nbq15.out])
       have n0_ : Aside0 (((((w8.setCell ⟨gb103, 0, none⟩ (.bool (true))).setCell ⟨gb103, 1, none⟩ (.int .i64 ((rd_T76 l0_2 a1).f1))).setCell ⟨gb103, 2, none⟩ (.slice A102_2 ((rd_T76 l0_2 a1).f2).length c102_2)).setCell ⟨gb103, 3, none⟩ (.slice A102_3 ((rd_T76 l0_2 a1).f3).length c102_3)).heap[gb101]? = some (.cells #[.slice A0_0 l0_0.length c0_0, .slice A0_1 l0_1.length c0_1, .slice (some ad102) l0_2.length c0_2, .int .i64 a0_3, .int .i64 a0_4] 35 (0, 0))) := ⟨by (with_reducible repeat (first | refine Zh ?_ _ | refine Zi ?_ | refine Zf ?_ _)); refine Zs ?_ NB101_103.out _; (with_reducible repeat (first | refine Zh ?_ _ | refine Zi ?_ | refine Zf ?_ _)); refine Zs ?_ NB101_103.out _; (with_reducible repeat (first | refine Zh ?_ _ | refine Zi ?_ | refine Zf ?_ _)); refine Zs ?_ NB101_103.out _; (with_reducible repeat (first | refine Zh ?_ _ | refine Zi ?_ | refine Zf ?_ _)); refine Zs ?_ NB101_103.out _; (with_reducible repeat (first | refine Zh ?_ _ | refine Zi ?_ | refine Zf ?_ _)); exact BK101.out⟩
       have n1_ : Aside0 (((((w8.setCell ⟨gb103, 0, none⟩ (.bool (true))).setCell ⟨gb103, 1, none⟩ (.int .i64 ((rd_T76 l0_2 a1).f1))).setCell ⟨gb103, 2, none⟩ (.slice A102_2 ((rd_T76 l0_2 a1).f2).length c102_2)).setCell ⟨gb103, 3, none⟩ (.slice A102_3 ((rd_T76 l0_2 a1).f3).length c102_3)).heap[gb103]? = some (.cells #[.bool true, .int .i64 ((rd_T76 l0_2 a1).f1), .slice A102_2 ((rd_T76 l0_2 a1).f2).length c102_2, .slice A102_3 ((rd_T76 l0_2 a1).f3).length c102_3] 76 (0, 0))) := ⟨by (with_reducible repeat (first | refine Zh ?_ _ | refine Zi ?_ | refine Zf ?_ _)); refine Zt (cs := #[.bool (true), .int .i64 ((rd_T76 l0_2 a1).f1), .slice A102_2 ((rd_T76 l0_2 a1).f2).length c102_2, .slice none 0 0]) ?_ 3 _ rfl; (with_reducible repeat (first | refine Zh ?_ _ | refine Zi ?_ | refine Zf ?_ _)); refine Zt (cs := #[.bool (true), .int .i64 ((rd_T76 l0_2 a1).f1), .slice none 0 0, .slice none 0 0]) ?_ 2 _ rfl; (with_reducible repeat (first | refine Zh ?_ _ | refine Zi ?_ | refine Zf ?_ _)); refine Zt (cs := #[.bool (true), .int .i64 0, .slice none 0 0, .slice none 0 0]) ?_ 1 _ rfl; (with_reducible repeat (first | refine Zh ?_ _ | refine Zi ?_ | refine Zf ?_ _)); refine Zt (cs := #[.bool false, .int .i64 0, .slice none 0 0, .slice none 0 0]) ?_ 0 _ rfl; (with_reducible repeat (first | refine Zh ?_ _ | refine Zi ?_ | refine Zf ?_ _)); exact BK103.out⟩
       have n2_ : Aside0 (Below w.heap.size w ((((w8.setCell ⟨gb103, 0, none⟩ (.bool (true))).setCell ⟨gb103, 1, none⟩ (.int .i64 ((rd_T76 l0_2 a1).f1))).setCell ⟨gb103, 2, none⟩ (.slice A102_2 ((rd_T76 l0_2 a1).f2).length c102_2)).setCell ⟨gb103, 3, none⟩ (.slice A102_3 ((rd_T76 l0_2 a1).f3).length c102_3))) := ⟨by repeat (first | (with_reducible first | exact HB.out | apply Ze | apply Za | apply Zd | refine Zg ?_ GE101.out | refine Zg ?_ GE103.out) | exact HB.out)⟩
       (try clear BK101)
       (try clear BK103)
       (try clear HB)
       generalize ((((w8.setCell ⟨gb103, 0, none⟩ (.bool (true))).setCell ⟨gb103, 1, none⟩ (.int .i64 ((rd_T76 l0_2 a1).f1))).setCell ⟨gb103, 2, none⟩ (.slice A102_2 ((rd_T76 l0_2 a1).f2).length c102_2)).setCell ⟨gb103, 3, none⟩ (.slice A102_3 ((rd_T76 l0_2 a1).f3).length c102_3)) = w22 at n0_ n1_ n2_ ⊢; have BK101 := n0_; have BK103 := n1_; have HB := n2_; clear n0_ n1_ n2_; have n0_ := Aside0.mk (Zi BK101.out); have n1_ := Aside0.mk (Zi BK103.out); have n2_ := Aside0.mk (Zd HB.out); clear BK101; clear BK103; clear HB; have BK101 := n0_; have BK103 := n1_; have HB := n2_; clear n0_ n1_ n2_; have p105 : 0 ≤ (a1 : Int) := of_decide_eq_true (by assumption); have q105 : a1 < (((rd_T76 l0_2 a1).f2).length : Int) := of_decide_eq_true (by assumption); obtain ⟨ad105, e105, hx105_0⟩ := Kd.at_int HR102_2.out a1 p105 q105; have hw105_0 := hx105_0; cases e105; replace hx105_0 := (HB.out.cell (World.block_lt_of_cell? w _ hx105_0)).trans hx105_0; replace p105 := eq_true p105; replace q105 := eq_true q105; refine start_ (n := 50) (S := fun w' => w'.cell? ⟨gb103, 0, none⟩ = some (.bool true) ∧ w'.cell? ⟨gb103, 1, none⟩ = some (.int .i64 ((rd_T76 l0_2 a1).f1)) ∧ w'.cell? ⟨gb103, 2, none⟩ = some (.slice (some ad105) ((rd_T76 l0_2 a1).f2).length c102_2) ∧ w'.cell? ⟨gb103, 3, none⟩ = some (.slice A102_3 ((rd_T76 l0_2 a1).f3).length c102_3) ∧ w'.cell? ⟨gb101, 0, none⟩ = some (.slice A0_0 l0_0.length c0_0) ∧ w'.cell? ⟨gb101, 1, none⟩ = some (.slice A0_1 l0_1.length c0_1) ∧ w'.cell? ⟨gb101, 2, none⟩ = some (.slice (some ad102) l0_2.length c0_2) ∧ w'.cell? ⟨gb101, 3, none⟩ = some (.int .i64 a0_3) ∧ w'.cell? ⟨gb101, 4, none⟩ = some (.int .i64 a0_4) ∧ w'.cell? (ad105.add (a1).toNat) = some (.int .i64 (rd ((rd_T76 l0_2 a1).f2) a1))) (ds := []) #[false, false, false, false, false, false, false, false, false, false, false, false, false, false, false, false, false, false, false, false, false, false, false, false, false, false, false, false, false, false, false, false, false, false, false, false, false, false, false, false, false, false, false, false, false, false, false, false, false, false] (by kernel_rfl) rfl rfl ⟨(Zb BK103.out 0).trans rfl, (Zb BK103.out 1).trans rfl, (Zb BK103.out 2).trans rfl, (Zb BK103.out 3).trans rfl, (Zb BK101.out 0).trans rfl, (Zb BK101.out 1).trans rfl, (Zb BK101.out 2).trans rfl, (Zb BK101.out 3).trans rfl, (Zb BK101.out 4).trans rfl, ((HB.out.cell (World.block_lt_of_cell? w _ hw105_0)).trans hw105_0)⟩ (fun hHeld => ?_); refine with_tabW spec_l8Picture.tab2 spec_l8Picture.bits2 (fun HT_ HW_ => ?_)
       generalize w22.drew = w23 at BK101 BK103 HB hx105_0 hHeld ⊢; refine Zm (i := 0) (N := some 13) (v := ?_) (a' := ?_) (Bm23 50 1) rfl rfl (Zj HT_.out (by kernel_rfl)) (fun _ _ _ h => h) (Or.inl ⟨by rfl, ?_⟩) ?_ ?_; rotate_left
       ·intro w'; go_simp; with_reducible rfl
       rotate_left
       ·simp only [Act.put, Sa23, Sb23, Sc23, Zk, Zl]; rfl
       refine Zm (i := 3) (N := some 16) (v := ?_) (a' := ?_) (Bm23 50 9) rfl rfl (Zj HT_.out (by kernel_rfl)) (fun _ _ _ h => h) (Or.inl ⟨by rfl, ?_⟩) ?_ ?_; rotate_left
       ·intro w'; go_simp; with_reducible rfl
       rotate_left
       ·simp only [Act.put, Sa23, Sb23, Sc23, Zk, Zl]; rfl
       refine take_ (i := 1) (N := some 14) (v := ?_) (a' := ?_) (Bm23 50 11) rfl rfl (Zr HT_.out HW_.out (by kernel_rfl)) (fun _ _ _ h => h) (Or.inl ⟨by rfl, ?_⟩) hHeld ?_ ?_; rotate_left
       ·rintro w' ⟨s0, s1, s2, s3, s4, s5, s6, s7, s8, s9⟩
        go_simp; with_reducible rfl
       rotate_left
       ·simp only [Act.put, Sa23, Sb23, Sc23, Zk, Zl]; rfl
       refine Zm (i := 2) (N := some 15) (v := ?_) (a' := ?_) (Bm23 50 15) rfl rfl (Zj HT_.out (by kernel_rfl)) (fun _ _ _ h => h) (Or.inl ⟨by rfl, ?_⟩) ?_ ?_; rotate_left
       ·intro w'; go_simp; with_reducible rfl
       rotate_left
       ·simp only [Act.put, Sa23, Sb23, Sc23, Zk, Zl]; rfl
       refine take_ (i := 4) (N := some 17) (v := ?_) (a' := ?_) (Bm23 50 31) rfl rfl (Zr HT_.out HW_.out (by kernel_rfl)) (fun _ _ _ h => h) (Or.inl ⟨by rfl, ?_⟩) hHeld ?_ ?_; rotate_left
       ·rintro w' ⟨s0, s1, s2, s3, s4, s5, s6, s7, s8, s9⟩
        go_simp; with_reducible rfl
       rotate_left
       ·simp only [Act.put, Sa23, Sb23, Sc23, Zk, Zl]; rfl
       refine Zm (i := 5) (N := some 18) (v := ?_) (a' := ?_) (Bm23 50 63) rfl rfl (Zj HT_.out (by kernel_rfl)) (fun _ _ _ h => h) (Or.inl ⟨by rfl, ?_⟩) ?_ ?_; rotate_left
       ·intro w'; go_simp; with_reducible rfl
       rotate_left
       ·simp only [Act.put, Sa23, Sb23, Sc23, Zk, Zl]; rfl
       refine Zm (i := 6) (N := some 19) (v := ?_) (a' := ?_) (Bm23 50 127) rfl rfl (Zj HT_.out (by kernel_rfl)) (fun _ _ _ h => h) (Or.inl ⟨by rfl, ?_⟩) ?_ ?_; rotate_left
       ·intro w'; go_simp; with_reducible rfl
       rotate_left
       ·simp only [Act.put, Sa23, Sb23, Sc23, Zk, Zl]; rfl
       refine Zm (i := 7) (N := some 20) (v := ?_) (a' := ?_) (Bm23 50 255) rfl rfl (Zj HT_.out (by kernel_rfl)) (fun _ _ _ h => h) (Or.inl ⟨by rfl, ?_⟩) ?_ ?_; rotate_left
       ·intro w'; go_simp; with_reducible rfl
       rotate_left
       ·simp only [Act.put, Sa23, Sb23, Sc23, Zk, Zl]; rfl
       refine Zm (i := 8) (N := some 21) (v := ?_) (a' := ?_) (Bm23 50 511) rfl rfl (Zj HT_.out (by kernel_rfl)) (fun _ _ _ h => h) (Or.inl ⟨by rfl, ?_⟩) ?_ ?_; rotate_left
       ·intro w'; go_simp; with_reducible rfl
       rotate_left
       ·simp only [Act.put, Sa23, Sb23, Sc23, Zk, Zl]; rfl
       refine Zm (i := 11) (N := some 24) (v := ?_) (a' := ?_) (Bm23 50 2559) rfl rfl (Zj HT_.out (by kernel_rfl)) (fun _ _ _ h => h) (Or.inl ⟨by rfl, ?_⟩) ?_ ?_; rotate_left
       ·intro w'; go_simp; with_reducible rfl
       rotate_left
       ·simp only [Act.put, Sa23, Sb23, Sc23, Zk, Zl]; rfl
       refine take_ (i := 9) (N := some 22) (v := ?_) (a' := ?_) (Bm23 50 3071) rfl rfl (Zr HT_.out HW_.out (by kernel_rfl)) (fun _ _ _ h => h) (Or.inl ⟨by rfl, ?_⟩) hHeld ?_ ?_; rotate_left
       ·rintro w' ⟨s0, s1, s2, s3, s4, s5, s6, s7, s8, s9⟩
        go_simp; with_reducible rfl
       rotate_left
       ·simp only [Act.put, Sa23, Sb23, Sc23, Zk, Zl]; rfl
       refine Zm (i := 10) (N := some 23) (v := ?_) (a' := ?_) (Bm23 50 4095) rfl rfl (Zj HT_.out (by kernel_rfl)) (fun _ _ _ h => h) (Or.inl ⟨by rfl, ?_⟩) ?_ ?_; rotate_left
       ·intro w'; go_simp; with_reducible rfl
       rotate_left
       ·simp only [Act.put, Sa23, Sb23, Sc23, Zk, Zl]; rfl
       refine take_ (i := 12) (N := some 25) (v := ?_) (a' := ?_) (Bm23 50 8191) rfl rfl (Zr HT_.out HW_.out (by kernel_rfl)) (fun _ _ _ h => h) (Or.inl ⟨by rfl, ?_⟩) hHeld ?_ ?_; rotate_left
       ·rintro w' ⟨s0, s1, s2, s3, s4, s5, s6, s7, s8, s9⟩
        go_simp; with_reducible rfl
       rotate_left
       ·simp only [Act.put, Sa23, Sb23, Sc23, Zk, Zl]; rfl
       refine Zm (i := 13) (N := some 26) (v := ?_) (a' := ?_) (Bm23 50 16383) rfl rfl (Zj HT_.out (by kernel_rfl)) (fun _ _ _ h => h) (Or.inl ⟨by rfl, ?_⟩) ?_ ?_; rotate_left
       ·intro w'; go_simp; with_reducible rfl
       rotate_left
       ·simp only [Act.put, Sa23, Sb23, Sc23, Zk, Zl]; rfl
       refine Zm (i := 14) (N := some 27) (v := ?_) (a' := ?_) (Bm23 50 32767) rfl rfl (Zj HT_.out (by kernel_rfl)) (fun _ _ _ h => h) (Or.inl ⟨by rfl, ?_⟩) ?_ ?_; rotate_left
       ·intro w'; go_simp; with_reducible rfl
       rotate_left
       ·simp only [Act.put, Sa23, Sb23, Sc23, Zk, Zl]; rfl
       refine Zm (i := 15) (N := some 28) (v := ?_) (a' := ?_) (Bm23 50 65535) rfl rfl (Zj HT_.out (by kernel_rfl)) (fun _ _ _ h => h) (Or.inl ⟨by rfl, ?_⟩) ?_ ?_; rotate_left
       ·intro w'; go_simp; with_reducible rfl
       rotate_left
       ·simp only [Act.put, Sa23, Sb23, Sc23, Zk, Zl]; rfl
       refine Zm (i := 16) (N := some 29) (v := ?_) (a' := ?_) (Bm23 50 131071) rfl rfl (Zj HT_.out (by kernel_rfl)) (fun _ _ _ h => h) (Or.inl ⟨by rfl, ?_⟩) ?_ ?_; rotate_left
       ·intro w'; go_simp; with_reducible rfl
       rotate_left
       ·simp only [Act.put, Sa23, Sb23, Sc23, Zk, Zl]; rfl
       refine Zm (i := 17) (N := some 30) (v := ?_) (a' := ?_) (Bm23 50 262143) rfl rfl (Zj HT_.out (by kernel_rfl)) (fun _ _ _ h => h) (Or.inl ⟨by rfl, ?_⟩) ?_ ?_; rotate_left
       ·intro w'; go_simp; with_reducible rfl
       rotate_left
       ·simp only [Act.put, Sa23, Sb23, Sc23, Zk, Zl]; rfl
       refine take_ (i := 18) (N := some 31) (v := ?_) (a' := ?_) (Bm23 50 524287) rfl rfl (Zr HT_.out HW_.out (by kernel_rfl)) (fun _ _ _ h => h) (Or.inl ⟨by rfl, ?_⟩) hHeld ?_ ?_; rotate_left
       ·rintro w' ⟨s0, s1, s2, s3, s4, s5, s6, s7, s8, s9⟩
        go_simp; with_reducible rfl
       rotate_left
       ·simp only [Act.put, Sa23, Sb23, Sc23, Zk, Zl]; rfl
       refine one_ (i := 19) (N := some 32) (Bm23 50 1048575) rfl rfl (one_of HT_.out (by kernel_rfl)) (by decide) (fun K hK => ?_); refine goes_ Try.func43 (by kernel_rfl) rfl #[.int .i64 ((rd_T76 l0_2 a1).f1), .int .i64 0, .int .i64 1000] (by rfl) rfl rfl (by (try simp only [List.map_toArray, List.map_cons, List.map_nil]); first | done | rfl | (simp only [List.length_drop, List.length_take]; rfl)) ?_; with_reducible refine (spec_l1In.calls ((rd_T76 l0_2 a1).f1) 0 1000 true _ A13.out).mono ?_
       rintro e w' ⟨rfl, ⟨nd, rfl⟩⟩
       refine ⟨_, rfl, ?_⟩; refine hK.out _ _ ⟨(Zb BK103.out 0).trans rfl, (Zb BK103.out 1).trans rfl, (Zb BK103.out 2).trans rfl, (Zb BK103.out 3).trans rfl, (Zb BK101.out 0).trans rfl, (Zb BK101.out 1).trans rfl, (Zb BK101.out 2).trans rfl, (Zb BK101.out 3).trans rfl, (Zb BK101.out 4).trans rfl, ((HB.out.cell (World.block_lt_of_cell? w _ hw105_0)).trans hw105_0)⟩ (fun hHeld => ?_); clear hK K; refine norm_ (a' := ?_) ?_ ?_; rotate_left
       ·show Act.put _ (some 32) _ = _
        simp only [Act.put, Sa23, Sb23, Sc23, Zk, Zl]; rfl
       refine Zm (i := 20) (N := some 33) (v := ?_) (a' := ?_) (Bm23 50 2097151) rfl rfl (Zj HT_.out (by kernel_rfl)) (fun _ _ _ h => h) (Or.inl ⟨by rfl, ?_⟩) ?_ ?_; rotate_left
       ·intro w'; go_simp; with_reducible rfl
       rotate_left
       ·simp only [Act.put, Sa23, Sb23, Sc23, Zk, Zl]; rfl
       refine Zm (i := 21) (N := some 34) (v := ?_) (a' := ?_) (Bm23 50 4194303) rfl rfl (Zj HT_.out (by kernel_rfl)) (fun _ _ _ h => h) (Or.inl ⟨by rfl, ?_⟩) ?_ ?_; rotate_left
       ·intro w'; go_simp; with_reducible rfl
       rotate_left
       ·simp only [Act.put, Sa23, Sb23, Sc23, Zk, Zl]; rfl
       refine Zm (i := 22) (N := some 35) (v := ?_) (a' := ?_) (Bm23 50 8388607) rfl rfl (Zj HT_.out (by kernel_rfl)) (fun _ _ _ h => h) (Or.inl ⟨by rfl, ?_⟩) ?_ ?_; rotate_left
       ·intro w'; go_simp; with_reducible rfl
       rotate_left
       ·simp only [Act.put, Sa23, Sb23, Sc23, Zk, Zl]; rfl
       refine Zm (i := 23) (N := some 36) (v := ?_) (a' := ?_) (Bm23 50 16777215) rfl rfl (Zj HT_.out (by kernel_rfl)) (fun _ _ _ h => h) (Or.inl ⟨by rfl, ?_⟩) ?_ ?_; rotate_left
       ·intro w'; go_simp; with_reducible rfl
       rotate_left
       ·simp only [Act.put, Sa23, Sb23, Sc23, Zk, Zl]; rfl
       refine take_ (i := 24) (N := some 37) (v := ?_) (a' := ?_) (Bm23 50 33554431) rfl rfl (Zr HT_.out HW_.out (by kernel_rfl)) (fun _ _ _ h => h) (Or.inl ⟨by rfl, ?_⟩) hHeld ?_ ?_; rotate_left
       ·rintro w' ⟨s0, s1, s2, s3, s4, s5, s6, s7, s8, s9⟩
        go_simp; with_reducible rfl
       rotate_left
       ·simp only [Act.put, Sa23, Sb23, Sc23, Zk, Zl]; rfl
       refine Zm (i := 25) (N := some 38) (v := ?_) (a' := ?_) (Bm23 50 67108863) rfl rfl (Zj HT_.out (by kernel_rfl)) (fun _ _ _ h => h) (Or.inl ⟨by rfl, ?_⟩) ?_ ?_; rotate_left
       ·intro w'; go_simp; with_reducible rfl
       rotate_left
       ·simp only [Act.put, Sa23, Sb23, Sc23, Zk, Zl]; rfl
       refine Zm (i := 26) (N := some 39) (v := ?_) (a' := ?_) (Bm23 50 134217727) rfl rfl (Zj HT_.out (by kernel_rfl)) (fun _ _ _ h => h) (Or.inl ⟨by rfl, ?_⟩) ?_ ?_; rotate_left
       ·intro w'; go_simp; with_reducible rfl
       rotate_left
       ·simp only [Act.put, Sa23, Sb23, Sc23, Zk, Zl]; rfl
       refine Zm (i := 27) (N := some 40) (v := undef) (a' := ?_) (Bm23 50 268435455) rfl rfl (Zj HT_.out (by kernel_rfl)) (fun _ _ _ h => h) (Or.inr ⟨by rfl, rfl⟩) ?_ ?_; rotate_left
       ·simp only [Act.put, Sa23, Sb23, Sc23, Zk, Zl]; rfl
       refine Zm (i := 28) (N := some 41) (v := undef) (a' := ?_) (Bm23 50 536870911) rfl rfl (Zj HT_.out (by kernel_rfl)) (fun _ _ _ h => h) (Or.inr ⟨by rfl, rfl⟩) ?_ ?_; rotate_left
       ·simp only [Act.put, Sa23, Sb23, Sc23, Zk, Zl]; rfl
       refine Zm (i := 29) (N := some 42) (v := undef) (a' := ?_) (Bm23 50 1073741823) rfl rfl (Zj HT_.out (by kernel_rfl)) (fun _ _ _ h => h) (Or.inr ⟨by rfl, rfl⟩) ?_ ?_; rotate_left
       ·simp only [Act.put, Sa23, Sb23, Sc23, Zk, Zl]; rfl
       refine Zm (i := 30) (N := some 43) (v := ?_) (a' := ?_) (Bm23 50 2147483647) rfl rfl (Zj HT_.out (by kernel_rfl)) (fun _ _ _ h => h) (Or.inl ⟨by rfl, ?_⟩) ?_ ?_; rotate_left
       ·intro w'; go_simp; with_reducible rfl
       rotate_left
       ·simp only [Act.put, Sa23, Sb23, Sc23, Zk, Zl]; rfl
       refine Zm (i := 31) (N := some 44) (v := ?_) (a' := ?_) (Bm23 50 4294967295) rfl rfl (Zj HT_.out (by kernel_rfl)) (fun _ _ _ h => h) (Or.inl ⟨by rfl, ?_⟩) ?_ ?_; rotate_left
       ·intro w'; go_simp; with_reducible rfl
       rotate_left
       ·simp only [Act.put, Sa23, Sb23, Sc23, Zk, Zl]; rfl
       refine Zm (i := 32) (N := some 45) (v := ?_) (a' := ?_) (Bm23 50 8589934591) rfl rfl (Zj HT_.out (by kernel_rfl)) (fun _ _ _ h => h) (Or.inl ⟨by rfl, ?_⟩) ?_ ?_; rotate_left
       ·intro w'; go_simp; with_reducible rfl
       rotate_left
       ·simp only [Act.put, Sa23, Sb23, Sc23, Zk, Zl]; rfl
       refine Zm (i := 33) (N := some 46) (v := ?_) (a' := ?_) (Bm23 50 17179869183) rfl rfl (Zj HT_.out (by kernel_rfl)) (fun _ _ _ h => h) (Or.inl ⟨by rfl, ?_⟩) ?_ ?_; rotate_left
       ·intro w'; go_simp; with_reducible rfl
       rotate_left
       ·simp only [Act.put, Sa23, Sb23, Sc23, Zk, Zl]; rfl
       refine Zm (i := 35) (N := some 48) (v := ?_) (a' := ?_) (Bm23 50 51539607551) rfl rfl (Zj HT_.out (by kernel_rfl)) (fun _ _ _ h => h) (Or.inl ⟨by rfl, ?_⟩) ?_ ?_; rotate_left
       ·intro w'; go_simp; with_reducible rfl
       rotate_left
       ·simp only [Act.put, Sa23, Sb23, Sc23, Zk, Zl]; rfl
       refine take_ (i := 34) (N := some 47) (v := ?_) (a' := ?_) (Bm23 50 68719476735) rfl rfl (Zr HT_.out HW_.out (by kernel_rfl)) (fun _ _ _ h => h) (Or.inl ⟨by rfl, ?_⟩) hHeld ?_ ?_; rotate_left
       ·rintro w' ⟨s0, s1, s2, s3, s4, s5, s6, s7, s8, s9⟩
        go_simp; with_reducible rfl
       rotate_left
       ·simp only [Act.put, Sa23, Sb23, Sc23, Zk, Zl]; rfl
       refine Zm (i := 36) (N := some 49) (v := ?_) (a' := ?_) (Bm23 50 137438953471) rfl rfl (Zj HT_.out (by kernel_rfl)) (fun _ _ _ h => h) (Or.inl ⟨by rfl, ?_⟩) ?_ ?_; rotate_left
       ·intro w'; go_simp; with_reducible rfl
       rotate_left
       ·simp only [Act.put, Sa23, Sb23, Sc23, Zk, Zl]; rfl
       refine take_ (i := 37) (N := some 50) (v := ?_) (a' := ?_) (Bm23 50 274877906943) rfl rfl (Zr HT_.out HW_.out (by kernel_rfl)) (fun _ _ _ h => h) (Or.inl ⟨by rfl, ?_⟩) hHeld ?_ ?_; rotate_left
       ·rintro w' ⟨s0, s1, s2, s3, s4, s5, s6, s7, s8, s9⟩
        go_simp; with_reducible rfl
       rotate_left
       ·simp only [Act.put, Sa23, Sb23, Sc23, Zk, Zl]; rfl
       refine Zm (i := 38) (N := some 51) (v := ?_) (a' := ?_) (Bm23 50 549755813887) rfl rfl (Zj HT_.out (by kernel_rfl)) (fun _ _ _ h => h) (Or.inl ⟨by rfl, ?_⟩) ?_ ?_; rotate_left
       ·intro w'; go_simp; with_reducible rfl
       rotate_left
       ·simp only [Act.put, Sa23, Sb23, Sc23, Zk, Zl]; rfl
       refine Zm (i := 39) (N := some 52) (v := ?_) (a' := ?_) (Bm23 50 1099511627775) rfl rfl (Zj HT_.out (by kernel_rfl)) (fun _ _ _ h => h) (Or.inl ⟨by rfl, ?_⟩) ?_ ?_; rotate_left
       ·intro w'; go_simp; with_reducible rfl
       rotate_left
       ·simp only [Act.put, Sa23, Sb23, Sc23, Zk, Zl]; rfl
       refine Zm (i := 40) (N := some 53) (v := ?_) (a' := ?_) (Bm23 50 2199023255551) rfl rfl (Zj HT_.out (by kernel_rfl)) (fun _ _ _ h => h) (Or.inl ⟨by rfl, ?_⟩) ?_ ?_; rotate_left
       ·intro w'; go_simp; with_reducible rfl
       rotate_left
       ·simp only [Act.put, Sa23, Sb23, Sc23, Zk, Zl]; rfl
       refine Zm (i := 41) (N := some 54) (v := undef) (a' := ?_) (Bm23 50 4398046511103) rfl rfl (Zj HT_.out (by kernel_rfl)) (fun _ _ _ h => h) (Or.inr ⟨by rfl, rfl⟩) ?_ ?_; rotate_left
       ·simp only [Act.put, Sa23, Sb23, Sc23, Zk, Zl]; rfl
       refine Zm (i := 42) (N := some 55) (v := undef) (a' := ?_) (Bm23 50 8796093022207) rfl rfl (Zj HT_.out (by kernel_rfl)) (fun _ _ _ h => h) (Or.inr ⟨by rfl, rfl⟩) ?_ ?_; rotate_left
       ·simp only [Act.put, Sa23, Sb23, Sc23, Zk, Zl]; rfl
       refine Zm (i := 43) (N := some 56) (v := undef) (a' := ?_) (Bm23 50 17592186044415) rfl rfl (Zj HT_.out (by kernel_rfl)) (fun _ _ _ h => h) (Or.inr ⟨by rfl, rfl⟩) ?_ ?_; rotate_left
       ·simp only [Act.put, Sa23, Sb23, Sc23, Zk, Zl]; rfl
       refine Zm (i := 44) (N := some 57) (v := undef) (a' := ?_) (Bm23 50 35184372088831) rfl rfl (Zj HT_.out (by kernel_rfl)) (fun _ _ _ h => h) (Or.inr ⟨by rfl, rfl⟩) ?_ ?_; rotate_left
       ·simp only [Act.put, Sa23, Sb23, Sc23, Zk, Zl]; rfl
       refine Zm (i := 45) (N := some 58) (v := undef) (a' := ?_) (Bm23 50 70368744177663) rfl rfl (Zj HT_.out (by kernel_rfl)) (fun _ _ _ h => h) (Or.inr ⟨by rfl, rfl⟩) ?_ ?_; rotate_left
       ·simp only [Act.put, Sa23, Sb23, Sc23, Zk, Zl]; rfl
       refine Zm (i := 46) (N := some 59) (v := undef) (a' := ?_) (Bm23 50 140737488355327) rfl rfl (Zj HT_.out (by kernel_rfl)) (fun _ _ _ h => h) (Or.inr ⟨by rfl, rfl⟩) ?_ ?_; rotate_left
       ·simp only [Act.put, Sa23, Sb23, Sc23, Zk, Zl]; rfl
       refine Zm (i := 47) (N := some 60) (v := undef) (a' := ?_) (Bm23 50 281474976710655) rfl rfl (Zj HT_.out (by kernel_rfl)) (fun _ _ _ h => h) (Or.inr ⟨by rfl, rfl⟩) ?_ ?_; rotate_left
       ·simp only [Act.put, Sa23, Sb23, Sc23, Zk, Zl]; rfl
       refine Zm (i := 48) (N := some 61) (v := undef) (a' := ?_) (Bm23 50 562949953421311) rfl rfl (Zj HT_.out (by kernel_rfl)) (fun _ _ _ h => h) (Or.inr ⟨by rfl, rfl⟩) ?_ ?_; rotate_left
       ·simp only [Act.put, Sa23, Sb23, Sc23, Zk, Zl]; rfl
       refine Zm (i := 49) (N := some 62) (v := ?_) (a' := ?_) (Bm23 50 1125899906842623) rfl rfl (Zj HT_.out (by kernel_rfl)) (fun _ _ _ h => h) (Or.inl ⟨by rfl, ?_⟩) ?_ ?_; rotate_left
       ·intro w'; go_simp; with_reducible rfl
       rotate_left
       ·simp only [Act.put, Sa23, Sb23, Sc23, Zk, Zl]; rfl
       refine done_ (done_of HT_.out (by kernel_rfl)) ?_; try go_wp2
       go_meet
       case rel => (try simp only [← Nbq15.out]); exact ⟨_, (true), (by first | rfl | (simp; done) | (simp [*]; done)), H', ⟨by first | omega | exact Nat.le_refl _⟩, ⟨by (with_reducible repeat (first | refine Zh ?_ _ | refine Zi ?_ | refine Zf ?_ _)); exact BK101.out⟩, ⟨by (with_reducible repeat (first | refine Zh ?_ _ | refine Zi ?_ | refine Zf ?_ _)); exact BK103.out⟩, ⟨by repeat (first | (with_reducible first | exact HB.out | apply Ze | apply Za | apply Zd | refine Zg ?_ GE101.out | refine Zg ?_ GE103.out) | exact HB.out)⟩⟩
     ·replace c16 := Bool.eq_false_iff.mpr c16; subst c16; rw [if_neg (show ¬ (false = true) by decide)] at H; by_cases c24 : ((rd_T76 l0_2 a1).f1) = 0
      ·rw [if_pos c24] at H; have c24b0 : (((rd_T76 l0_2 a1).f1) == 0) = true := beq_iff_eq.mpr c24; have c24b1 : (((rd_T76 l0_2 a1).f1) != 0) = false := bne_eq_false_iff_eq.mpr c24; clear c24; by_cases c25 : a1 < (((rd_T76 l0_2 a1).f2).length : Int)
       case neg => rw [if_neg c25] at H; exact absurd H (by simp)
       rw [if_pos c25] at H; have c25b0 : decide (a1 < (((rd_T76 l0_2 a1).f2).length : Int)) = true := decide_eq_true c25; clear c25; by_cases c26 : (rd ((rd_T76 l0_2 a1).f2) a1) = 0
       ·rw [if_pos c26] at H; have c26b0 : ((rd ((rd_T76 l0_2 a1).f2) a1) == 0) = true := beq_iff_eq.mpr c26; have c26b1 : ((rd ((rd_T76 l0_2 a1).f2) a1) != 0) = false := bne_eq_false_iff_eq.mpr c26; clear c26; by_cases c27 : a1 < (((rd_T76 l0_2 a1).f3).length : Int)
        case neg => rw [if_neg c27] at H; exact absurd H (by simp)
        rw [if_pos c27] at H; have c27b0 : decide (a1 < (((rd_T76 l0_2 a1).f3).length : Int)) = true := decide_eq_true c27; clear c27; have H' := Aside0.mk H; clear H; try go_wp2
        (try rw [← Nbq15.out])
        have n0_ : Aside0 (((((w8.setCell ⟨gb103, 0, none⟩ (.bool (false))).setCell ⟨gb103, 1, none⟩ (.int .i64 ((rd_T76 l0_2 a1).f1))).setCell ⟨gb103, 2, none⟩ (.slice A102_2 ((rd_T76 l0_2 a1).f2).length c102_2)).setCell ⟨gb103, 3, none⟩ (.slice A102_3 ((rd_T76 l0_2 a1).f3).length c102_3)).heap[gb101]? = some (.cells #[.slice A0_0 l0_0.length c0_0, .slice A0_1 l0_1.length c0_1, .slice (some ad102) l0_2.length c0_2, .int .i64 a0_3, .int .i64 a0_4] 35 (0, 0))) := ⟨by (with_reducible repeat (first | refine Zh ?_ _ | refine Zi ?_ | refine Zf ?_ _)); refine Zs ?_ NB101_103.out _; (with_reducible repeat (first | refine Zh ?_ _ | refine Zi ?_ | refine Zf ?_ _)); refine Zs ?_ NB101_103.out _; (with_reducible repeat (first | refine Zh ?_ _ | refine Zi ?_ | refine Zf ?_ _)); refine Zs ?_ NB101_103.out _; (with_reducible repeat (first | refine Zh ?_ _ | refine Zi ?_ | refine Zf ?_ _)); refine Zs ?_ NB101_103.out _; (with_reducible repeat (first | refine Zh ?_ _ | refine Zi ?_ | refine Zf ?_ _)); exact BK101.out⟩
        have n1_ : Aside0 (((((w8.setCell ⟨gb103, 0, none⟩ (.bool (false))).setCell ⟨gb103, 1, none⟩ (.int .i64 ((rd_T76 l0_2 a1).f1))).setCell ⟨gb103, 2, none⟩ (.slice A102_2 ((rd_T76 l0_2 a1).f2).length c102_2)).setCell ⟨gb103, 3, none⟩ (.slice A102_3 ((rd_T76 l0_2 a1).f3).length c102_3)).heap[gb103]? = some (.cells #[.bool false, .int .i64 ((rd_T76 l0_2 a1).f1), .slice A102_2 ((rd_T76 l0_2 a1).f2).length c102_2, .slice A102_3 ((rd_T76 l0_2 a1).f3).length c102_3] 76 (0, 0))) := ⟨by (with_reducible repeat (first | refine Zh ?_ _ | refine Zi ?_ | refine Zf ?_ _)); refine Zt (cs := #[.bool (false), .int .i64 ((rd_T76 l0_2 a1).f1), .slice A102_2 ((rd_T76 l0_2 a1).f2).length c102_2, .slice none 0 0]) ?_ 3 _ rfl; (with_reducible repeat (first | refine Zh ?_ _ | refine Zi ?_ | refine Zf ?_ _)); refine Zt (cs := #[.bool (false), .int .i64 ((rd_T76 l0_2 a1).f1), .slice none 0 0, .slice none 0 0]) ?_ 2 _ rfl; (with_reducible repeat (first | refine Zh ?_ _ | refine Zi ?_ | refine Zf ?_ _)); refine Zt (cs := #[.bool (false), .int .i64 0, .slice none 0 0, .slice none 0 0]) ?_ 1 _ rfl; (with_reducible repeat (first | refine Zh ?_ _ | refine Zi ?_ | refine Zf ?_ _)); refine Zt (cs := #[.bool false, .int .i64 0, .slice none 0 0, .slice none 0 0]) ?_ 0 _ rfl; (with_reducible repeat (first | refine Zh ?_ _ | refine Zi ?_ | refine Zf ?_ _)); exact BK103.out⟩
        have n2_ : Aside0 (Below w.heap.size w ((((w8.setCell ⟨gb103, 0, none⟩ (.bool (false))).setCell ⟨gb103, 1, none⟩ (.int .i64 ((rd_T76 l0_2 a1).f1))).setCell ⟨gb103, 2, none⟩ (.slice A102_2 ((rd_T76 l0_2 a1).f2).length c102_2)).setCell ⟨gb103, 3, none⟩ (.slice A102_3 ((rd_T76 l0_2 a1).f3).length c102_3))) := ⟨by repeat (first | (with_reducible first | exact HB.out | apply Ze | apply Za | apply Zd | refine Zg ?_ GE101.out | refine Zg ?_ GE103.out) | exact HB.out)⟩
        (try clear BK101)
        (try clear BK103)
        (try clear HB)
        generalize ((((w8.setCell ⟨gb103, 0, none⟩ (.bool (false))).setCell ⟨gb103, 1, none⟩ (.int .i64 ((rd_T76 l0_2 a1).f1))).setCell ⟨gb103, 2, none⟩ (.slice A102_2 ((rd_T76 l0_2 a1).f2).length c102_2)).setCell ⟨gb103, 3, none⟩ (.slice A102_3 ((rd_T76 l0_2 a1).f3).length c102_3)) = w28 at n0_ n1_ n2_ ⊢; have BK101 := n0_; have BK103 := n1_; have HB := n2_; clear n0_ n1_ n2_; have n0_ := Aside0.mk (Zi BK101.out); have n1_ := Aside0.mk (Zi BK103.out); have n2_ := Aside0.mk (Zd HB.out); clear BK101; clear BK103; clear HB; have BK101 := n0_; have BK103 := n1_; have HB := n2_; clear n0_ n1_ n2_; have p107 : 0 ≤ (a1 : Int) := of_decide_eq_true (by assumption); have q107 : a1 < (((rd_T76 l0_2 a1).f2).length : Int) := of_decide_eq_true (by assumption); obtain ⟨ad107, e107, hx107_0⟩ := Kd.at_int HR102_2.out a1 p107 q107; have hw107_0 := hx107_0; cases e107; replace hx107_0 := (HB.out.cell (World.block_lt_of_cell? w _ hx107_0)).trans hx107_0; replace p107 := eq_true p107; replace q107 := eq_true q107; have p108 : 0 ≤ (a1 : Int) := of_decide_eq_true (by assumption); have q108 : a1 < (((rd_T76 l0_2 a1).f3).length : Int) := of_decide_eq_true (by assumption); obtain ⟨ad108, e108, hx108_0⟩ := Kd.at_bool HR102_3.out a1 p108 q108; have hw108_0 := hx108_0
        (try rw [← Nbq15.out] at hx108_0)
        cases e108; replace hx108_0 := (HB.out.cell (World.block_lt_of_cell? w _ hx108_0)).trans hx108_0; replace p108 := eq_true p108; replace q108 := eq_true q108; refine start_ (n := 50) (S := fun w' => w'.cell? ⟨gb103, 0, none⟩ = some (.bool false) ∧ w'.cell? ⟨gb103, 1, none⟩ = some (.int .i64 ((rd_T76 l0_2 a1).f1)) ∧ w'.cell? ⟨gb103, 2, none⟩ = some (.slice (some ad107) ((rd_T76 l0_2 a1).f2).length c102_2) ∧ w'.cell? ⟨gb103, 3, none⟩ = some (.slice (some ad108) ((rd_T76 l0_2 a1).f3).length c102_3) ∧ w'.cell? ⟨gb101, 0, none⟩ = some (.slice A0_0 l0_0.length c0_0) ∧ w'.cell? ⟨gb101, 1, none⟩ = some (.slice A0_1 l0_1.length c0_1) ∧ w'.cell? ⟨gb101, 2, none⟩ = some (.slice (some ad102) l0_2.length c0_2) ∧ w'.cell? ⟨gb101, 3, none⟩ = some (.int .i64 a0_3) ∧ w'.cell? ⟨gb101, 4, none⟩ = some (.int .i64 a0_4) ∧ w'.cell? (ad107.add (a1).toNat) = some (.int .i64 (rd ((rd_T76 l0_2 a1).f2) a1)) ∧ w'.cell? (ad108.add (a1).toNat) = some (.bool (rdOf false ((rd_T76 l0_2 a1).f3) a1))) (ds := []) #[false, false, false, false, false, false, false, false, false, false, false, false, false, false, false, false, false, false, false, false, false, false, false, false, false, false, false, false, false, false, false, false, false, false, false, false, false, false, false, false, false, false, false, false, false, false, false, false, false, false] (by kernel_rfl) rfl rfl ⟨(Zb BK103.out 0).trans rfl, (Zb BK103.out 1).trans rfl, (Zb BK103.out 2).trans rfl, (Zb BK103.out 3).trans rfl, (Zb BK101.out 0).trans rfl, (Zb BK101.out 1).trans rfl, (Zb BK101.out 2).trans rfl, (Zb BK101.out 3).trans rfl, (Zb BK101.out 4).trans rfl, ((HB.out.cell (World.block_lt_of_cell? w _ hw107_0)).trans hw107_0), ((HB.out.cell (World.block_lt_of_cell? w _ hw108_0)).trans hw108_0)⟩ (fun hHeld => ?_); refine with_tabW spec_l8Picture.tab2 spec_l8Picture.bits2 (fun HT_ HW_ => ?_)
        generalize w28.drew = w29 at BK101 BK103 HB hx107_0 hx108_0 hHeld ⊢; refine Zm (i := 0) (N := some 13) (v := ?_) (a' := ?_) (Bm23 50 1) rfl rfl (Zj HT_.out (by kernel_rfl)) (fun _ _ _ h => h) (Or.inl ⟨by rfl, ?_⟩) ?_ ?_; rotate_left
        ·intro w'; go_simp; with_reducible rfl
        rotate_left
        ·simp only [Act.put, Sa23, Sb23, Sc23, Zk, Zl]; rfl
        refine Zm (i := 3) (N := some 16) (v := ?_) (a' := ?_) (Bm23 50 9) rfl rfl (Zj HT_.out (by kernel_rfl)) (fun _ _ _ h => h) (Or.inl ⟨by rfl, ?_⟩) ?_ ?_; rotate_left
        ·intro w'; go_simp; with_reducible rfl
        rotate_left
        ·simp only [Act.put, Sa23, Sb23, Sc23, Zk, Zl]; rfl
        refine take_ (i := 1) (N := some 14) (v := ?_) (a' := ?_) (Bm23 50 11) rfl rfl (Zr HT_.out HW_.out (by kernel_rfl)) (fun _ _ _ h => h) (Or.inl ⟨by rfl, ?_⟩) hHeld ?_ ?_; rotate_left
        ·rintro w' ⟨s0, s1, s2, s3, s4, s5, s6, s7, s8, s9, s10⟩
         go_simp; with_reducible rfl
        rotate_left
        ·simp only [Act.put, Sa23, Sb23, Sc23, Zk, Zl]; rfl
        refine Zm (i := 2) (N := some 15) (v := ?_) (a' := ?_) (Bm23 50 15) rfl rfl (Zj HT_.out (by kernel_rfl)) (fun _ _ _ h => h) (Or.inl ⟨by rfl, ?_⟩) ?_ ?_; rotate_left
        ·intro w'; go_simp; with_reducible rfl
        rotate_left
        ·simp only [Act.put, Sa23, Sb23, Sc23, Zk, Zl]; rfl
        refine take_ (i := 4) (N := some 17) (v := ?_) (a' := ?_) (Bm23 50 31) rfl rfl (Zr HT_.out HW_.out (by kernel_rfl)) (fun _ _ _ h => h) (Or.inl ⟨by rfl, ?_⟩) hHeld ?_ ?_; rotate_left
        ·rintro w' ⟨s0, s1, s2, s3, s4, s5, s6, s7, s8, s9, s10⟩
         go_simp; with_reducible rfl
        rotate_left
        ·simp only [Act.put, Sa23, Sb23, Sc23, Zk, Zl]; rfl
        refine Zm (i := 5) (N := some 18) (v := ?_) (a' := ?_) (Bm23 50 63) rfl rfl (Zj HT_.out (by kernel_rfl)) (fun _ _ _ h => h) (Or.inl ⟨by rfl, ?_⟩) ?_ ?_; rotate_left
        ·intro w'; go_simp; with_reducible rfl
        rotate_left
        ·simp only [Act.put, Sa23, Sb23, Sc23, Zk, Zl]; rfl
        refine Zm (i := 6) (N := some 19) (v := ?_) (a' := ?_) (Bm23 50 127) rfl rfl (Zj HT_.out (by kernel_rfl)) (fun _ _ _ h => h) (Or.inl ⟨by rfl, ?_⟩) ?_ ?_; rotate_left
        ·intro w'; go_simp; with_reducible rfl
        rotate_left
        ·simp only [Act.put, Sa23, Sb23, Sc23, Zk, Zl]; rfl
        refine Zm (i := 7) (N := some 20) (v := ?_) (a' := ?_) (Bm23 50 255) rfl rfl (Zj HT_.out (by kernel_rfl)) (fun _ _ _ h => h) (Or.inl ⟨by rfl, ?_⟩) ?_ ?_; rotate_left
        ·intro w'; go_simp; with_reducible rfl
        rotate_left
        ·simp only [Act.put, Sa23, Sb23, Sc23, Zk, Zl]; rfl
        refine Zm (i := 8) (N := some 21) (v := ?_) (a' := ?_) (Bm23 50 511) rfl rfl (Zj HT_.out (by kernel_rfl)) (fun _ _ _ h => h) (Or.inl ⟨by rfl, ?_⟩) ?_ ?_; rotate_left
        ·intro w'; go_simp; with_reducible rfl
        rotate_left
        ·simp only [Act.put, Sa23, Sb23, Sc23, Zk, Zl]; rfl
        refine Zm (i := 11) (N := some 24) (v := ?_) (a' := ?_) (Bm23 50 2559) rfl rfl (Zj HT_.out (by kernel_rfl)) (fun _ _ _ h => h) (Or.inl ⟨by rfl, ?_⟩) ?_ ?_; rotate_left
        ·intro w'; go_simp; with_reducible rfl
        rotate_left
        ·simp only [Act.put, Sa23, Sb23, Sc23, Zk, Zl]; rfl
        refine take_ (i := 9) (N := some 22) (v := ?_) (a' := ?_) (Bm23 50 3071) rfl rfl (Zr HT_.out HW_.out (by kernel_rfl)) (fun _ _ _ h => h) (Or.inl ⟨by rfl, ?_⟩) hHeld ?_ ?_; rotate_left
        ·rintro w' ⟨s0, s1, s2, s3, s4, s5, s6, s7, s8, s9, s10⟩
         go_simp; with_reducible rfl
        rotate_left
        ·simp only [Act.put, Sa23, Sb23, Sc23, Zk, Zl]; rfl
        refine Zm (i := 10) (N := some 23) (v := ?_) (a' := ?_) (Bm23 50 4095) rfl rfl (Zj HT_.out (by kernel_rfl)) (fun _ _ _ h => h) (Or.inl ⟨by rfl, ?_⟩) ?_ ?_; rotate_left
        ·intro w'; go_simp; with_reducible rfl
        rotate_left
        ·simp only [Act.put, Sa23, Sb23, Sc23, Zk, Zl]; rfl
        refine take_ (i := 12) (N := some 25) (v := ?_) (a' := ?_) (Bm23 50 8191) rfl rfl (Zr HT_.out HW_.out (by kernel_rfl)) (fun _ _ _ h => h) (Or.inl ⟨by rfl, ?_⟩) hHeld ?_ ?_; rotate_left
        ·rintro w' ⟨s0, s1, s2, s3, s4, s5, s6, s7, s8, s9, s10⟩
         go_simp; with_reducible rfl
        rotate_left
        ·simp only [Act.put, Sa23, Sb23, Sc23, Zk, Zl]; rfl
        refine Zm (i := 13) (N := some 26) (v := ?_) (a' := ?_) (Bm23 50 16383) rfl rfl (Zj HT_.out (by kernel_rfl)) (fun _ _ _ h => h) (Or.inl ⟨by rfl, ?_⟩) ?_ ?_; rotate_left
        ·intro w'; go_simp; with_reducible rfl
        rotate_left
        ·simp only [Act.put, Sa23, Sb23, Sc23, Zk, Zl]; rfl
        refine Zm (i := 14) (N := some 27) (v := ?_) (a' := ?_) (Bm23 50 32767) rfl rfl (Zj HT_.out (by kernel_rfl)) (fun _ _ _ h => h) (Or.inl ⟨by rfl, ?_⟩) ?_ ?_; rotate_left
        ·intro w'; go_simp; with_reducible rfl
        rotate_left
        ·simp only [Act.put, Sa23, Sb23, Sc23, Zk, Zl]; rfl
        refine Zm (i := 15) (N := some 28) (v := ?_) (a' := ?_) (Bm23 50 65535) rfl rfl (Zj HT_.out (by kernel_rfl)) (fun _ _ _ h => h) (Or.inl ⟨by rfl, ?_⟩) ?_ ?_; rotate_left
        ·intro w'; go_simp; with_reducible rfl
        rotate_left
        ·simp only [Act.put, Sa23, Sb23, Sc23, Zk, Zl]; rfl
        refine Zm (i := 16) (N := some 29) (v := ?_) (a' := ?_) (Bm23 50 131071) rfl rfl (Zj HT_.out (by kernel_rfl)) (fun _ _ _ h => h) (Or.inl ⟨by rfl, ?_⟩) ?_ ?_; rotate_left
        ·intro w'; go_simp; with_reducible rfl
        rotate_left
        ·simp only [Act.put, Sa23, Sb23, Sc23, Zk, Zl]; rfl
        refine Zm (i := 17) (N := some 30) (v := ?_) (a' := ?_) (Bm23 50 262143) rfl rfl (Zj HT_.out (by kernel_rfl)) (fun _ _ _ h => h) (Or.inl ⟨by rfl, ?_⟩) ?_ ?_; rotate_left
        ·intro w'; go_simp; with_reducible rfl
        rotate_left
        ·simp only [Act.put, Sa23, Sb23, Sc23, Zk, Zl]; rfl
        refine take_ (i := 18) (N := some 31) (v := ?_) (a' := ?_) (Bm23 50 524287) rfl rfl (Zr HT_.out HW_.out (by kernel_rfl)) (fun _ _ _ h => h) (Or.inl ⟨by rfl, ?_⟩) hHeld ?_ ?_; rotate_left
        ·rintro w' ⟨s0, s1, s2, s3, s4, s5, s6, s7, s8, s9, s10⟩
         go_simp; with_reducible rfl
        rotate_left
        ·simp only [Act.put, Sa23, Sb23, Sc23, Zk, Zl]; rfl
        refine one_ (i := 19) (N := some 32) (Bm23 50 1048575) rfl rfl (one_of HT_.out (by kernel_rfl)) (by decide) (fun K hK => ?_); refine goes_ Try.func43 (by kernel_rfl) rfl #[.int .i64 ((rd_T76 l0_2 a1).f1), .int .i64 0, .int .i64 1000] (by rfl) rfl rfl (by (try simp only [List.map_toArray, List.map_cons, List.map_nil]); first | done | rfl | (simp only [List.length_drop, List.length_take]; rfl)) ?_; with_reducible refine (spec_l1In.calls ((rd_T76 l0_2 a1).f1) 0 1000 true _ A13.out).mono ?_
        rintro e w' ⟨rfl, ⟨nd, rfl⟩⟩
        refine ⟨_, rfl, ?_⟩; refine hK.out _ _ ⟨(Zb BK103.out 0).trans rfl, (Zb BK103.out 1).trans rfl, (Zb BK103.out 2).trans rfl, (Zb BK103.out 3).trans rfl, (Zb BK101.out 0).trans rfl, (Zb BK101.out 1).trans rfl, (Zb BK101.out 2).trans rfl, (Zb BK101.out 3).trans rfl, (Zb BK101.out 4).trans rfl, ((HB.out.cell (World.block_lt_of_cell? w _ hw107_0)).trans hw107_0), ((HB.out.cell (World.block_lt_of_cell? w _ hw108_0)).trans hw108_0)⟩ (fun hHeld => ?_); clear hK K; refine norm_ (a' := ?_) ?_ ?_; rotate_left
        ·show Act.put _ (some 32) _ = _
         simp only [Act.put, Sa23, Sb23, Sc23, Zk, Zl]; rfl
        refine Zm (i := 20) (N := some 33) (v := ?_) (a' := ?_) (Bm23 50 2097151) rfl rfl (Zj HT_.out (by kernel_rfl)) (fun _ _ _ h => h) (Or.inl ⟨by rfl, ?_⟩) ?_ ?_; rotate_left
        ·intro w'; go_simp; with_reducible rfl
        rotate_left
        ·simp only [Act.put, Sa23, Sb23, Sc23, Zk, Zl]; rfl
        refine Zm (i := 21) (N := some 34) (v := ?_) (a' := ?_) (Bm23 50 4194303) rfl rfl (Zj HT_.out (by kernel_rfl)) (fun _ _ _ h => h) (Or.inl ⟨by rfl, ?_⟩) ?_ ?_; rotate_left
        ·intro w'; go_simp; with_reducible rfl
        rotate_left
        ·simp only [Act.put, Sa23, Sb23, Sc23, Zk, Zl]; rfl
        refine Zm (i := 22) (N := some 35) (v := ?_) (a' := ?_) (Bm23 50 8388607) rfl rfl (Zj HT_.out (by kernel_rfl)) (fun _ _ _ h => h) (Or.inl ⟨by rfl, ?_⟩) ?_ ?_; rotate_left
        ·intro w'; go_simp; with_reducible rfl
        rotate_left
        ·simp only [Act.put, Sa23, Sb23, Sc23, Zk, Zl]; rfl
        refine Zm (i := 23) (N := some 36) (v := ?_) (a' := ?_) (Bm23 50 16777215) rfl rfl (Zj HT_.out (by kernel_rfl)) (fun _ _ _ h => h) (Or.inl ⟨by rfl, ?_⟩) ?_ ?_; rotate_left
        ·intro w'; go_simp; with_reducible rfl
        rotate_left
        ·simp only [Act.put, Sa23, Sb23, Sc23, Zk, Zl]; rfl
        refine take_ (i := 24) (N := some 37) (v := ?_) (a' := ?_) (Bm23 50 33554431) rfl rfl (Zr HT_.out HW_.out (by kernel_rfl)) (fun _ _ _ h => h) (Or.inl ⟨by rfl, ?_⟩) hHeld ?_ ?_; rotate_left
        ·rintro w' ⟨s0, s1, s2, s3, s4, s5, s6, s7, s8, s9, s10⟩
         go_simp; with_reducible rfl
        rotate_left
        ·simp only [Act.put, Sa23, Sb23, Sc23, Zk, Zl]; rfl
        refine Zm (i := 25) (N := some 38) (v := ?_) (a' := ?_) (Bm23 50 67108863) rfl rfl (Zj HT_.out (by kernel_rfl)) (fun _ _ _ h => h) (Or.inl ⟨by rfl, ?_⟩) ?_ ?_; rotate_left
        ·intro w'; go_simp; with_reducible rfl
        rotate_left
        ·simp only [Act.put, Sa23, Sb23, Sc23, Zk, Zl]; rfl
        refine Zm (i := 26) (N := some 39) (v := ?_) (a' := ?_) (Bm23 50 134217727) rfl rfl (Zj HT_.out (by kernel_rfl)) (fun _ _ _ h => h) (Or.inl ⟨by rfl, ?_⟩) ?_ ?_; rotate_left
        ·intro w'; go_simp; with_reducible rfl
        rotate_left
        ·simp only [Act.put, Sa23, Sb23, Sc23, Zk, Zl]; rfl
        refine Zm (i := 27) (N := some 40) (v := ?_) (a' := ?_) (Bm23 50 268435455) rfl rfl (Zj HT_.out (by kernel_rfl)) (fun _ _ _ h => h) (Or.inl ⟨by rfl, ?_⟩) ?_ ?_; rotate_left
        ·intro w'; go_simp; with_reducible rfl
        rotate_left
        ·simp only [Act.put, Sa23, Sb23, Sc23, Zk, Zl]; rfl
        refine take_ (i := 28) (N := some 41) (v := ?_) (a' := ?_) (Bm23 50 536870911) rfl rfl (Zr HT_.out HW_.out (by kernel_rfl)) (fun _ _ _ h => h) (Or.inl ⟨by rfl, ?_⟩) hHeld ?_ ?_; rotate_left
        ·rintro w' ⟨s0, s1, s2, s3, s4, s5, s6, s7, s8, s9, s10⟩
         go_simp; with_reducible rfl
        rotate_left
        ·simp only [Act.put, Sa23, Sb23, Sc23, Zk, Zl]; rfl
        refine Zm (i := 29) (N := some 42) (v := ?_) (a' := ?_) (Bm23 50 1073741823) rfl rfl (Zj HT_.out (by kernel_rfl)) (fun _ _ _ h => h) (Or.inl ⟨by rfl, ?_⟩) ?_ ?_; rotate_left
        ·intro w'; go_simp; with_reducible rfl
        rotate_left
        ·simp only [Act.put, Sa23, Sb23, Sc23, Zk, Zl]; rfl
        refine Zm (i := 30) (N := some 43) (v := ?_) (a' := ?_) (Bm23 50 2147483647) rfl rfl (Zj HT_.out (by kernel_rfl)) (fun _ _ _ h => h) (Or.inl ⟨by rfl, ?_⟩) ?_ ?_; rotate_left
        ·intro w'; go_simp; with_reducible rfl
        rotate_left
        ·simp only [Act.put, Sa23, Sb23, Sc23, Zk, Zl]; rfl
        refine Zm (i := 31) (N := some 44) (v := ?_) (a' := ?_) (Bm23 50 4294967295) rfl rfl (Zj HT_.out (by kernel_rfl)) (fun _ _ _ h => h) (Or.inl ⟨by rfl, ?_⟩) ?_ ?_; rotate_left
        ·intro w'; go_simp; with_reducible rfl
        rotate_left
        ·simp only [Act.put, Sa23, Sb23, Sc23, Zk, Zl]; rfl
        refine Zm (i := 32) (N := some 45) (v := ?_) (a' := ?_) (Bm23 50 8589934591) rfl rfl (Zj HT_.out (by kernel_rfl)) (fun _ _ _ h => h) (Or.inl ⟨by rfl, ?_⟩) ?_ ?_; rotate_left
        ·intro w'; go_simp; with_reducible rfl
        rotate_left
        ·simp only [Act.put, Sa23, Sb23, Sc23, Zk, Zl]; rfl
        refine Zm (i := 33) (N := some 46) (v := ?_) (a' := ?_) (Bm23 50 17179869183) rfl rfl (Zj HT_.out (by kernel_rfl)) (fun _ _ _ h => h) (Or.inl ⟨by rfl, ?_⟩) ?_ ?_; rotate_left
        ·intro w'; go_simp; with_reducible rfl
        rotate_left
        ·simp only [Act.put, Sa23, Sb23, Sc23, Zk, Zl]; rfl
        refine Zm (i := 35) (N := some 48) (v := ?_) (a' := ?_) (Bm23 50 51539607551) rfl rfl (Zj HT_.out (by kernel_rfl)) (fun _ _ _ h => h) (Or.inl ⟨by rfl, ?_⟩) ?_ ?_; rotate_left
        ·intro w'; go_simp; with_reducible rfl
        rotate_left
        ·simp only [Act.put, Sa23, Sb23, Sc23, Zk, Zl]; rfl
        refine take_ (i := 34) (N := some 47) (v := ?_) (a' := ?_) (Bm23 50 68719476735) rfl rfl (Zr HT_.out HW_.out (by kernel_rfl)) (fun _ _ _ h => h) (Or.inl ⟨by rfl, ?_⟩) hHeld ?_ ?_; rotate_left
        ·rintro w' ⟨s0, s1, s2, s3, s4, s5, s6, s7, s8, s9, s10⟩
         go_simp; with_reducible rfl
        rotate_left
        ·simp only [Act.put, Sa23, Sb23, Sc23, Zk, Zl]; rfl
        refine Zm (i := 36) (N := some 49) (v := ?_) (a' := ?_) (Bm23 50 137438953471) rfl rfl (Zj HT_.out (by kernel_rfl)) (fun _ _ _ h => h) (Or.inl ⟨by rfl, ?_⟩) ?_ ?_; rotate_left
        ·intro w'; go_simp; with_reducible rfl
        rotate_left
        ·simp only [Act.put, Sa23, Sb23, Sc23, Zk, Zl]; rfl
        refine take_ (i := 37) (N := some 50) (v := ?_) (a' := ?_) (Bm23 50 274877906943) rfl rfl (Zr HT_.out HW_.out (by kernel_rfl)) (fun _ _ _ h => h) (Or.inl ⟨by rfl, ?_⟩) hHeld ?_ ?_; rotate_left
        ·rintro w' ⟨s0, s1, s2, s3, s4, s5, s6, s7, s8, s9, s10⟩
         go_simp; with_reducible rfl
        rotate_left
        ·simp only [Act.put, Sa23, Sb23, Sc23, Zk, Zl]; rfl
        refine Zm (i := 38) (N := some 51) (v := ?_) (a' := ?_) (Bm23 50 549755813887) rfl rfl (Zj HT_.out (by kernel_rfl)) (fun _ _ _ h => h) (Or.inl ⟨by rfl, ?_⟩) ?_ ?_; rotate_left
        ·intro w'; go_simp; with_reducible rfl
        rotate_left
        ·simp only [Act.put, Sa23, Sb23, Sc23, Zk, Zl]; rfl
        refine Zm (i := 39) (N := some 52) (v := ?_) (a' := ?_) (Bm23 50 1099511627775) rfl rfl (Zj HT_.out (by kernel_rfl)) (fun _ _ _ h => h) (Or.inl ⟨by rfl, ?_⟩) ?_ ?_; rotate_left
        ·intro w'; go_simp; with_reducible rfl
        rotate_left
        ·simp only [Act.put, Sa23, Sb23, Sc23, Zk, Zl]; rfl
        refine Zm (i := 40) (N := some 53) (v := ?_) (a' := ?_) (Bm23 50 2199023255551) rfl rfl (Zj HT_.out (by kernel_rfl)) (fun _ _ _ h => h) (Or.inl ⟨by rfl, ?_⟩) ?_ ?_; rotate_left
        ·intro w'; go_simp; with_reducible rfl
        rotate_left
        ·simp only [Act.put, Sa23, Sb23, Sc23, Zk, Zl]; rfl
        refine Zm (i := 41) (N := some 54) (v := ?_) (a' := ?_) (Bm23 50 4398046511103) rfl rfl (Zj HT_.out (by kernel_rfl)) (fun _ _ _ h => h) (Or.inl ⟨by rfl, ?_⟩) ?_ ?_; rotate_left
        ·intro w'; go_simp; with_reducible rfl
        rotate_left
        ·simp only [Act.put, Sa23, Sb23, Sc23, Zk, Zl]; rfl
        refine Zm (i := 43) (N := some 56) (v := ?_) (a' := ?_) (Bm23 50 13194139533311) rfl rfl (Zj HT_.out (by kernel_rfl)) (fun _ _ _ h => h) (Or.inl ⟨by rfl, ?_⟩) ?_ ?_; rotate_left
        ·intro w'; go_simp; with_reducible rfl
        rotate_left
        ·simp only [Act.put, Sa23, Sb23, Sc23, Zk, Zl]; rfl
        refine Zm (i := 46) (N := some 59) (v := ?_) (a' := ?_) (Bm23 50 83562883710975) rfl rfl (Zj HT_.out (by kernel_rfl)) (fun _ _ _ h => h) (Or.inl ⟨by rfl, ?_⟩) ?_ ?_; rotate_left
        ·intro w'; go_simp; with_reducible rfl
        rotate_left
        ·simp only [Act.put, Sa23, Sb23, Sc23, Zk, Zl]; rfl
        refine take_ (i := 42) (N := some 55) (v := ?_) (a' := ?_) (Bm23 50 87960930222079) rfl rfl (Zr HT_.out HW_.out (by kernel_rfl)) (fun _ _ _ h => h) (Or.inl ⟨by rfl, ?_⟩) hHeld ?_ ?_; rotate_left
        ·rintro w' ⟨s0, s1, s2, s3, s4, s5, s6, s7, s8, s9, s10⟩
         go_simp; with_reducible rfl
        rotate_left
        ·simp only [Act.put, Sa23, Sb23, Sc23, Zk, Zl]; rfl
        refine Zm (i := 44) (N := some 57) (v := ?_) (a' := ?_) (Bm23 50 105553116266495) rfl rfl (Zj HT_.out (by kernel_rfl)) (fun _ _ _ h => h) (Or.inl ⟨by rfl, ?_⟩) ?_ ?_; rotate_left
        ·intro w'; go_simp; with_reducible rfl
        rotate_left
        ·simp only [Act.put, Sa23, Sb23, Sc23, Zk, Zl]; rfl
        refine take_ (i := 45) (N := some 58) (v := ?_) (a' := ?_) (Bm23 50 140737488355327) rfl rfl (Zr HT_.out HW_.out (by kernel_rfl)) (fun _ _ _ h => h) (Or.inl ⟨by rfl, ?_⟩) hHeld ?_ ?_; rotate_left
        ·rintro w' ⟨s0, s1, s2, s3, s4, s5, s6, s7, s8, s9, s10⟩
         go_simp; with_reducible rfl
        rotate_left
        ·simp only [Act.put, Sa23, Sb23, Sc23, Zk, Zl]; rfl
        refine take_ (i := 47) (N := some 60) (v := ?_) (a' := ?_) (Bm23 50 281474976710655) rfl rfl (Zr HT_.out HW_.out (by kernel_rfl)) (fun _ _ _ h => h) (Or.inl ⟨by rfl, ?_⟩) hHeld ?_ ?_; rotate_left
        ·rintro w' ⟨s0, s1, s2, s3, s4, s5, s6, s7, s8, s9, s10⟩
         go_simp; with_reducible rfl
        rotate_left
        ·simp only [Act.put, Sa23, Sb23, Sc23, Zk, Zl]; rfl
        refine Zm (i := 48) (N := some 61) (v := ?_) (a' := ?_) (Bm23 50 562949953421311) rfl rfl (Zj HT_.out (by kernel_rfl)) (fun _ _ _ h => h) (Or.inl ⟨by rfl, ?_⟩) ?_ ?_; rotate_left
        ·intro w'; go_simp; with_reducible rfl
        rotate_left
        ·simp only [Act.put, Sa23, Sb23, Sc23, Zk, Zl]; rfl
        refine Zm (i := 49) (N := some 62) (v := ?_) (a' := ?_) (Bm23 50 1125899906842623) rfl rfl (Zj HT_.out (by kernel_rfl)) (fun _ _ _ h => h) (Or.inl ⟨by rfl, ?_⟩) ?_ ?_; rotate_left
        ·intro w'; go_simp; with_reducible rfl
        rotate_left
        ·simp only [Act.put, Sa23, Sb23, Sc23, Zk, Zl]; rfl
        refine done_ (done_of HT_.out (by kernel_rfl)) ?_; try go_wp2
        go_meet
        case rel => (try simp only [← Nbq15.out]); exact ⟨_, (((rdOf false ((rd_T76 l0_2 a1).f3) a1) != (false))), (by first | rfl | (simp; done) | (simp [*]; done)), H', ⟨by first | omega | exact Nat.le_refl _⟩, ⟨by (with_reducible repeat (first | refine Zh ?_ _ | refine Zi ?_ | refine Zf ?_ _)); exact BK101.out⟩, ⟨by (with_reducible repeat (first | refine Zh ?_ _ | refine Zi ?_ | refine Zf ?_ _)); exact BK103.out⟩, ⟨by repeat (first | (with_reducible first | exact HB.out | apply Ze | apply Za | apply Zd | refine Zg ?_ GE101.out | refine Zg ?_ GE103.out) | exact HB.out)⟩⟩
       ·rw [if_neg c26] at H; have c26b0 : ((rd ((rd_T76 l0_2 a1).f2) a1) == 0) = false := beq_eq_false_iff_ne.mpr c26; have c26b1 : ((rd ((rd_T76 l0_2 a1).f2) a1) != 0) = true := bne_iff_ne.mpr c26; have H' := Aside0.mk H; clear H; try go_wp2
        (try rw [← Nbq15.out])
        have n0_ : Aside0 (((((w8.setCell ⟨gb103, 0, none⟩ (.bool (false))).setCell ⟨gb103, 1, none⟩ (.int .i64 ((rd_T76 l0_2 a1).f1))).setCell ⟨gb103, 2, none⟩ (.slice A102_2 ((rd_T76 l0_2 a1).f2).length c102_2)).setCell ⟨gb103, 3, none⟩ (.slice A102_3 ((rd_T76 l0_2 a1).f3).length c102_3)).heap[gb101]? = some (.cells #[.slice A0_0 l0_0.length c0_0, .slice A0_1 l0_1.length c0_1, .slice (some ad102) l0_2.length c0_2, .int .i64 a0_3, .int .i64 a0_4] 35 (0, 0))) := ⟨by (with_reducible repeat (first | refine Zh ?_ _ | refine Zi ?_ | refine Zf ?_ _)); refine Zs ?_ NB101_103.out _; (with_reducible repeat (first | refine Zh ?_ _ | refine Zi ?_ | refine Zf ?_ _)); refine Zs ?_ NB101_103.out _; (with_reducible repeat (first | refine Zh ?_ _ | refine Zi ?_ | refine Zf ?_ _)); refine Zs ?_ NB101_103.out _; (with_reducible repeat (first | refine Zh ?_ _ | refine Zi ?_ | refine Zf ?_ _)); refine Zs ?_ NB101_103.out _; (with_reducible repeat (first | refine Zh ?_ _ | refine Zi ?_ | refine Zf ?_ _)); exact BK101.out⟩
        have n1_ : Aside0 (((((w8.setCell ⟨gb103, 0, none⟩ (.bool (false))).setCell ⟨gb103, 1, none⟩ (.int .i64 ((rd_T76 l0_2 a1).f1))).setCell ⟨gb103, 2, none⟩ (.slice A102_2 ((rd_T76 l0_2 a1).f2).length c102_2)).setCell ⟨gb103, 3, none⟩ (.slice A102_3 ((rd_T76 l0_2 a1).f3).length c102_3)).heap[gb103]? = some (.cells #[.bool false, .int .i64 ((rd_T76 l0_2 a1).f1), .slice A102_2 ((rd_T76 l0_2 a1).f2).length c102_2, .slice A102_3 ((rd_T76 l0_2 a1).f3).length c102_3] 76 (0, 0))) := ⟨by (with_reducible repeat (first | refine Zh ?_ _ | refine Zi ?_ | refine Zf ?_ _)); refine Zt (cs := #[.bool (false), .int .i64 ((rd_T76 l0_2 a1).f1), .slice A102_2 ((rd_T76 l0_2 a1).f2).length c102_2, .slice none 0 0]) ?_ 3 _ rfl; (with_reducible repeat (first | refine Zh ?_ _ | refine Zi ?_ | refine Zf ?_ _)); refine Zt (cs := #[.bool (false), .int .i64 ((rd_T76 l0_2 a1).f1), .slice none 0 0, .slice none 0 0]) ?_ 2 _ rfl; (with_reducible repeat (first | refine Zh ?_ _ | refine Zi ?_ | refine Zf ?_ _)); refine Zt (cs := #[.bool (false), .int .i64 0, .slice none 0 0, .slice none 0 0]) ?_ 1 _ rfl; (with_reducible repeat (first | refine Zh ?_ _ | refine Zi ?_ | refine Zf ?_ _)); refine Zt (cs := #[.bool false, .int .i64 0, .slice none 0 0, .slice none 0 0]) ?_ 0 _ rfl; (with_reducible repeat (first | refine Zh ?_ _ | refine Zi ?_ | refine Zf ?_ _)); exact BK103.out⟩
        have n2_ : Aside0 (Below w.heap.size w ((((w8.setCell ⟨gb103, 0, none⟩ (.bool (false))).setCell ⟨gb103, 1, none⟩ (.int .i64 ((rd_T76 l0_2 a1).f1))).setCell ⟨gb103, 2, none⟩ (.slice A102_2 ((rd_T76 l0_2 a1).f2).length c102_2)).setCell ⟨gb103, 3, none⟩ (.slice A102_3 ((rd_T76 l0_2 a1).f3).length c102_3))) := ⟨by repeat (first | (with_reducible first | exact HB.out | apply Ze | apply Za | apply Zd | refine Zg ?_ GE101.out | refine Zg ?_ GE103.out) | exact HB.out)⟩
        (try clear BK101)
        (try clear BK103)
        (try clear HB)
        generalize ((((w8.setCell ⟨gb103, 0, none⟩ (.bool (false))).setCell ⟨gb103, 1, none⟩ (.int .i64 ((rd_T76 l0_2 a1).f1))).setCell ⟨gb103, 2, none⟩ (.slice A102_2 ((rd_T76 l0_2 a1).f2).length c102_2)).setCell ⟨gb103, 3, none⟩ (.slice A102_3 ((rd_T76 l0_2 a1).f3).length c102_3)) = w30 at n0_ n1_ n2_ ⊢; have BK101 := n0_; have BK103 := n1_; have HB := n2_; clear n0_ n1_ n2_; have n0_ := Aside0.mk (Zi BK101.out); have n1_ := Aside0.mk (Zi BK103.out); have n2_ := Aside0.mk (Zd HB.out); clear BK101; clear BK103; clear HB; have BK101 := n0_; have BK103 := n1_; have HB := n2_; clear n0_ n1_ n2_; have p107 : 0 ≤ (a1 : Int) := of_decide_eq_true (by assumption); have q107 : a1 < (((rd_T76 l0_2 a1).f2).length : Int) := of_decide_eq_true (by assumption); obtain ⟨ad107, e107, hx107_0⟩ := Kd.at_int HR102_2.out a1 p107 q107; have hw107_0 := hx107_0; cases e107; replace hx107_0 := (HB.out.cell (World.block_lt_of_cell? w _ hx107_0)).trans hx107_0; replace p107 := eq_true p107; replace q107 := eq_true q107; refine start_ (n := 50) (S := fun w' => w'.cell? ⟨gb103, 0, none⟩ = some (.bool false) ∧ w'.cell? ⟨gb103, 1, none⟩ = some (.int .i64 ((rd_T76 l0_2 a1).f1)) ∧ w'.cell? ⟨gb103, 2, none⟩ = some (.slice (some ad107) ((rd_T76 l0_2 a1).f2).length c102_2) ∧ w'.cell? ⟨gb103, 3, none⟩ = some (.slice A102_3 ((rd_T76 l0_2 a1).f3).length c102_3) ∧ w'.cell? ⟨gb101, 0, none⟩ = some (.slice A0_0 l0_0.length c0_0) ∧ w'.cell? ⟨gb101, 1, none⟩ = some (.slice A0_1 l0_1.length c0_1) ∧ w'.cell? ⟨gb101, 2, none⟩ = some (.slice (some ad102) l0_2.length c0_2) ∧ w'.cell? ⟨gb101, 3, none⟩ = some (.int .i64 a0_3) ∧ w'.cell? ⟨gb101, 4, none⟩ = some (.int .i64 a0_4) ∧ w'.cell? (ad107.add (a1).toNat) = some (.int .i64 (rd ((rd_T76 l0_2 a1).f2) a1))) (ds := []) #[false, false, false, false, false, false, false, false, false, false, false, false, false, false, false, false, false, false, false, false, false, false, false, false, false, false, false, false, false, false, false, false, false, false, false, false, false, false, false, false, false, false, false, false, false, false, false, false, false, false] (by kernel_rfl) rfl rfl ⟨(Zb BK103.out 0).trans rfl, (Zb BK103.out 1).trans rfl, (Zb BK103.out 2).trans rfl, (Zb BK103.out 3).trans rfl, (Zb BK101.out 0).trans rfl, (Zb BK101.out 1).trans rfl, (Zb BK101.out 2).trans rfl, (Zb BK101.out 3).trans rfl, (Zb BK101.out 4).trans rfl, ((HB.out.cell (World.block_lt_of_cell? w _ hw107_0)).trans hw107_0)⟩ (fun hHeld => ?_); refine with_tabW spec_l8Picture.tab2 spec_l8Picture.bits2 (fun HT_ HW_ => ?_)
        generalize w30.drew = w31 at BK101 BK103 HB hx107_0 hHeld ⊢; refine Zm (i := 0) (N := some 13) (v := ?_) (a' := ?_) (Bm23 50 1) rfl rfl (Zj HT_.out (by kernel_rfl)) (fun _ _ _ h => h) (Or.inl ⟨by rfl, ?_⟩) ?_ ?_; rotate_left
        ·intro w'; go_simp; with_reducible rfl
        rotate_left
        ·simp only [Act.put, Sa23, Sb23, Sc23, Zk, Zl]; rfl
        refine Zm (i := 3) (N := some 16) (v := ?_) (a' := ?_) (Bm23 50 9) rfl rfl (Zj HT_.out (by kernel_rfl)) (fun _ _ _ h => h) (Or.inl ⟨by rfl, ?_⟩) ?_ ?_; rotate_left
        ·intro w'; go_simp; with_reducible rfl
        rotate_left
        ·simp only [Act.put, Sa23, Sb23, Sc23, Zk, Zl]; rfl
        refine take_ (i := 1) (N := some 14) (v := ?_) (a' := ?_) (Bm23 50 11) rfl rfl (Zr HT_.out HW_.out (by kernel_rfl)) (fun _ _ _ h => h) (Or.inl ⟨by rfl, ?_⟩) hHeld ?_ ?_; rotate_left
        ·rintro w' ⟨s0, s1, s2, s3, s4, s5, s6, s7, s8, s9⟩
         go_simp; with_reducible rfl
        rotate_left
        ·simp only [Act.put, Sa23, Sb23, Sc23, Zk, Zl]; rfl
        refine Zm (i := 2) (N := some 15) (v := ?_) (a' := ?_) (Bm23 50 15) rfl rfl (Zj HT_.out (by kernel_rfl)) (fun _ _ _ h => h) (Or.inl ⟨by rfl, ?_⟩) ?_ ?_; rotate_left
        ·intro w'; go_simp; with_reducible rfl
        rotate_left
        ·simp only [Act.put, Sa23, Sb23, Sc23, Zk, Zl]; rfl
        refine take_ (i := 4) (N := some 17) (v := ?_) (a' := ?_) (Bm23 50 31) rfl rfl (Zr HT_.out HW_.out (by kernel_rfl)) (fun _ _ _ h => h) (Or.inl ⟨by rfl, ?_⟩) hHeld ?_ ?_; rotate_left
        ·rintro w' ⟨s0, s1, s2, s3, s4, s5, s6, s7, s8, s9⟩
         go_simp; with_reducible rfl
        rotate_left
        ·simp only [Act.put, Sa23, Sb23, Sc23, Zk, Zl]; rfl
        refine Zm (i := 5) (N := some 18) (v := ?_) (a' := ?_) (Bm23 50 63) rfl rfl (Zj HT_.out (by kernel_rfl)) (fun _ _ _ h => h) (Or.inl ⟨by rfl, ?_⟩) ?_ ?_; rotate_left
        ·intro w'; go_simp; with_reducible rfl
        rotate_left
        ·simp only [Act.put, Sa23, Sb23, Sc23, Zk, Zl]; rfl
        refine Zm (i := 6) (N := some 19) (v := ?_) (a' := ?_) (Bm23 50 127) rfl rfl (Zj HT_.out (by kernel_rfl)) (fun _ _ _ h => h) (Or.inl ⟨by rfl, ?_⟩) ?_ ?_; rotate_left
        ·intro w'; go_simp; with_reducible rfl
        rotate_left
        ·simp only [Act.put, Sa23, Sb23, Sc23, Zk, Zl]; rfl
        refine Zm (i := 7) (N := some 20) (v := ?_) (a' := ?_) (Bm23 50 255) rfl rfl (Zj HT_.out (by kernel_rfl)) (fun _ _ _ h => h) (Or.inl ⟨by rfl, ?_⟩) ?_ ?_; rotate_left
        ·intro w'; go_simp; with_reducible rfl
        rotate_left
        ·simp only [Act.put, Sa23, Sb23, Sc23, Zk, Zl]; rfl
        refine Zm (i := 8) (N := some 21) (v := ?_) (a' := ?_) (Bm23 50 511) rfl rfl (Zj HT_.out (by kernel_rfl)) (fun _ _ _ h => h) (Or.inl ⟨by rfl, ?_⟩) ?_ ?_; rotate_left
        ·intro w'; go_simp; with_reducible rfl
        rotate_left
        ·simp only [Act.put, Sa23, Sb23, Sc23, Zk, Zl]; rfl
        refine Zm (i := 11) (N := some 24) (v := ?_) (a' := ?_) (Bm23 50 2559) rfl rfl (Zj HT_.out (by kernel_rfl)) (fun _ _ _ h => h) (Or.inl ⟨by rfl, ?_⟩) ?_ ?_; rotate_left
        ·intro w'; go_simp; with_reducible rfl
        rotate_left
        ·simp only [Act.put, Sa23, Sb23, Sc23, Zk, Zl]; rfl
        refine take_ (i := 9) (N := some 22) (v := ?_) (a' := ?_) (Bm23 50 3071) rfl rfl (Zr HT_.out HW_.out (by kernel_rfl)) (fun _ _ _ h => h) (Or.inl ⟨by rfl, ?_⟩) hHeld ?_ ?_; rotate_left
        ·rintro w' ⟨s0, s1, s2, s3, s4, s5, s6, s7, s8, s9⟩
         go_simp; with_reducible rfl
        rotate_left
        ·simp only [Act.put, Sa23, Sb23, Sc23, Zk, Zl]; rfl
        refine Zm (i := 10) (N := some 23) (v := ?_) (a' := ?_) (Bm23 50 4095) rfl rfl (Zj HT_.out (by kernel_rfl)) (fun _ _ _ h => h) (Or.inl ⟨by rfl, ?_⟩) ?_ ?_; rotate_left
        ·intro w'; go_simp; with_reducible rfl
        rotate_left
        ·simp only [Act.put, Sa23, Sb23, Sc23, Zk, Zl]; rfl
        refine take_ (i := 12) (N := some 25) (v := ?_) (a' := ?_) (Bm23 50 8191) rfl rfl (Zr HT_.out HW_.out (by kernel_rfl)) (fun _ _ _ h => h) (Or.inl ⟨by rfl, ?_⟩) hHeld ?_ ?_; rotate_left
        ·rintro w' ⟨s0, s1, s2, s3, s4, s5, s6, s7, s8, s9⟩
         go_simp; with_reducible rfl
        rotate_left
        ·simp only [Act.put, Sa23, Sb23, Sc23, Zk, Zl]; rfl
        refine Zm (i := 13) (N := some 26) (v := ?_) (a' := ?_) (Bm23 50 16383) rfl rfl (Zj HT_.out (by kernel_rfl)) (fun _ _ _ h => h) (Or.inl ⟨by rfl, ?_⟩) ?_ ?_; rotate_left
        ·intro w'; go_simp; with_reducible rfl
        rotate_left
        ·simp only [Act.put, Sa23, Sb23, Sc23, Zk, Zl]; rfl
        refine Zm (i := 14) (N := some 27) (v := ?_) (a' := ?_) (Bm23 50 32767) rfl rfl (Zj HT_.out (by kernel_rfl)) (fun _ _ _ h => h) (Or.inl ⟨by rfl, ?_⟩) ?_ ?_; rotate_left
        ·intro w'; go_simp; with_reducible rfl
        rotate_left
        ·simp only [Act.put, Sa23, Sb23, Sc23, Zk, Zl]; rfl
        refine Zm (i := 15) (N := some 28) (v := ?_) (a' := ?_) (Bm23 50 65535) rfl rfl (Zj HT_.out (by kernel_rfl)) (fun _ _ _ h => h) (Or.inl ⟨by rfl, ?_⟩) ?_ ?_; rotate_left
        ·intro w'; go_simp; with_reducible rfl
        rotate_left
        ·simp only [Act.put, Sa23, Sb23, Sc23, Zk, Zl]; rfl
        refine Zm (i := 16) (N := some 29) (v := ?_) (a' := ?_) (Bm23 50 131071) rfl rfl (Zj HT_.out (by kernel_rfl)) (fun _ _ _ h => h) (Or.inl ⟨by rfl, ?_⟩) ?_ ?_; rotate_left
        ·intro w'; go_simp; with_reducible rfl
        rotate_left
        ·simp only [Act.put, Sa23, Sb23, Sc23, Zk, Zl]; rfl
        refine Zm (i := 17) (N := some 30) (v := ?_) (a' := ?_) (Bm23 50 262143) rfl rfl (Zj HT_.out (by kernel_rfl)) (fun _ _ _ h => h) (Or.inl ⟨by rfl, ?_⟩) ?_ ?_; rotate_left
        ·intro w'; go_simp; with_reducible rfl
        rotate_left
        ·simp only [Act.put, Sa23, Sb23, Sc23, Zk, Zl]; rfl
        refine take_ (i := 18) (N := some 31) (v := ?_) (a' := ?_) (Bm23 50 524287) rfl rfl (Zr HT_.out HW_.out (by kernel_rfl)) (fun _ _ _ h => h) (Or.inl ⟨by rfl, ?_⟩) hHeld ?_ ?_; rotate_left
        ·rintro w' ⟨s0, s1, s2, s3, s4, s5, s6, s7, s8, s9⟩
         go_simp; with_reducible rfl
        rotate_left
        ·simp only [Act.put, Sa23, Sb23, Sc23, Zk, Zl]; rfl
        refine one_ (i := 19) (N := some 32) (Bm23 50 1048575) rfl rfl (one_of HT_.out (by kernel_rfl)) (by decide) (fun K hK => ?_); refine goes_ Try.func43 (by kernel_rfl) rfl #[.int .i64 ((rd_T76 l0_2 a1).f1), .int .i64 0, .int .i64 1000] (by rfl) rfl rfl (by (try simp only [List.map_toArray, List.map_cons, List.map_nil]); first | done | rfl | (simp only [List.length_drop, List.length_take]; rfl)) ?_; with_reducible refine (spec_l1In.calls ((rd_T76 l0_2 a1).f1) 0 1000 true _ A13.out).mono ?_
        rintro e w' ⟨rfl, ⟨nd, rfl⟩⟩
        refine ⟨_, rfl, ?_⟩; refine hK.out _ _ ⟨(Zb BK103.out 0).trans rfl, (Zb BK103.out 1).trans rfl, (Zb BK103.out 2).trans rfl, (Zb BK103.out 3).trans rfl, (Zb BK101.out 0).trans rfl, (Zb BK101.out 1).trans rfl, (Zb BK101.out 2).trans rfl, (Zb BK101.out 3).trans rfl, (Zb BK101.out 4).trans rfl, ((HB.out.cell (World.block_lt_of_cell? w _ hw107_0)).trans hw107_0)⟩ (fun hHeld => ?_); clear hK K; refine norm_ (a' := ?_) ?_ ?_; rotate_left
        ·show Act.put _ (some 32) _ = _
         simp only [Act.put, Sa23, Sb23, Sc23, Zk, Zl]; rfl
        refine Zm (i := 20) (N := some 33) (v := ?_) (a' := ?_) (Bm23 50 2097151) rfl rfl (Zj HT_.out (by kernel_rfl)) (fun _ _ _ h => h) (Or.inl ⟨by rfl, ?_⟩) ?_ ?_; rotate_left
        ·intro w'; go_simp; with_reducible rfl
        rotate_left
        ·simp only [Act.put, Sa23, Sb23, Sc23, Zk, Zl]; rfl
        refine Zm (i := 21) (N := some 34) (v := ?_) (a' := ?_) (Bm23 50 4194303) rfl rfl (Zj HT_.out (by kernel_rfl)) (fun _ _ _ h => h) (Or.inl ⟨by rfl, ?_⟩) ?_ ?_; rotate_left
        ·intro w'; go_simp; with_reducible rfl
        rotate_left
        ·simp only [Act.put, Sa23, Sb23, Sc23, Zk, Zl]; rfl
        refine Zm (i := 22) (N := some 35) (v := ?_) (a' := ?_) (Bm23 50 8388607) rfl rfl (Zj HT_.out (by kernel_rfl)) (fun _ _ _ h => h) (Or.inl ⟨by rfl, ?_⟩) ?_ ?_; rotate_left
        ·intro w'; go_simp; with_reducible rfl
        rotate_left
        ·simp only [Act.put, Sa23, Sb23, Sc23, Zk, Zl]; rfl
        refine Zm (i := 23) (N := some 36) (v := ?_) (a' := ?_) (Bm23 50 16777215) rfl rfl (Zj HT_.out (by kernel_rfl)) (fun _ _ _ h => h) (Or.inl ⟨by rfl, ?_⟩) ?_ ?_; rotate_left
        ·intro w'; go_simp; with_reducible rfl
        rotate_left
        ·simp only [Act.put, Sa23, Sb23, Sc23, Zk, Zl]; rfl
        refine take_ (i := 24) (N := some 37) (v := ?_) (a' := ?_) (Bm23 50 33554431) rfl rfl (Zr HT_.out HW_.out (by kernel_rfl)) (fun _ _ _ h => h) (Or.inl ⟨by rfl, ?_⟩) hHeld ?_ ?_; rotate_left
        ·rintro w' ⟨s0, s1, s2, s3, s4, s5, s6, s7, s8, s9⟩
         go_simp; with_reducible rfl
        rotate_left
        ·simp only [Act.put, Sa23, Sb23, Sc23, Zk, Zl]; rfl
        refine Zm (i := 25) (N := some 38) (v := ?_) (a' := ?_) (Bm23 50 67108863) rfl rfl (Zj HT_.out (by kernel_rfl)) (fun _ _ _ h => h) (Or.inl ⟨by rfl, ?_⟩) ?_ ?_; rotate_left
        ·intro w'; go_simp; with_reducible rfl
        rotate_left
        ·simp only [Act.put, Sa23, Sb23, Sc23, Zk, Zl]; rfl
        refine Zm (i := 26) (N := some 39) (v := ?_) (a' := ?_) (Bm23 50 134217727) rfl rfl (Zj HT_.out (by kernel_rfl)) (fun _ _ _ h => h) (Or.inl ⟨by rfl, ?_⟩) ?_ ?_; rotate_left
        ·intro w'; go_simp; with_reducible rfl
        rotate_left
        ·simp only [Act.put, Sa23, Sb23, Sc23, Zk, Zl]; rfl
        refine Zm (i := 27) (N := some 40) (v := ?_) (a' := ?_) (Bm23 50 268435455) rfl rfl (Zj HT_.out (by kernel_rfl)) (fun _ _ _ h => h) (Or.inl ⟨by rfl, ?_⟩) ?_ ?_; rotate_left
        ·intro w'; go_simp; with_reducible rfl
        rotate_left
        ·simp only [Act.put, Sa23, Sb23, Sc23, Zk, Zl]; rfl
        refine take_ (i := 28) (N := some 41) (v := ?_) (a' := ?_) (Bm23 50 536870911) rfl rfl (Zr HT_.out HW_.out (by kernel_rfl)) (fun _ _ _ h => h) (Or.inl ⟨by rfl, ?_⟩) hHeld ?_ ?_; rotate_left
        ·rintro w' ⟨s0, s1, s2, s3, s4, s5, s6, s7, s8, s9⟩
         go_simp; with_reducible rfl
        rotate_left
        ·simp only [Act.put, Sa23, Sb23, Sc23, Zk, Zl]; rfl
        refine Zm (i := 29) (N := some 42) (v := ?_) (a' := ?_) (Bm23 50 1073741823) rfl rfl (Zj HT_.out (by kernel_rfl)) (fun _ _ _ h => h) (Or.inl ⟨by rfl, ?_⟩) ?_ ?_; rotate_left
        ·intro w'; go_simp; with_reducible rfl
        rotate_left
        ·simp only [Act.put, Sa23, Sb23, Sc23, Zk, Zl]; rfl
        refine Zm (i := 30) (N := some 43) (v := ?_) (a' := ?_) (Bm23 50 2147483647) rfl rfl (Zj HT_.out (by kernel_rfl)) (fun _ _ _ h => h) (Or.inl ⟨by rfl, ?_⟩) ?_ ?_; rotate_left
        ·intro w'; go_simp; with_reducible rfl
        rotate_left
        ·simp only [Act.put, Sa23, Sb23, Sc23, Zk, Zl]; rfl
        refine Zm (i := 31) (N := some 44) (v := ?_) (a' := ?_) (Bm23 50 4294967295) rfl rfl (Zj HT_.out (by kernel_rfl)) (fun _ _ _ h => h) (Or.inl ⟨by rfl, ?_⟩) ?_ ?_; rotate_left
        ·intro w'; go_simp; with_reducible rfl
        rotate_left
        ·simp only [Act.put, Sa23, Sb23, Sc23, Zk, Zl]; rfl
        refine Zm (i := 32) (N := some 45) (v := ?_) (a' := ?_) (Bm23 50 8589934591) rfl rfl (Zj HT_.out (by kernel_rfl)) (fun _ _ _ h => h) (Or.inl ⟨by rfl, ?_⟩) ?_ ?_; rotate_left
        ·intro w'; go_simp; with_reducible rfl
        rotate_left
        ·simp only [Act.put, Sa23, Sb23, Sc23, Zk, Zl]; rfl
        refine Zm (i := 33) (N := some 46) (v := ?_) (a' := ?_) (Bm23 50 17179869183) rfl rfl (Zj HT_.out (by kernel_rfl)) (fun _ _ _ h => h) (Or.inl ⟨by rfl, ?_⟩) ?_ ?_; rotate_left
        ·intro w'; go_simp; with_reducible rfl
        rotate_left
        ·simp only [Act.put, Sa23, Sb23, Sc23, Zk, Zl]; rfl
        refine Zm (i := 35) (N := some 48) (v := ?_) (a' := ?_) (Bm23 50 51539607551) rfl rfl (Zj HT_.out (by kernel_rfl)) (fun _ _ _ h => h) (Or.inl ⟨by rfl, ?_⟩) ?_ ?_; rotate_left
        ·intro w'; go_simp; with_reducible rfl
        rotate_left
        ·simp only [Act.put, Sa23, Sb23, Sc23, Zk, Zl]; rfl
        refine take_ (i := 34) (N := some 47) (v := ?_) (a' := ?_) (Bm23 50 68719476735) rfl rfl (Zr HT_.out HW_.out (by kernel_rfl)) (fun _ _ _ h => h) (Or.inl ⟨by rfl, ?_⟩) hHeld ?_ ?_; rotate_left
        ·rintro w' ⟨s0, s1, s2, s3, s4, s5, s6, s7, s8, s9⟩
         go_simp; with_reducible rfl
        rotate_left
        ·simp only [Act.put, Sa23, Sb23, Sc23, Zk, Zl]; rfl
        refine Zm (i := 36) (N := some 49) (v := ?_) (a' := ?_) (Bm23 50 137438953471) rfl rfl (Zj HT_.out (by kernel_rfl)) (fun _ _ _ h => h) (Or.inl ⟨by rfl, ?_⟩) ?_ ?_; rotate_left
        ·intro w'; go_simp; with_reducible rfl
        rotate_left
        ·simp only [Act.put, Sa23, Sb23, Sc23, Zk, Zl]; rfl
        refine take_ (i := 37) (N := some 50) (v := ?_) (a' := ?_) (Bm23 50 274877906943) rfl rfl (Zr HT_.out HW_.out (by kernel_rfl)) (fun _ _ _ h => h) (Or.inl ⟨by rfl, ?_⟩) hHeld ?_ ?_; rotate_left
        ·rintro w' ⟨s0, s1, s2, s3, s4, s5, s6, s7, s8, s9⟩
         go_simp; with_reducible rfl
        rotate_left
        ·simp only [Act.put, Sa23, Sb23, Sc23, Zk, Zl]; rfl
        refine Zm (i := 38) (N := some 51) (v := ?_) (a' := ?_) (Bm23 50 549755813887) rfl rfl (Zj HT_.out (by kernel_rfl)) (fun _ _ _ h => h) (Or.inl ⟨by rfl, ?_⟩) ?_ ?_; rotate_left
        ·intro w'; go_simp; with_reducible rfl
        rotate_left
        ·simp only [Act.put, Sa23, Sb23, Sc23, Zk, Zl]; rfl
        refine Zm (i := 39) (N := some 52) (v := ?_) (a' := ?_) (Bm23 50 1099511627775) rfl rfl (Zj HT_.out (by kernel_rfl)) (fun _ _ _ h => h) (Or.inl ⟨by rfl, ?_⟩) ?_ ?_; rotate_left
        ·intro w'; go_simp; with_reducible rfl
        rotate_left
        ·simp only [Act.put, Sa23, Sb23, Sc23, Zk, Zl]; rfl
        refine Zm (i := 40) (N := some 53) (v := ?_) (a' := ?_) (Bm23 50 2199023255551) rfl rfl (Zj HT_.out (by kernel_rfl)) (fun _ _ _ h => h) (Or.inl ⟨by rfl, ?_⟩) ?_ ?_; rotate_left
        ·intro w'; go_simp; with_reducible rfl
        rotate_left
        ·simp only [Act.put, Sa23, Sb23, Sc23, Zk, Zl]; rfl
        refine Zm (i := 41) (N := some 54) (v := undef) (a' := ?_) (Bm23 50 4398046511103) rfl rfl (Zj HT_.out (by kernel_rfl)) (fun _ _ _ h => h) (Or.inr ⟨by rfl, rfl⟩) ?_ ?_; rotate_left
        ·simp only [Act.put, Sa23, Sb23, Sc23, Zk, Zl]; rfl
        refine Zm (i := 42) (N := some 55) (v := undef) (a' := ?_) (Bm23 50 8796093022207) rfl rfl (Zj HT_.out (by kernel_rfl)) (fun _ _ _ h => h) (Or.inr ⟨by rfl, rfl⟩) ?_ ?_; rotate_left
        ·simp only [Act.put, Sa23, Sb23, Sc23, Zk, Zl]; rfl
        refine Zm (i := 43) (N := some 56) (v := undef) (a' := ?_) (Bm23 50 17592186044415) rfl rfl (Zj HT_.out (by kernel_rfl)) (fun _ _ _ h => h) (Or.inr ⟨by rfl, rfl⟩) ?_ ?_; rotate_left
        ·simp only [Act.put, Sa23, Sb23, Sc23, Zk, Zl]; rfl
        refine Zm (i := 44) (N := some 57) (v := undef) (a' := ?_) (Bm23 50 35184372088831) rfl rfl (Zj HT_.out (by kernel_rfl)) (fun _ _ _ h => h) (Or.inr ⟨by rfl, rfl⟩) ?_ ?_; rotate_left
        ·simp only [Act.put, Sa23, Sb23, Sc23, Zk, Zl]; rfl
        refine Zm (i := 45) (N := some 58) (v := undef) (a' := ?_) (Bm23 50 70368744177663) rfl rfl (Zj HT_.out (by kernel_rfl)) (fun _ _ _ h => h) (Or.inr ⟨by rfl, rfl⟩) ?_ ?_; rotate_left
        ·simp only [Act.put, Sa23, Sb23, Sc23, Zk, Zl]; rfl
        refine Zm (i := 46) (N := some 59) (v := undef) (a' := ?_) (Bm23 50 140737488355327) rfl rfl (Zj HT_.out (by kernel_rfl)) (fun _ _ _ h => h) (Or.inr ⟨by rfl, rfl⟩) ?_ ?_; rotate_left
        ·simp only [Act.put, Sa23, Sb23, Sc23, Zk, Zl]; rfl
        refine Zm (i := 47) (N := some 60) (v := undef) (a' := ?_) (Bm23 50 281474976710655) rfl rfl (Zj HT_.out (by kernel_rfl)) (fun _ _ _ h => h) (Or.inr ⟨by rfl, rfl⟩) ?_ ?_; rotate_left
        ·simp only [Act.put, Sa23, Sb23, Sc23, Zk, Zl]; rfl
        refine Zm (i := 48) (N := some 61) (v := undef) (a' := ?_) (Bm23 50 562949953421311) rfl rfl (Zj HT_.out (by kernel_rfl)) (fun _ _ _ h => h) (Or.inr ⟨by rfl, rfl⟩) ?_ ?_; rotate_left
        ·simp only [Act.put, Sa23, Sb23, Sc23, Zk, Zl]; rfl
        refine Zm (i := 49) (N := some 62) (v := ?_) (a' := ?_) (Bm23 50 1125899906842623) rfl rfl (Zj HT_.out (by kernel_rfl)) (fun _ _ _ h => h) (Or.inl ⟨by rfl, ?_⟩) ?_ ?_; rotate_left
        ·intro w'; go_simp; with_reducible rfl
        rotate_left
        ·simp only [Act.put, Sa23, Sb23, Sc23, Zk, Zl]; rfl
        refine done_ (done_of HT_.out (by kernel_rfl)) ?_; try go_wp2
        go_meet
        case rel => (try simp only [← Nbq15.out]); exact ⟨_, (true), (by first | rfl | (simp; done) | (simp [*]; done)), H', ⟨by first | omega | exact Nat.le_refl _⟩, ⟨by (with_reducible repeat (first | refine Zh ?_ _ | refine Zi ?_ | refine Zf ?_ _)); exact BK101.out⟩, ⟨by (with_reducible repeat (first | refine Zh ?_ _ | refine Zi ?_ | refine Zf ?_ _)); exact BK103.out⟩, ⟨by repeat (first | (with_reducible first | exact HB.out | apply Ze | apply Za | apply Zd | refine Zg ?_ GE101.out | refine Zg ?_ GE103.out) | exact HB.out)⟩⟩
      ·rw [if_neg c24] at H; have c24b0 : (((rd_T76 l0_2 a1).f1) == 0) = false := beq_eq_false_iff_ne.mpr c24; have c24b1 : (((rd_T76 l0_2 a1).f1) != 0) = true := bne_iff_ne.mpr c24; have H' := Aside0.mk H; clear H; try go_wp2
       (try rw [← Nbq15.out])
       have n0_ : Aside0 (((((w8.setCell ⟨gb103, 0, none⟩ (.bool (false))).setCell ⟨gb103, 1, none⟩ (.int .i64 ((rd_T76 l0_2 a1).f1))).setCell ⟨gb103, 2, none⟩ (.slice A102_2 ((rd_T76 l0_2 a1).f2).length c102_2)).setCell ⟨gb103, 3, none⟩ (.slice A102_3 ((rd_T76 l0_2 a1).f3).length c102_3)).heap[gb101]? = some (.cells #[.slice A0_0 l0_0.length c0_0, .slice A0_1 l0_1.length c0_1, .slice (some ad102) l0_2.length c0_2, .int .i64 a0_3, .int .i64 a0_4] 35 (0, 0))) := ⟨by (with_reducible repeat (first | refine Zh ?_ _ | refine Zi ?_ | refine Zf ?_ _)); refine Zs ?_ NB101_103.out _; (with_reducible repeat (first | refine Zh ?_ _ | refine Zi ?_ | refine Zf ?_ _)); refine Zs ?_ NB101_103.out _; (with_reducible repeat (first | refine Zh ?_ _ | refine Zi ?_ | refine Zf ?_ _)); refine Zs ?_ NB101_103.out _; (with_reducible repeat (first | refine Zh ?_ _ | refine Zi ?_ | refine Zf ?_ _)); refine Zs ?_ NB101_103.out _; (with_reducible repeat (first | refine Zh ?_ _ | refine Zi ?_ | refine Zf ?_ _)); exact BK101.out⟩
       have n1_ : Aside0 (((((w8.setCell ⟨gb103, 0, none⟩ (.bool (false))).setCell ⟨gb103, 1, none⟩ (.int .i64 ((rd_T76 l0_2 a1).f1))).setCell ⟨gb103, 2, none⟩ (.slice A102_2 ((rd_T76 l0_2 a1).f2).length c102_2)).setCell ⟨gb103, 3, none⟩ (.slice A102_3 ((rd_T76 l0_2 a1).f3).length c102_3)).heap[gb103]? = some (.cells #[.bool false, .int .i64 ((rd_T76 l0_2 a1).f1), .slice A102_2 ((rd_T76 l0_2 a1).f2).length c102_2, .slice A102_3 ((rd_T76 l0_2 a1).f3).length c102_3] 76 (0, 0))) := ⟨by (with_reducible repeat (first | refine Zh ?_ _ | refine Zi ?_ | refine Zf ?_ _)); refine Zt (cs := #[.bool (false), .int .i64 ((rd_T76 l0_2 a1).f1), .slice A102_2 ((rd_T76 l0_2 a1).f2).length c102_2, .slice none 0 0]) ?_ 3 _ rfl; (with_reducible repeat (first | refine Zh ?_ _ | refine Zi ?_ | refine Zf ?_ _)); refine Zt (cs := #[.bool (false), .int .i64 ((rd_T76 l0_2 a1).f1), .slice none 0 0, .slice none 0 0]) ?_ 2 _ rfl; (with_reducible repeat (first | refine Zh ?_ _ | refine Zi ?_ | refine Zf ?_ _)); refine Zt (cs := #[.bool (false), .int .i64 0, .slice none 0 0, .slice none 0 0]) ?_ 1 _ rfl; (with_reducible repeat (first | refine Zh ?_ _ | refine Zi ?_ | refine Zf ?_ _)); refine Zt (cs := #[.bool false, .int .i64 0, .slice none 0 0, .slice none 0 0]) ?_ 0 _ rfl; (with_reducible repeat (first | refine Zh ?_ _ | refine Zi ?_ | refine Zf ?_ _)); exact BK103.out⟩
       have n2_ : Aside0 (Below w.heap.size w ((((w8.setCell ⟨gb103, 0, none⟩ (.bool (false))).setCell ⟨gb103, 1, none⟩ (.int .i64 ((rd_T76 l0_2 a1).f1))).setCell ⟨gb103, 2, none⟩ (.slice A102_2 ((rd_T76 l0_2 a1).f2).length c102_2)).setCell ⟨gb103, 3, none⟩ (.slice A102_3 ((rd_T76 l0_2 a1).f3).length c102_3))) := ⟨by repeat (first | (with_reducible first | exact HB.out | apply Ze | apply Za | apply Zd | refine Zg ?_ GE101.out | refine Zg ?_ GE103.out) | exact HB.out)⟩
       (try clear BK101)
       (try clear BK103)
       (try clear HB)
       generalize ((((w8.setCell ⟨gb103, 0, none⟩ (.bool (false))).setCell ⟨gb103, 1, none⟩ (.int .i64 ((rd_T76 l0_2 a1).f1))).setCell ⟨gb103, 2, none⟩ (.slice A102_2 ((rd_T76 l0_2 a1).f2).length c102_2)).setCell ⟨gb103, 3, none⟩ (.slice A102_3 ((rd_T76 l0_2 a1).f3).length c102_3)) = w32 at n0_ n1_ n2_ ⊢; have BK101 := n0_; have BK103 := n1_; have HB := n2_; clear n0_ n1_ n2_; have n0_ := Aside0.mk (Zi BK101.out); have n1_ := Aside0.mk (Zi BK103.out); have n2_ := Aside0.mk (Zd HB.out); clear BK101; clear BK103; clear HB; have BK101 := n0_; have BK103 := n1_; have HB := n2_; clear n0_ n1_ n2_; refine start_ (n := 50) (S := fun w' => w'.cell? ⟨gb103, 0, none⟩ = some (.bool false) ∧ w'.cell? ⟨gb103, 1, none⟩ = some (.int .i64 ((rd_T76 l0_2 a1).f1)) ∧ w'.cell? ⟨gb103, 2, none⟩ = some (.slice A102_2 ((rd_T76 l0_2 a1).f2).length c102_2) ∧ w'.cell? ⟨gb103, 3, none⟩ = some (.slice A102_3 ((rd_T76 l0_2 a1).f3).length c102_3) ∧ w'.cell? ⟨gb101, 0, none⟩ = some (.slice A0_0 l0_0.length c0_0) ∧ w'.cell? ⟨gb101, 1, none⟩ = some (.slice A0_1 l0_1.length c0_1) ∧ w'.cell? ⟨gb101, 2, none⟩ = some (.slice (some ad102) l0_2.length c0_2) ∧ w'.cell? ⟨gb101, 3, none⟩ = some (.int .i64 a0_3) ∧ w'.cell? ⟨gb101, 4, none⟩ = some (.int .i64 a0_4)) (ds := []) #[false, false, false, false, false, false, false, false, false, false, false, false, false, false, false, false, false, false, false, false, false, false, false, false, false, false, false, false, false, false, false, false, false, false, false, false, false, false, false, false, false, false, false, false, false, false, false, false, false, false] (by kernel_rfl) rfl rfl ⟨(Zb BK103.out 0).trans rfl, (Zb BK103.out 1).trans rfl, (Zb BK103.out 2).trans rfl, (Zb BK103.out 3).trans rfl, (Zb BK101.out 0).trans rfl, (Zb BK101.out 1).trans rfl, (Zb BK101.out 2).trans rfl, (Zb BK101.out 3).trans rfl, (Zb BK101.out 4).trans rfl⟩ (fun hHeld => ?_); refine with_tabW spec_l8Picture.tab2 spec_l8Picture.bits2 (fun HT_ HW_ => ?_)
       generalize w32.drew = w33 at BK101 BK103 HB hHeld ⊢; refine Zm (i := 0) (N := some 13) (v := ?_) (a' := ?_) (Bm23 50 1) rfl rfl (Zj HT_.out (by kernel_rfl)) (fun _ _ _ h => h) (Or.inl ⟨by rfl, ?_⟩) ?_ ?_; rotate_left
       ·intro w'; go_simp; with_reducible rfl
       rotate_left
       ·simp only [Act.put, Sa23, Sb23, Sc23, Zk, Zl]; rfl
       refine Zm (i := 3) (N := some 16) (v := ?_) (a' := ?_) (Bm23 50 9) rfl rfl (Zj HT_.out (by kernel_rfl)) (fun _ _ _ h => h) (Or.inl ⟨by rfl, ?_⟩) ?_ ?_; rotate_left
       ·intro w'; go_simp; with_reducible rfl
       rotate_left
       ·simp only [Act.put, Sa23, Sb23, Sc23, Zk, Zl]; rfl
       refine take_ (i := 1) (N := some 14) (v := ?_) (a' := ?_) (Bm23 50 11) rfl rfl (Zr HT_.out HW_.out (by kernel_rfl)) (fun _ _ _ h => h) (Or.inl ⟨by rfl, ?_⟩) hHeld ?_ ?_; rotate_left
       ·rintro w' ⟨s0, s1, s2, s3, s4, s5, s6, s7, s8⟩
        go_simp; with_reducible rfl
       rotate_left
       ·simp only [Act.put, Sa23, Sb23, Sc23, Zk, Zl]; rfl
       refine Zm (i := 2) (N := some 15) (v := ?_) (a' := ?_) (Bm23 50 15) rfl rfl (Zj HT_.out (by kernel_rfl)) (fun _ _ _ h => h) (Or.inl ⟨by rfl, ?_⟩) ?_ ?_; rotate_left
       ·intro w'; go_simp; with_reducible rfl
       rotate_left
       ·simp only [Act.put, Sa23, Sb23, Sc23, Zk, Zl]; rfl
       refine take_ (i := 4) (N := some 17) (v := ?_) (a' := ?_) (Bm23 50 31) rfl rfl (Zr HT_.out HW_.out (by kernel_rfl)) (fun _ _ _ h => h) (Or.inl ⟨by rfl, ?_⟩) hHeld ?_ ?_; rotate_left
       ·rintro w' ⟨s0, s1, s2, s3, s4, s5, s6, s7, s8⟩
        go_simp; with_reducible rfl
       rotate_left
       ·simp only [Act.put, Sa23, Sb23, Sc23, Zk, Zl]; rfl
       refine Zm (i := 5) (N := some 18) (v := ?_) (a' := ?_) (Bm23 50 63) rfl rfl (Zj HT_.out (by kernel_rfl)) (fun _ _ _ h => h) (Or.inl ⟨by rfl, ?_⟩) ?_ ?_; rotate_left
       ·intro w'; go_simp; with_reducible rfl
       rotate_left
       ·simp only [Act.put, Sa23, Sb23, Sc23, Zk, Zl]; rfl
       refine Zm (i := 6) (N := some 19) (v := ?_) (a' := ?_) (Bm23 50 127) rfl rfl (Zj HT_.out (by kernel_rfl)) (fun _ _ _ h => h) (Or.inl ⟨by rfl, ?_⟩) ?_ ?_; rotate_left
       ·intro w'; go_simp; with_reducible rfl
       rotate_left
       ·simp only [Act.put, Sa23, Sb23, Sc23, Zk, Zl]; rfl
       refine Zm (i := 7) (N := some 20) (v := ?_) (a' := ?_) (Bm23 50 255) rfl rfl (Zj HT_.out (by kernel_rfl)) (fun _ _ _ h => h) (Or.inl ⟨by rfl, ?_⟩) ?_ ?_; rotate_left
       ·intro w'; go_simp; with_reducible rfl
       rotate_left
       ·simp only [Act.put, Sa23, Sb23, Sc23, Zk, Zl]; rfl
       refine Zm (i := 8) (N := some 21) (v := ?_) (a' := ?_) (Bm23 50 511) rfl rfl (Zj HT_.out (by kernel_rfl)) (fun _ _ _ h => h) (Or.inl ⟨by rfl, ?_⟩) ?_ ?_; rotate_left
       ·intro w'; go_simp; with_reducible rfl
       rotate_left
       ·simp only [Act.put, Sa23, Sb23, Sc23, Zk, Zl]; rfl
       refine Zm (i := 11) (N := some 24) (v := ?_) (a' := ?_) (Bm23 50 2559) rfl rfl (Zj HT_.out (by kernel_rfl)) (fun _ _ _ h => h) (Or.inl ⟨by rfl, ?_⟩) ?_ ?_; rotate_left
       ·intro w'; go_simp; with_reducible rfl
       rotate_left
       ·simp only [Act.put, Sa23, Sb23, Sc23, Zk, Zl]; rfl
       refine take_ (i := 9) (N := some 22) (v := ?_) (a' := ?_) (Bm23 50 3071) rfl rfl (Zr HT_.out HW_.out (by kernel_rfl)) (fun _ _ _ h => h) (Or.inl ⟨by rfl, ?_⟩) hHeld ?_ ?_; rotate_left
       ·rintro w' ⟨s0, s1, s2, s3, s4, s5, s6, s7, s8⟩
        go_simp; with_reducible rfl
       rotate_left
       ·simp only [Act.put, Sa23, Sb23, Sc23, Zk, Zl]; rfl
       refine Zm (i := 10) (N := some 23) (v := ?_) (a' := ?_) (Bm23 50 4095) rfl rfl (Zj HT_.out (by kernel_rfl)) (fun _ _ _ h => h) (Or.inl ⟨by rfl, ?_⟩) ?_ ?_; rotate_left
       ·intro w'; go_simp; with_reducible rfl
       rotate_left
       ·simp only [Act.put, Sa23, Sb23, Sc23, Zk, Zl]; rfl
       refine take_ (i := 12) (N := some 25) (v := ?_) (a' := ?_) (Bm23 50 8191) rfl rfl (Zr HT_.out HW_.out (by kernel_rfl)) (fun _ _ _ h => h) (Or.inl ⟨by rfl, ?_⟩) hHeld ?_ ?_; rotate_left
       ·rintro w' ⟨s0, s1, s2, s3, s4, s5, s6, s7, s8⟩
        go_simp; with_reducible rfl
       rotate_left
       ·simp only [Act.put, Sa23, Sb23, Sc23, Zk, Zl]; rfl
       refine Zm (i := 13) (N := some 26) (v := ?_) (a' := ?_) (Bm23 50 16383) rfl rfl (Zj HT_.out (by kernel_rfl)) (fun _ _ _ h => h) (Or.inl ⟨by rfl, ?_⟩) ?_ ?_; rotate_left
       ·intro w'; go_simp; with_reducible rfl
       rotate_left
       ·simp only [Act.put, Sa23, Sb23, Sc23, Zk, Zl]; rfl
       refine Zm (i := 14) (N := some 27) (v := ?_) (a' := ?_) (Bm23 50 32767) rfl rfl (Zj HT_.out (by kernel_rfl)) (fun _ _ _ h => h) (Or.inl ⟨by rfl, ?_⟩) ?_ ?_; rotate_left
       ·intro w'; go_simp; with_reducible rfl
       rotate_left
       ·simp only [Act.put, Sa23, Sb23, Sc23, Zk, Zl]; rfl
       refine Zm (i := 15) (N := some 28) (v := ?_) (a' := ?_) (Bm23 50 65535) rfl rfl (Zj HT_.out (by kernel_rfl)) (fun _ _ _ h => h) (Or.inl ⟨by rfl, ?_⟩) ?_ ?_; rotate_left
       ·intro w'; go_simp; with_reducible rfl
       rotate_left
       ·simp only [Act.put, Sa23, Sb23, Sc23, Zk, Zl]; rfl
       refine Zm (i := 16) (N := some 29) (v := ?_) (a' := ?_) (Bm23 50 131071) rfl rfl (Zj HT_.out (by kernel_rfl)) (fun _ _ _ h => h) (Or.inl ⟨by rfl, ?_⟩) ?_ ?_; rotate_left
       ·intro w'; go_simp; with_reducible rfl
       rotate_left
       ·simp only [Act.put, Sa23, Sb23, Sc23, Zk, Zl]; rfl
       refine Zm (i := 17) (N := some 30) (v := ?_) (a' := ?_) (Bm23 50 262143) rfl rfl (Zj HT_.out (by kernel_rfl)) (fun _ _ _ h => h) (Or.inl ⟨by rfl, ?_⟩) ?_ ?_; rotate_left
       ·intro w'; go_simp; with_reducible rfl
       rotate_left
       ·simp only [Act.put, Sa23, Sb23, Sc23, Zk, Zl]; rfl
       refine take_ (i := 18) (N := some 31) (v := ?_) (a' := ?_) (Bm23 50 524287) rfl rfl (Zr HT_.out HW_.out (by kernel_rfl)) (fun _ _ _ h => h) (Or.inl ⟨by rfl, ?_⟩) hHeld ?_ ?_; rotate_left
       ·rintro w' ⟨s0, s1, s2, s3, s4, s5, s6, s7, s8⟩
        go_simp; with_reducible rfl
       rotate_left
       ·simp only [Act.put, Sa23, Sb23, Sc23, Zk, Zl]; rfl
       refine one_ (i := 19) (N := some 32) (Bm23 50 1048575) rfl rfl (one_of HT_.out (by kernel_rfl)) (by decide) (fun K hK => ?_); refine goes_ Try.func43 (by kernel_rfl) rfl #[.int .i64 ((rd_T76 l0_2 a1).f1), .int .i64 0, .int .i64 1000] (by rfl) rfl rfl (by (try simp only [List.map_toArray, List.map_cons, List.map_nil]); first | done | rfl | (simp only [List.length_drop, List.length_take]; rfl)) ?_; with_reducible refine (spec_l1In.calls ((rd_T76 l0_2 a1).f1) 0 1000 true _ A13.out).mono ?_
       rintro e w' ⟨rfl, ⟨nd, rfl⟩⟩
       refine ⟨_, rfl, ?_⟩; refine hK.out _ _ ⟨(Zb BK103.out 0).trans rfl, (Zb BK103.out 1).trans rfl, (Zb BK103.out 2).trans rfl, (Zb BK103.out 3).trans rfl, (Zb BK101.out 0).trans rfl, (Zb BK101.out 1).trans rfl, (Zb BK101.out 2).trans rfl, (Zb BK101.out 3).trans rfl, (Zb BK101.out 4).trans rfl⟩ (fun hHeld => ?_); clear hK K; refine norm_ (a' := ?_) ?_ ?_; rotate_left
       ·show Act.put _ (some 32) _ = _
        simp only [Act.put, Sa23, Sb23, Sc23, Zk, Zl]; rfl
       refine Zm (i := 20) (N := some 33) (v := ?_) (a' := ?_) (Bm23 50 2097151) rfl rfl (Zj HT_.out (by kernel_rfl)) (fun _ _ _ h => h) (Or.inl ⟨by rfl, ?_⟩) ?_ ?_; rotate_left
       ·intro w'; go_simp; with_reducible rfl
       rotate_left
       ·simp only [Act.put, Sa23, Sb23, Sc23, Zk, Zl]; rfl
       refine Zm (i := 21) (N := some 34) (v := ?_) (a' := ?_) (Bm23 50 4194303) rfl rfl (Zj HT_.out (by kernel_rfl)) (fun _ _ _ h => h) (Or.inl ⟨by rfl, ?_⟩) ?_ ?_; rotate_left
       ·intro w'; go_simp; with_reducible rfl
       rotate_left
       ·simp only [Act.put, Sa23, Sb23, Sc23, Zk, Zl]; rfl
       refine Zm (i := 22) (N := some 35) (v := ?_) (a' := ?_) (Bm23 50 8388607) rfl rfl (Zj HT_.out (by kernel_rfl)) (fun _ _ _ h => h) (Or.inl ⟨by rfl, ?_⟩) ?_ ?_; rotate_left
       ·intro w'; go_simp; with_reducible rfl
       rotate_left
       ·simp only [Act.put, Sa23, Sb23, Sc23, Zk, Zl]; rfl
       refine Zm (i := 23) (N := some 36) (v := ?_) (a' := ?_) (Bm23 50 16777215) rfl rfl (Zj HT_.out (by kernel_rfl)) (fun _ _ _ h => h) (Or.inl ⟨by rfl, ?_⟩) ?_ ?_; rotate_left
       ·intro w'; go_simp; with_reducible rfl
       rotate_left
       ·simp only [Act.put, Sa23, Sb23, Sc23, Zk, Zl]; rfl
       refine take_ (i := 24) (N := some 37) (v := ?_) (a' := ?_) (Bm23 50 33554431) rfl rfl (Zr HT_.out HW_.out (by kernel_rfl)) (fun _ _ _ h => h) (Or.inl ⟨by rfl, ?_⟩) hHeld ?_ ?_; rotate_left
       ·rintro w' ⟨s0, s1, s2, s3, s4, s5, s6, s7, s8⟩
        go_simp; with_reducible rfl
       rotate_left
       ·simp only [Act.put, Sa23, Sb23, Sc23, Zk, Zl]; rfl
       refine Zm (i := 25) (N := some 38) (v := ?_) (a' := ?_) (Bm23 50 67108863) rfl rfl (Zj HT_.out (by kernel_rfl)) (fun _ _ _ h => h) (Or.inl ⟨by rfl, ?_⟩) ?_ ?_; rotate_left
       ·intro w'; go_simp; with_reducible rfl
       rotate_left
       ·simp only [Act.put, Sa23, Sb23, Sc23, Zk, Zl]; rfl
       refine Zm (i := 26) (N := some 39) (v := ?_) (a' := ?_) (Bm23 50 134217727) rfl rfl (Zj HT_.out (by kernel_rfl)) (fun _ _ _ h => h) (Or.inl ⟨by rfl, ?_⟩) ?_ ?_; rotate_left
       ·intro w'; go_simp; with_reducible rfl
       rotate_left
       ·simp only [Act.put, Sa23, Sb23, Sc23, Zk, Zl]; rfl
       refine Zm (i := 27) (N := some 40) (v := ?_) (a' := ?_) (Bm23 50 268435455) rfl rfl (Zj HT_.out (by kernel_rfl)) (fun _ _ _ h => h) (Or.inl ⟨by rfl, ?_⟩) ?_ ?_; rotate_left
       ·intro w'; go_simp; with_reducible rfl
       rotate_left
       ·simp only [Act.put, Sa23, Sb23, Sc23, Zk, Zl]; rfl
       refine take_ (i := 28) (N := some 41) (v := ?_) (a' := ?_) (Bm23 50 536870911) rfl rfl (Zr HT_.out HW_.out (by kernel_rfl)) (fun _ _ _ h => h) (Or.inl ⟨by rfl, ?_⟩) hHeld ?_ ?_; rotate_left
       ·rintro w' ⟨s0, s1, s2, s3, s4, s5, s6, s7, s8⟩
        go_simp; with_reducible rfl
       rotate_left
       ·simp only [Act.put, Sa23, Sb23, Sc23, Zk, Zl]; rfl
       refine Zm (i := 29) (N := some 42) (v := ?_) (a' := ?_) (Bm23 50 1073741823) rfl rfl (Zj HT_.out (by kernel_rfl)) (fun _ _ _ h => h) (Or.inl ⟨by rfl, ?_⟩) ?_ ?_; rotate_left
       ·intro w'; go_simp; with_reducible rfl
       rotate_left
       ·simp only [Act.put, Sa23, Sb23, Sc23, Zk, Zl]; rfl
       refine Zm (i := 30) (N := some 43) (v := ?_) (a' := ?_) (Bm23 50 2147483647) rfl rfl (Zj HT_.out (by kernel_rfl)) (fun _ _ _ h => h) (Or.inl ⟨by rfl, ?_⟩) ?_ ?_; rotate_left
       ·intro w'; go_simp; with_reducible rfl
       rotate_left
       ·simp only [Act.put, Sa23, Sb23, Sc23, Zk, Zl]; rfl
       refine Zm (i := 31) (N := some 44) (v := ?_) (a' := ?_) (Bm23 50 4294967295) rfl rfl (Zj HT_.out (by kernel_rfl)) (fun _ _ _ h => h) (Or.inl ⟨by rfl, ?_⟩) ?_ ?_; rotate_left
       ·intro w'; go_simp; with_reducible rfl
       rotate_left
       ·simp only [Act.put, Sa23, Sb23, Sc23, Zk, Zl]; rfl
       refine Zm (i := 32) (N := some 45) (v := ?_) (a' := ?_) (Bm23 50 8589934591) rfl rfl (Zj HT_.out (by kernel_rfl)) (fun _ _ _ h => h) (Or.inl ⟨by rfl, ?_⟩) ?_ ?_; rotate_left
       ·intro w'; go_simp; with_reducible rfl
       rotate_left
       ·simp only [Act.put, Sa23, Sb23, Sc23, Zk, Zl]; rfl
       refine Zm (i := 33) (N := some 46) (v := undef) (a' := ?_) (Bm23 50 17179869183) rfl rfl (Zj HT_.out (by kernel_rfl)) (fun _ _ _ h => h) (Or.inr ⟨by rfl, rfl⟩) ?_ ?_; rotate_left
       ·simp only [Act.put, Sa23, Sb23, Sc23, Zk, Zl]; rfl
       refine Zm (i := 34) (N := some 47) (v := undef) (a' := ?_) (Bm23 50 34359738367) rfl rfl (Zj HT_.out (by kernel_rfl)) (fun _ _ _ h => h) (Or.inr ⟨by rfl, rfl⟩) ?_ ?_; rotate_left
       ·simp only [Act.put, Sa23, Sb23, Sc23, Zk, Zl]; rfl
       refine Zm (i := 35) (N := some 48) (v := undef) (a' := ?_) (Bm23 50 68719476735) rfl rfl (Zj HT_.out (by kernel_rfl)) (fun _ _ _ h => h) (Or.inr ⟨by rfl, rfl⟩) ?_ ?_; rotate_left
       ·simp only [Act.put, Sa23, Sb23, Sc23, Zk, Zl]; rfl
       refine Zm (i := 36) (N := some 49) (v := undef) (a' := ?_) (Bm23 50 137438953471) rfl rfl (Zj HT_.out (by kernel_rfl)) (fun _ _ _ h => h) (Or.inr ⟨by rfl, rfl⟩) ?_ ?_; rotate_left
       ·simp only [Act.put, Sa23, Sb23, Sc23, Zk, Zl]; rfl
       refine Zm (i := 37) (N := some 50) (v := undef) (a' := ?_) (Bm23 50 274877906943) rfl rfl (Zj HT_.out (by kernel_rfl)) (fun _ _ _ h => h) (Or.inr ⟨by rfl, rfl⟩) ?_ ?_; rotate_left
       ·simp only [Act.put, Sa23, Sb23, Sc23, Zk, Zl]; rfl
       refine Zm (i := 38) (N := some 51) (v := undef) (a' := ?_) (Bm23 50 549755813887) rfl rfl (Zj HT_.out (by kernel_rfl)) (fun _ _ _ h => h) (Or.inr ⟨by rfl, rfl⟩) ?_ ?_; rotate_left
       ·simp only [Act.put, Sa23, Sb23, Sc23, Zk, Zl]; rfl
       refine Zm (i := 39) (N := some 52) (v := ?_) (a' := ?_) (Bm23 50 1099511627775) rfl rfl (Zj HT_.out (by kernel_rfl)) (fun _ _ _ h => h) (Or.inl ⟨by rfl, ?_⟩) ?_ ?_; rotate_left
       ·intro w'; go_simp; with_reducible rfl
       rotate_left
       ·simp only [Act.put, Sa23, Sb23, Sc23, Zk, Zl]; rfl
       refine Zm (i := 40) (N := some 53) (v := ?_) (a' := ?_) (Bm23 50 2199023255551) rfl rfl (Zj HT_.out (by kernel_rfl)) (fun _ _ _ h => h) (Or.inl ⟨by rfl, ?_⟩) ?_ ?_; rotate_left
       ·intro w'; go_simp; with_reducible rfl
       rotate_left
       ·simp only [Act.put, Sa23, Sb23, Sc23, Zk, Zl]; rfl
       refine Zm (i := 41) (N := some 54) (v := undef) (a' := ?_) (Bm23 50 4398046511103) rfl rfl (Zj HT_.out (by kernel_rfl)) (fun _ _ _ h => h) (Or.inr ⟨by rfl, rfl⟩) ?_ ?_; rotate_left
       ·simp only [Act.put, Sa23, Sb23, Sc23, Zk, Zl]; rfl
       refine Zm (i := 42) (N := some 55) (v := undef) (a' := ?_) (Bm23 50 8796093022207) rfl rfl (Zj HT_.out (by kernel_rfl)) (fun _ _ _ h => h) (Or.inr ⟨by rfl, rfl⟩) ?_ ?_; rotate_left
       ·simp only [Act.put, Sa23, Sb23, Sc23, Zk, Zl]; rfl
       refine Zm (i := 43) (N := some 56) (v := undef) (a' := ?_) (Bm23 50 17592186044415) rfl rfl (Zj HT_.out (by kernel_rfl)) (fun _ _ _ h => h) (Or.inr ⟨by rfl, rfl⟩) ?_ ?_; rotate_left
       ·simp only [Act.put, Sa23, Sb23, Sc23, Zk, Zl]; rfl
       refine Zm (i := 44) (N := some 57) (v := undef) (a' := ?_) (Bm23 50 35184372088831) rfl rfl (Zj HT_.out (by kernel_rfl)) (fun _ _ _ h => h) (Or.inr ⟨by rfl, rfl⟩) ?_ ?_; rotate_left
       ·simp only [Act.put, Sa23, Sb23, Sc23, Zk, Zl]; rfl
       refine Zm (i := 45) (N := some 58) (v := undef) (a' := ?_) (Bm23 50 70368744177663) rfl rfl (Zj HT_.out (by kernel_rfl)) (fun _ _ _ h => h) (Or.inr ⟨by rfl, rfl⟩) ?_ ?_; rotate_left
       ·simp only [Act.put, Sa23, Sb23, Sc23, Zk, Zl]; rfl
       refine Zm (i := 46) (N := some 59) (v := undef) (a' := ?_) (Bm23 50 140737488355327) rfl rfl (Zj HT_.out (by kernel_rfl)) (fun _ _ _ h => h) (Or.inr ⟨by rfl, rfl⟩) ?_ ?_; rotate_left
       ·simp only [Act.put, Sa23, Sb23, Sc23, Zk, Zl]; rfl
       refine Zm (i := 47) (N := some 60) (v := undef) (a' := ?_) (Bm23 50 281474976710655) rfl rfl (Zj HT_.out (by kernel_rfl)) (fun _ _ _ h => h) (Or.inr ⟨by rfl, rfl⟩) ?_ ?_; rotate_left
       ·simp only [Act.put, Sa23, Sb23, Sc23, Zk, Zl]; rfl
       refine Zm (i := 48) (N := some 61) (v := undef) (a' := ?_) (Bm23 50 562949953421311) rfl rfl (Zj HT_.out (by kernel_rfl)) (fun _ _ _ h => h) (Or.inr ⟨by rfl, rfl⟩) ?_ ?_; rotate_left
       ·simp only [Act.put, Sa23, Sb23, Sc23, Zk, Zl]; rfl
       refine Zm (i := 49) (N := some 62) (v := ?_) (a' := ?_) (Bm23 50 1125899906842623) rfl rfl (Zj HT_.out (by kernel_rfl)) (fun _ _ _ h => h) (Or.inl ⟨by rfl, ?_⟩) ?_ ?_; rotate_left
       ·intro w'; go_simp; with_reducible rfl
       rotate_left
       ·simp only [Act.put, Sa23, Sb23, Sc23, Zk, Zl]; rfl
       refine done_ (done_of HT_.out (by kernel_rfl)) ?_; try go_wp2
       go_meet
       case rel => (try simp only [← Nbq15.out]); exact ⟨_, (true), (by first | rfl | (simp; done) | (simp [*]; done)), H', ⟨by first | omega | exact Nat.le_refl _⟩, ⟨by (with_reducible repeat (first | refine Zh ?_ _ | refine Zi ?_ | refine Zf ?_ _)); exact BK101.out⟩, ⟨by (with_reducible repeat (first | refine Zh ?_ _ | refine Zi ?_ | refine Zf ?_ _)); exact BK103.out⟩, ⟨by repeat (first | (with_reducible first | exact HB.out | apply Ze | apply Za | apply Zd | refine Zg ?_ GE101.out | refine Zg ?_ GE103.out) | exact HB.out)⟩⟩
    ·replace c14 := Bool.eq_false_iff.mpr c14; subst c14; rw [if_neg (show ¬ (false = true) by decide)] at H; have H' := Aside0.mk H; clear H; try go_wp2
     (try rw [← Nbq15.out])
     have n0_ : Aside0 (((((w8.setCell ⟨gb103, 0, none⟩ (.bool ((rd_T76 l0_2 a1).f0))).setCell ⟨gb103, 1, none⟩ (.int .i64 ((rd_T76 l0_2 a1).f1))).setCell ⟨gb103, 2, none⟩ (.slice A102_2 ((rd_T76 l0_2 a1).f2).length c102_2)).setCell ⟨gb103, 3, none⟩ (.slice A102_3 ((rd_T76 l0_2 a1).f3).length c102_3)).heap[gb101]? = some (.cells #[.slice A0_0 l0_0.length c0_0, .slice A0_1 l0_1.length c0_1, .slice (some ad102) l0_2.length c0_2, .int .i64 a0_3, .int .i64 a0_4] 35 (0, 0))) := ⟨by (with_reducible repeat (first | refine Zh ?_ _ | refine Zi ?_ | refine Zf ?_ _)); refine Zs ?_ NB101_103.out _; (with_reducible repeat (first | refine Zh ?_ _ | refine Zi ?_ | refine Zf ?_ _)); refine Zs ?_ NB101_103.out _; (with_reducible repeat (first | refine Zh ?_ _ | refine Zi ?_ | refine Zf ?_ _)); refine Zs ?_ NB101_103.out _; (with_reducible repeat (first | refine Zh ?_ _ | refine Zi ?_ | refine Zf ?_ _)); refine Zs ?_ NB101_103.out _; (with_reducible repeat (first | refine Zh ?_ _ | refine Zi ?_ | refine Zf ?_ _)); exact BK101.out⟩
     have n1_ : Aside0 (((((w8.setCell ⟨gb103, 0, none⟩ (.bool ((rd_T76 l0_2 a1).f0))).setCell ⟨gb103, 1, none⟩ (.int .i64 ((rd_T76 l0_2 a1).f1))).setCell ⟨gb103, 2, none⟩ (.slice A102_2 ((rd_T76 l0_2 a1).f2).length c102_2)).setCell ⟨gb103, 3, none⟩ (.slice A102_3 ((rd_T76 l0_2 a1).f3).length c102_3)).heap[gb103]? = some (.cells #[.bool ((rd_T76 l0_2 a1).f0), .int .i64 ((rd_T76 l0_2 a1).f1), .slice A102_2 ((rd_T76 l0_2 a1).f2).length c102_2, .slice A102_3 ((rd_T76 l0_2 a1).f3).length c102_3] 76 (0, 0))) := ⟨by (with_reducible repeat (first | refine Zh ?_ _ | refine Zi ?_ | refine Zf ?_ _)); refine Zt (cs := #[.bool ((rd_T76 l0_2 a1).f0), .int .i64 ((rd_T76 l0_2 a1).f1), .slice A102_2 ((rd_T76 l0_2 a1).f2).length c102_2, .slice none 0 0]) ?_ 3 _ rfl; (with_reducible repeat (first | refine Zh ?_ _ | refine Zi ?_ | refine Zf ?_ _)); refine Zt (cs := #[.bool ((rd_T76 l0_2 a1).f0), .int .i64 ((rd_T76 l0_2 a1).f1), .slice none 0 0, .slice none 0 0]) ?_ 2 _ rfl; (with_reducible repeat (first | refine Zh ?_ _ | refine Zi ?_ | refine Zf ?_ _)); refine Zt (cs := #[.bool ((rd_T76 l0_2 a1).f0), .int .i64 0, .slice none 0 0, .slice none 0 0]) ?_ 1 _ rfl; (with_reducible repeat (first | refine Zh ?_ _ | refine Zi ?_ | refine Zf ?_ _)); refine Zt (cs := #[.bool false, .int .i64 0, .slice none 0 0, .slice none 0 0]) ?_ 0 _ rfl; (with_reducible repeat (first | refine Zh ?_ _ | refine Zi ?_ | refine Zf ?_ _)); exact BK103.out⟩
     have n2_ : Aside0 (Below w.heap.size w ((((w8.setCell ⟨gb103, 0, none⟩ (.bool ((rd_T76 l0_2 a1).f0))).setCell ⟨gb103, 1, none⟩ (.int .i64 ((rd_T76 l0_2 a1).f1))).setCell ⟨gb103, 2, none⟩ (.slice A102_2 ((rd_T76 l0_2 a1).f2).length c102_2)).setCell ⟨gb103, 3, none⟩ (.slice A102_3 ((rd_T76 l0_2 a1).f3).length c102_3))) := ⟨by repeat (first | (with_reducible first | exact HB.out | apply Ze | apply Za | apply Zd | refine Zg ?_ GE101.out | refine Zg ?_ GE103.out) | exact HB.out)⟩
     (try clear BK101)
     (try clear BK103)
     (try clear HB)
     generalize ((((w8.setCell ⟨gb103, 0, none⟩ (.bool ((rd_T76 l0_2 a1).f0))).setCell ⟨gb103, 1, none⟩ (.int .i64 ((rd_T76 l0_2 a1).f1))).setCell ⟨gb103, 2, none⟩ (.slice A102_2 ((rd_T76 l0_2 a1).f2).length c102_2)).setCell ⟨gb103, 3, none⟩ (.slice A102_3 ((rd_T76 l0_2 a1).f3).length c102_3)) = w34 at n0_ n1_ n2_ ⊢; have BK101 := n0_; have BK103 := n1_; have HB := n2_; clear n0_ n1_ n2_; have n0_ := Aside0.mk (Zi BK101.out); have n1_ := Aside0.mk (Zi BK103.out); have n2_ := Aside0.mk (Zd HB.out); clear BK101; clear BK103; clear HB; have BK101 := n0_; have BK103 := n1_; have HB := n2_; clear n0_ n1_ n2_; refine start_ (n := 50) (S := fun w' => w'.cell? ⟨gb103, 0, none⟩ = some (.bool ((rd_T76 l0_2 a1).f0)) ∧ w'.cell? ⟨gb103, 1, none⟩ = some (.int .i64 ((rd_T76 l0_2 a1).f1)) ∧ w'.cell? ⟨gb103, 2, none⟩ = some (.slice A102_2 ((rd_T76 l0_2 a1).f2).length c102_2) ∧ w'.cell? ⟨gb103, 3, none⟩ = some (.slice A102_3 ((rd_T76 l0_2 a1).f3).length c102_3) ∧ w'.cell? ⟨gb101, 0, none⟩ = some (.slice A0_0 l0_0.length c0_0) ∧ w'.cell? ⟨gb101, 1, none⟩ = some (.slice A0_1 l0_1.length c0_1) ∧ w'.cell? ⟨gb101, 2, none⟩ = some (.slice (some ad102) l0_2.length c0_2) ∧ w'.cell? ⟨gb101, 3, none⟩ = some (.int .i64 a0_3) ∧ w'.cell? ⟨gb101, 4, none⟩ = some (.int .i64 a0_4)) (ds := []) #[false, false, false, false, false, false, false, false, false, false, false, false, false, false, false, false, false, false, false, false, false, false, false, false, false, false, false, false, false, false, false, false, false, false, false, false, false, false, false, false, false, false, false, false, false, false, false, false, false, false] (by kernel_rfl) rfl rfl ⟨(Zb BK103.out 0).trans rfl, (Zb BK103.out 1).trans rfl, (Zb BK103.out 2).trans rfl, (Zb BK103.out 3).trans rfl, (Zb BK101.out 0).trans rfl, (Zb BK101.out 1).trans rfl, (Zb BK101.out 2).trans rfl, (Zb BK101.out 3).trans rfl, (Zb BK101.out 4).trans rfl⟩ (fun hHeld => ?_); refine with_tabW spec_l8Picture.tab2 spec_l8Picture.bits2 (fun HT_ HW_ => ?_)
     generalize w34.drew = w35 at BK101 BK103 HB hHeld ⊢; refine Zm (i := 0) (N := some 13) (v := ?_) (a' := ?_) (Bm23 50 1) rfl rfl (Zj HT_.out (by kernel_rfl)) (fun _ _ _ h => h) (Or.inl ⟨by rfl, ?_⟩) ?_ ?_; rotate_left
     ·intro w'; go_simp; with_reducible rfl
     rotate_left
     ·simp only [Act.put, Sa23, Sb23, Sc23, Zk, Zl]; rfl
     refine Zm (i := 3) (N := some 16) (v := ?_) (a' := ?_) (Bm23 50 9) rfl rfl (Zj HT_.out (by kernel_rfl)) (fun _ _ _ h => h) (Or.inl ⟨by rfl, ?_⟩) ?_ ?_; rotate_left
     ·intro w'; go_simp; with_reducible rfl
     rotate_left
     ·simp only [Act.put, Sa23, Sb23, Sc23, Zk, Zl]; rfl
     refine take_ (i := 1) (N := some 14) (v := ?_) (a' := ?_) (Bm23 50 11) rfl rfl (Zr HT_.out HW_.out (by kernel_rfl)) (fun _ _ _ h => h) (Or.inl ⟨by rfl, ?_⟩) hHeld ?_ ?_; rotate_left
     ·rintro w' ⟨s0, s1, s2, s3, s4, s5, s6, s7, s8⟩
      go_simp; with_reducible rfl
     rotate_left
     ·simp only [Act.put, Sa23, Sb23, Sc23, Zk, Zl]; rfl
     refine Zm (i := 2) (N := some 15) (v := ?_) (a' := ?_) (Bm23 50 15) rfl rfl (Zj HT_.out (by kernel_rfl)) (fun _ _ _ h => h) (Or.inl ⟨by rfl, ?_⟩) ?_ ?_; rotate_left
     ·intro w'; go_simp; with_reducible rfl
     rotate_left
     ·simp only [Act.put, Sa23, Sb23, Sc23, Zk, Zl]; rfl
     refine take_ (i := 4) (N := some 17) (v := ?_) (a' := ?_) (Bm23 50 31) rfl rfl (Zr HT_.out HW_.out (by kernel_rfl)) (fun _ _ _ h => h) (Or.inl ⟨by rfl, ?_⟩) hHeld ?_ ?_; rotate_left
     ·rintro w' ⟨s0, s1, s2, s3, s4, s5, s6, s7, s8⟩
      go_simp; with_reducible rfl
     rotate_left
     ·simp only [Act.put, Sa23, Sb23, Sc23, Zk, Zl]; rfl
     refine Zm (i := 5) (N := some 18) (v := ?_) (a' := ?_) (Bm23 50 63) rfl rfl (Zj HT_.out (by kernel_rfl)) (fun _ _ _ h => h) (Or.inl ⟨by rfl, ?_⟩) ?_ ?_; rotate_left
     ·intro w'; go_simp; with_reducible rfl
     rotate_left
     ·simp only [Act.put, Sa23, Sb23, Sc23, Zk, Zl]; rfl
     refine Zm (i := 6) (N := some 19) (v := ?_) (a' := ?_) (Bm23 50 127) rfl rfl (Zj HT_.out (by kernel_rfl)) (fun _ _ _ h => h) (Or.inl ⟨by rfl, ?_⟩) ?_ ?_; rotate_left
     ·intro w'; go_simp; with_reducible rfl
     rotate_left
     ·simp only [Act.put, Sa23, Sb23, Sc23, Zk, Zl]; rfl
     refine Zm (i := 7) (N := some 20) (v := ?_) (a' := ?_) (Bm23 50 255) rfl rfl (Zj HT_.out (by kernel_rfl)) (fun _ _ _ h => h) (Or.inl ⟨by rfl, ?_⟩) ?_ ?_; rotate_left
     ·intro w'; go_simp; with_reducible rfl
     rotate_left
     ·simp only [Act.put, Sa23, Sb23, Sc23, Zk, Zl]; rfl
     refine Zm (i := 8) (N := some 21) (v := ?_) (a' := ?_) (Bm23 50 511) rfl rfl (Zj HT_.out (by kernel_rfl)) (fun _ _ _ h => h) (Or.inl ⟨by rfl, ?_⟩) ?_ ?_; rotate_left
     ·intro w'; go_simp; with_reducible rfl
     rotate_left
     ·simp only [Act.put, Sa23, Sb23, Sc23, Zk, Zl]; rfl
     refine Zm (i := 11) (N := some 24) (v := ?_) (a' := ?_) (Bm23 50 2559) rfl rfl (Zj HT_.out (by kernel_rfl)) (fun _ _ _ h => h) (Or.inl ⟨by rfl, ?_⟩) ?_ ?_; rotate_left
     ·intro w'; go_simp; with_reducible rfl
     rotate_left
     ·simp only [Act.put, Sa23, Sb23, Sc23, Zk, Zl]; rfl
     refine take_ (i := 9) (N := some 22) (v := ?_) (a' := ?_) (Bm23 50 3071) rfl rfl (Zr HT_.out HW_.out (by kernel_rfl)) (fun _ _ _ h => h) (Or.inl ⟨by rfl, ?_⟩) hHeld ?_ ?_; rotate_left
     ·rintro w' ⟨s0, s1, s2, s3, s4, s5, s6, s7, s8⟩
      go_simp; with_reducible rfl
     rotate_left
     ·simp only [Act.put, Sa23, Sb23, Sc23, Zk, Zl]; rfl
     refine Zm (i := 10) (N := some 23) (v := ?_) (a' := ?_) (Bm23 50 4095) rfl rfl (Zj HT_.out (by kernel_rfl)) (fun _ _ _ h => h) (Or.inl ⟨by rfl, ?_⟩) ?_ ?_; rotate_left
     ·intro w'; go_simp; with_reducible rfl
     rotate_left
     ·simp only [Act.put, Sa23, Sb23, Sc23, Zk, Zl]; rfl
     refine take_ (i := 12) (N := some 25) (v := ?_) (a' := ?_) (Bm23 50 8191) rfl rfl (Zr HT_.out HW_.out (by kernel_rfl)) (fun _ _ _ h => h) (Or.inl ⟨by rfl, ?_⟩) hHeld ?_ ?_; rotate_left
     ·rintro w' ⟨s0, s1, s2, s3, s4, s5, s6, s7, s8⟩
      go_simp; with_reducible rfl
     rotate_left
     ·simp only [Act.put, Sa23, Sb23, Sc23, Zk, Zl]; rfl
     refine Zm (i := 13) (N := some 26) (v := ?_) (a' := ?_) (Bm23 50 16383) rfl rfl (Zj HT_.out (by kernel_rfl)) (fun _ _ _ h => h) (Or.inl ⟨by rfl, ?_⟩) ?_ ?_; rotate_left
     ·intro w'; go_simp; with_reducible rfl
     rotate_left
     ·simp only [Act.put, Sa23, Sb23, Sc23, Zk, Zl]; rfl
     refine Zm (i := 14) (N := some 27) (v := ?_) (a' := ?_) (Bm23 50 32767) rfl rfl (Zj HT_.out (by kernel_rfl)) (fun _ _ _ h => h) (Or.inl ⟨by rfl, ?_⟩) ?_ ?_; rotate_left
     ·intro w'; go_simp; with_reducible rfl
     rotate_left
     ·simp only [Act.put, Sa23, Sb23, Sc23, Zk, Zl]; rfl
     refine Zm (i := 15) (N := some 28) (v := ?_) (a' := ?_) (Bm23 50 65535) rfl rfl (Zj HT_.out (by kernel_rfl)) (fun _ _ _ h => h) (Or.inl ⟨by rfl, ?_⟩) ?_ ?_; rotate_left
     ·intro w'; go_simp; with_reducible rfl
     rotate_left
     ·simp only [Act.put, Sa23, Sb23, Sc23, Zk, Zl]; rfl
     refine Zm (i := 16) (N := some 29) (v := ?_) (a' := ?_) (Bm23 50 131071) rfl rfl (Zj HT_.out (by kernel_rfl)) (fun _ _ _ h => h) (Or.inl ⟨by rfl, ?_⟩) ?_ ?_; rotate_left
     ·intro w'; go_simp; with_reducible rfl
     rotate_left
     ·simp only [Act.put, Sa23, Sb23, Sc23, Zk, Zl]; rfl
     refine Zm (i := 17) (N := some 30) (v := ?_) (a' := ?_) (Bm23 50 262143) rfl rfl (Zj HT_.out (by kernel_rfl)) (fun _ _ _ h => h) (Or.inl ⟨by rfl, ?_⟩) ?_ ?_; rotate_left
     ·intro w'; go_simp; with_reducible rfl
     rotate_left
     ·simp only [Act.put, Sa23, Sb23, Sc23, Zk, Zl]; rfl
     refine take_ (i := 18) (N := some 31) (v := ?_) (a' := ?_) (Bm23 50 524287) rfl rfl (Zr HT_.out HW_.out (by kernel_rfl)) (fun _ _ _ h => h) (Or.inl ⟨by rfl, ?_⟩) hHeld ?_ ?_; rotate_left
     ·rintro w' ⟨s0, s1, s2, s3, s4, s5, s6, s7, s8⟩
      go_simp; with_reducible rfl
     rotate_left
     ·simp only [Act.put, Sa23, Sb23, Sc23, Zk, Zl]; rfl
     refine one_ (i := 19) (N := some 32) (Bm23 50 1048575) rfl rfl (one_of HT_.out (by kernel_rfl)) (by decide) (fun K hK => ?_); refine goes_ Try.func43 (by kernel_rfl) rfl #[.int .i64 ((rd_T76 l0_2 a1).f1), .int .i64 0, .int .i64 1000] (by rfl) rfl rfl (by (try simp only [List.map_toArray, List.map_cons, List.map_nil]); first | done | rfl | (simp only [List.length_drop, List.length_take]; rfl)) ?_; with_reducible refine (spec_l1In.calls ((rd_T76 l0_2 a1).f1) 0 1000 false _ A13.out).mono ?_
     rintro e w' ⟨rfl, ⟨nd, rfl⟩⟩
     refine ⟨_, rfl, ?_⟩; refine hK.out _ _ ⟨(Zb BK103.out 0).trans rfl, (Zb BK103.out 1).trans rfl, (Zb BK103.out 2).trans rfl, (Zb BK103.out 3).trans rfl, (Zb BK101.out 0).trans rfl, (Zb BK101.out 1).trans rfl, (Zb BK101.out 2).trans rfl, (Zb BK101.out 3).trans rfl, (Zb BK101.out 4).trans rfl⟩ (fun hHeld => ?_); clear hK K; refine norm_ (a' := ?_) ?_ ?_; rotate_left
     ·show Act.put _ (some 32) _ = _
      simp only [Act.put, Sa23, Sb23, Sc23, Zk, Zl]; rfl
     refine Zm (i := 20) (N := some 33) (v := ?_) (a' := ?_) (Bm23 50 2097151) rfl rfl (Zj HT_.out (by kernel_rfl)) (fun _ _ _ h => h) (Or.inl ⟨by rfl, ?_⟩) ?_ ?_; rotate_left
     ·intro w'; go_simp; with_reducible rfl
     rotate_left
     ·simp only [Act.put, Sa23, Sb23, Sc23, Zk, Zl]; rfl
     refine Zm (i := 21) (N := some 34) (v := ?_) (a' := ?_) (Bm23 50 4194303) rfl rfl (Zj HT_.out (by kernel_rfl)) (fun _ _ _ h => h) (Or.inl ⟨by rfl, ?_⟩) ?_ ?_; rotate_left
     ·intro w'; go_simp; with_reducible rfl
     rotate_left
     ·simp only [Act.put, Sa23, Sb23, Sc23, Zk, Zl]; rfl
     refine Zm (i := 22) (N := some 35) (v := ?_) (a' := ?_) (Bm23 50 8388607) rfl rfl (Zj HT_.out (by kernel_rfl)) (fun _ _ _ h => h) (Or.inl ⟨by rfl, ?_⟩) ?_ ?_; rotate_left
     ·intro w'; go_simp; with_reducible rfl
     rotate_left
     ·simp only [Act.put, Sa23, Sb23, Sc23, Zk, Zl]; rfl
     refine Zm (i := 23) (N := some 36) (v := undef) (a' := ?_) (Bm23 50 16777215) rfl rfl (Zj HT_.out (by kernel_rfl)) (fun _ _ _ h => h) (Or.inr ⟨by rfl, rfl⟩) ?_ ?_; rotate_left
     ·simp only [Act.put, Sa23, Sb23, Sc23, Zk, Zl]; rfl
     refine Zm (i := 24) (N := some 37) (v := undef) (a' := ?_) (Bm23 50 33554431) rfl rfl (Zj HT_.out (by kernel_rfl)) (fun _ _ _ h => h) (Or.inr ⟨by rfl, rfl⟩) ?_ ?_; rotate_left
     ·simp only [Act.put, Sa23, Sb23, Sc23, Zk, Zl]; rfl
     refine Zm (i := 25) (N := some 38) (v := undef) (a' := ?_) (Bm23 50 67108863) rfl rfl (Zj HT_.out (by kernel_rfl)) (fun _ _ _ h => h) (Or.inr ⟨by rfl, rfl⟩) ?_ ?_; rotate_left
     ·simp only [Act.put, Sa23, Sb23, Sc23, Zk, Zl]; rfl
     refine Zm (i := 26) (N := some 39) (v := undef) (a' := ?_) (Bm23 50 134217727) rfl rfl (Zj HT_.out (by kernel_rfl)) (fun _ _ _ h => h) (Or.inr ⟨by rfl, rfl⟩) ?_ ?_; rotate_left
     ·simp only [Act.put, Sa23, Sb23, Sc23, Zk, Zl]; rfl
     refine Zm (i := 27) (N := some 40) (v := undef) (a' := ?_) (Bm23 50 268435455) rfl rfl (Zj HT_.out (by kernel_rfl)) (fun _ _ _ h => h) (Or.inr ⟨by rfl, rfl⟩) ?_ ?_; rotate_left
     ·simp only [Act.put, Sa23, Sb23, Sc23, Zk, Zl]; rfl
     refine Zm (i := 28) (N := some 41) (v := undef) (a' := ?_) (Bm23 50 536870911) rfl rfl (Zj HT_.out (by kernel_rfl)) (fun _ _ _ h => h) (Or.inr ⟨by rfl, rfl⟩) ?_ ?_; rotate_left
     ·simp only [Act.put, Sa23, Sb23, Sc23, Zk, Zl]; rfl
     refine Zm (i := 29) (N := some 42) (v := undef) (a' := ?_) (Bm23 50 1073741823) rfl rfl (Zj HT_.out (by kernel_rfl)) (fun _ _ _ h => h) (Or.inr ⟨by rfl, rfl⟩) ?_ ?_; rotate_left
     ·simp only [Act.put, Sa23, Sb23, Sc23, Zk, Zl]; rfl
     refine Zm (i := 30) (N := some 43) (v := undef) (a' := ?_) (Bm23 50 2147483647) rfl rfl (Zj HT_.out (by kernel_rfl)) (fun _ _ _ h => h) (Or.inr ⟨by rfl, rfl⟩) ?_ ?_; rotate_left
     ·simp only [Act.put, Sa23, Sb23, Sc23, Zk, Zl]; rfl
     refine Zm (i := 31) (N := some 44) (v := ?_) (a' := ?_) (Bm23 50 4294967295) rfl rfl (Zj HT_.out (by kernel_rfl)) (fun _ _ _ h => h) (Or.inl ⟨by rfl, ?_⟩) ?_ ?_; rotate_left
     ·intro w'; go_simp; with_reducible rfl
     rotate_left
     ·simp only [Act.put, Sa23, Sb23, Sc23, Zk, Zl]; rfl
     refine Zm (i := 32) (N := some 45) (v := ?_) (a' := ?_) (Bm23 50 8589934591) rfl rfl (Zj HT_.out (by kernel_rfl)) (fun _ _ _ h => h) (Or.inl ⟨by rfl, ?_⟩) ?_ ?_; rotate_left
     ·intro w'; go_simp; with_reducible rfl
     rotate_left
     ·simp only [Act.put, Sa23, Sb23, Sc23, Zk, Zl]; rfl
     refine Zm (i := 33) (N := some 46) (v := undef) (a' := ?_) (Bm23 50 17179869183) rfl rfl (Zj HT_.out (by kernel_rfl)) (fun _ _ _ h => h) (Or.inr ⟨by rfl, rfl⟩) ?_ ?_; rotate_left
     ·simp only [Act.put, Sa23, Sb23, Sc23, Zk, Zl]; rfl
     refine Zm (i := 34) (N := some 47) (v := undef) (a' := ?_) (Bm23 50 34359738367) rfl rfl (Zj HT_.out (by kernel_rfl)) (fun _ _ _ h => h) (Or.inr ⟨by rfl, rfl⟩) ?_ ?_; rotate_left
     ·simp only [Act.put, Sa23, Sb23, Sc23, Zk, Zl]; rfl
     refine Zm (i := 35) (N := some 48) (v := undef) (a' := ?_) (Bm23 50 68719476735) rfl rfl (Zj HT_.out (by kernel_rfl)) (fun _ _ _ h => h) (Or.inr ⟨by rfl, rfl⟩) ?_ ?_; rotate_left
     ·simp only [Act.put, Sa23, Sb23, Sc23, Zk, Zl]; rfl
     refine Zm (i := 36) (N := some 49) (v := undef) (a' := ?_) (Bm23 50 137438953471) rfl rfl (Zj HT_.out (by kernel_rfl)) (fun _ _ _ h => h) (Or.inr ⟨by rfl, rfl⟩) ?_ ?_; rotate_left
     ·simp only [Act.put, Sa23, Sb23, Sc23, Zk, Zl]; rfl
     refine Zm (i := 37) (N := some 50) (v := undef) (a' := ?_) (Bm23 50 274877906943) rfl rfl (Zj HT_.out (by kernel_rfl)) (fun _ _ _ h => h) (Or.inr ⟨by rfl, rfl⟩) ?_ ?_; rotate_left
     ·simp only [Act.put, Sa23, Sb23, Sc23, Zk, Zl]; rfl
     refine Zm (i := 38) (N := some 51) (v := undef) (a' := ?_) (Bm23 50 549755813887) rfl rfl (Zj HT_.out (by kernel_rfl)) (fun _ _ _ h => h) (Or.inr ⟨by rfl, rfl⟩) ?_ ?_; rotate_left
     ·simp only [Act.put, Sa23, Sb23, Sc23, Zk, Zl]; rfl
     refine Zm (i := 39) (N := some 52) (v := ?_) (a' := ?_) (Bm23 50 1099511627775) rfl rfl (Zj HT_.out (by kernel_rfl)) (fun _ _ _ h => h) (Or.inl ⟨by rfl, ?_⟩) ?_ ?_; rotate_left
     ·intro w'; go_simp; with_reducible rfl
     rotate_left
     ·simp only [Act.put, Sa23, Sb23, Sc23, Zk, Zl]; rfl
     refine Zm (i := 40) (N := some 53) (v := ?_) (a' := ?_) (Bm23 50 2199023255551) rfl rfl (Zj HT_.out (by kernel_rfl)) (fun _ _ _ h => h) (Or.inl ⟨by rfl, ?_⟩) ?_ ?_; rotate_left
     ·intro w'; go_simp; with_reducible rfl
     rotate_left
     ·simp only [Act.put, Sa23, Sb23, Sc23, Zk, Zl]; rfl
     refine Zm (i := 41) (N := some 54) (v := undef) (a' := ?_) (Bm23 50 4398046511103) rfl rfl (Zj HT_.out (by kernel_rfl)) (fun _ _ _ h => h) (Or.inr ⟨by rfl, rfl⟩) ?_ ?_; rotate_left
     ·simp only [Act.put, Sa23, Sb23, Sc23, Zk, Zl]; rfl
     refine Zm (i := 42) (N := some 55) (v := undef) (a' := ?_) (Bm23 50 8796093022207) rfl rfl (Zj HT_.out (by kernel_rfl)) (fun _ _ _ h => h) (Or.inr ⟨by rfl, rfl⟩) ?_ ?_; rotate_left
     ·simp only [Act.put, Sa23, Sb23, Sc23, Zk, Zl]; rfl
     refine Zm (i := 43) (N := some 56) (v := undef) (a' := ?_) (Bm23 50 17592186044415) rfl rfl (Zj HT_.out (by kernel_rfl)) (fun _ _ _ h => h) (Or.inr ⟨by rfl, rfl⟩) ?_ ?_; rotate_left
     ·simp only [Act.put, Sa23, Sb23, Sc23, Zk, Zl]; rfl
     refine Zm (i := 44) (N := some 57) (v := undef) (a' := ?_) (Bm23 50 35184372088831) rfl rfl (Zj HT_.out (by kernel_rfl)) (fun _ _ _ h => h) (Or.inr ⟨by rfl, rfl⟩) ?_ ?_; rotate_left
     ·simp only [Act.put, Sa23, Sb23, Sc23, Zk, Zl]; rfl
     refine Zm (i := 45) (N := some 58) (v := undef) (a' := ?_) (Bm23 50 70368744177663) rfl rfl (Zj HT_.out (by kernel_rfl)) (fun _ _ _ h => h) (Or.inr ⟨by rfl, rfl⟩) ?_ ?_; rotate_left
     ·simp only [Act.put, Sa23, Sb23, Sc23, Zk, Zl]; rfl
     refine Zm (i := 46) (N := some 59) (v := undef) (a' := ?_) (Bm23 50 140737488355327) rfl rfl (Zj HT_.out (by kernel_rfl)) (fun _ _ _ h => h) (Or.inr ⟨by rfl, rfl⟩) ?_ ?_; rotate_left
     ·simp only [Act.put, Sa23, Sb23, Sc23, Zk, Zl]; rfl
     refine Zm (i := 47) (N := some 60) (v := undef) (a' := ?_) (Bm23 50 281474976710655) rfl rfl (Zj HT_.out (by kernel_rfl)) (fun _ _ _ h => h) (Or.inr ⟨by rfl, rfl⟩) ?_ ?_; rotate_left
     ·simp only [Act.put, Sa23, Sb23, Sc23, Zk, Zl]; rfl
     refine Zm (i := 48) (N := some 61) (v := undef) (a' := ?_) (Bm23 50 562949953421311) rfl rfl (Zj HT_.out (by kernel_rfl)) (fun _ _ _ h => h) (Or.inr ⟨by rfl, rfl⟩) ?_ ?_; rotate_left
     ·simp only [Act.put, Sa23, Sb23, Sc23, Zk, Zl]; rfl
     refine Zm (i := 49) (N := some 62) (v := ?_) (a' := ?_) (Bm23 50 1125899906842623) rfl rfl (Zj HT_.out (by kernel_rfl)) (fun _ _ _ h => h) (Or.inl ⟨by rfl, ?_⟩) ?_ ?_; rotate_left
     ·intro w'; go_simp; with_reducible rfl
     rotate_left
     ·simp only [Act.put, Sa23, Sb23, Sc23, Zk, Zl]; rfl
     refine done_ (done_of HT_.out (by kernel_rfl)) ?_; try go_wp2
     go_meet
     case rel => exact ⟨_, (true), (by first | rfl | (simp; done) | (simp [*]; done)), H', ⟨by first | omega | exact Nat.le_refl _⟩, ⟨by (with_reducible repeat (first | refine Zh ?_ _ | refine Zi ?_ | refine Zf ?_ _)); exact BK101.out⟩, ⟨by (with_reducible repeat (first | refine Zh ?_ _ | refine Zi ?_ | refine Zf ?_ _)); exact BK103.out⟩, ⟨by repeat (first | (with_reducible first | exact HB.out | apply Ze | apply Za | apply Zd | refine Zg ?_ GE101.out | refine Zg ?_ GE103.out) | exact HB.out)⟩⟩
   ·rw [if_neg c12] at H; have c12b0 : ((((rd_T76 l0_2 a1).f3).length : Int) == (l0_0.length : Int)) = false := beq_eq_false_iff_ne.mpr c12; have c12b1 : ((((rd_T76 l0_2 a1).f3).length : Int) != (l0_0.length : Int)) = true := bne_iff_ne.mpr c12; have c12b2 : (((rd_T76 l0_2 a1).f3).length == l0_0.length) = false := by first | simpa using c12 | (simp at c12 ⊢; omega)
    have H' := Aside0.mk H; clear H; try go_wp2
    (try rw [← Nbq15.out])
    have n0_ : Aside0 (((((w8.setCell ⟨gb103, 0, none⟩ (.bool ((rd_T76 l0_2 a1).f0))).setCell ⟨gb103, 1, none⟩ (.int .i64 ((rd_T76 l0_2 a1).f1))).setCell ⟨gb103, 2, none⟩ (.slice A102_2 ((rd_T76 l0_2 a1).f2).length c102_2)).setCell ⟨gb103, 3, none⟩ (.slice A102_3 ((rd_T76 l0_2 a1).f3).length c102_3)).heap[gb101]? = some (.cells #[.slice A0_0 l0_0.length c0_0, .slice A0_1 l0_1.length c0_1, .slice (some ad102) l0_2.length c0_2, .int .i64 a0_3, .int .i64 a0_4] 35 (0, 0))) := ⟨by (with_reducible repeat (first | refine Zh ?_ _ | refine Zi ?_ | refine Zf ?_ _)); refine Zs ?_ NB101_103.out _; (with_reducible repeat (first | refine Zh ?_ _ | refine Zi ?_ | refine Zf ?_ _)); refine Zs ?_ NB101_103.out _; (with_reducible repeat (first | refine Zh ?_ _ | refine Zi ?_ | refine Zf ?_ _)); refine Zs ?_ NB101_103.out _; (with_reducible repeat (first | refine Zh ?_ _ | refine Zi ?_ | refine Zf ?_ _)); refine Zs ?_ NB101_103.out _; (with_reducible repeat (first | refine Zh ?_ _ | refine Zi ?_ | refine Zf ?_ _)); exact BK101.out⟩
    have n1_ : Aside0 (((((w8.setCell ⟨gb103, 0, none⟩ (.bool ((rd_T76 l0_2 a1).f0))).setCell ⟨gb103, 1, none⟩ (.int .i64 ((rd_T76 l0_2 a1).f1))).setCell ⟨gb103, 2, none⟩ (.slice A102_2 ((rd_T76 l0_2 a1).f2).length c102_2)).setCell ⟨gb103, 3, none⟩ (.slice A102_3 ((rd_T76 l0_2 a1).f3).length c102_3)).heap[gb103]? = some (.cells #[.bool ((rd_T76 l0_2 a1).f0), .int .i64 ((rd_T76 l0_2 a1).f1), .slice A102_2 ((rd_T76 l0_2 a1).f2).length c102_2, .slice A102_3 ((rd_T76 l0_2 a1).f3).length c102_3] 76 (0, 0))) := ⟨by (with_reducible repeat (first | refine Zh ?_ _ | refine Zi ?_ | refine Zf ?_ _)); refine Zt (cs := #[.bool ((rd_T76 l0_2 a1).f0), .int .i64 ((rd_T76 l0_2 a1).f1), .slice A102_2 ((rd_T76 l0_2 a1).f2).length c102_2, .slice none 0 0]) ?_ 3 _ rfl; (with_reducible repeat (first | refine Zh ?_ _ | refine Zi ?_ | refine Zf ?_ _)); refine Zt (cs := #[.bool ((rd_T76 l0_2 a1).f0), .int .i64 ((rd_T76 l0_2 a1).f1), .slice none 0 0, .slice none 0 0]) ?_ 2 _ rfl; (with_reducible repeat (first | refine Zh ?_ _ | refine Zi ?_ | refine Zf ?_ _)); refine Zt (cs := #[.bool ((rd_T76 l0_2 a1).f0), .int .i64 0, .slice none 0 0, .slice none 0 0]) ?_ 1 _ rfl; (with_reducible repeat (first | refine Zh ?_ _ | refine Zi ?_ | refine Zf ?_ _)); refine Zt (cs := #[.bool false, .int .i64 0, .slice none 0 0, .slice none 0 0]) ?_ 0 _ rfl; (with_reducible repeat (first | refine Zh ?_ _ | refine Zi ?_ | refine Zf ?_ _)); exact BK103.out⟩
    have n2_ : Aside0 (Below w.heap.size w ((((w8.setCell ⟨gb103, 0, none⟩ (.bool ((rd_T76 l0_2 a1).f0))).setCell ⟨gb103, 1, none⟩ (.int .i64 ((rd_T76 l0_2 a1).f1))).setCell ⟨gb103, 2, none⟩ (.slice A102_2 ((rd_T76 l0_2 a1).f2).length c102_2)).setCell ⟨gb103, 3, none⟩ (.slice A102_3 ((rd_T76 l0_2 a1).f3).length c102_3))) := ⟨by repeat (first | (with_reducible first | exact HB.out | apply Ze | apply Za | apply Zd | refine Zg ?_ GE101.out | refine Zg ?_ GE103.out) | exact HB.out)⟩
    (try clear BK101)
    (try clear BK103)
    (try clear HB)
    generalize ((((w8.setCell ⟨gb103, 0, none⟩ (.bool ((rd_T76 l0_2 a1).f0))).setCell ⟨gb103, 1, none⟩ (.int .i64 ((rd_T76 l0_2 a1).f1))).setCell ⟨gb103, 2, none⟩ (.slice A102_2 ((rd_T76 l0_2 a1).f2).length c102_2)).setCell ⟨gb103, 3, none⟩ (.slice A102_3 ((rd_T76 l0_2 a1).f3).length c102_3)) = w36 at n0_ n1_ n2_ ⊢; have BK101 := n0_; have BK103 := n1_; have HB := n2_; clear n0_ n1_ n2_; have n0_ := Aside0.mk (Zi BK101.out); have n1_ := Aside0.mk (Zi BK103.out); have n2_ := Aside0.mk (Zd HB.out); clear BK101; clear BK103; clear HB; have BK101 := n0_; have BK103 := n1_; have HB := n2_; clear n0_ n1_ n2_; refine start_ (n := 50) (S := fun w' => w'.cell? ⟨gb103, 0, none⟩ = some (.bool ((rd_T76 l0_2 a1).f0)) ∧ w'.cell? ⟨gb103, 1, none⟩ = some (.int .i64 ((rd_T76 l0_2 a1).f1)) ∧ w'.cell? ⟨gb103, 2, none⟩ = some (.slice A102_2 ((rd_T76 l0_2 a1).f2).length c102_2) ∧ w'.cell? ⟨gb103, 3, none⟩ = some (.slice A102_3 ((rd_T76 l0_2 a1).f3).length c102_3) ∧ w'.cell? ⟨gb101, 0, none⟩ = some (.slice A0_0 l0_0.length c0_0) ∧ w'.cell? ⟨gb101, 1, none⟩ = some (.slice A0_1 l0_1.length c0_1) ∧ w'.cell? ⟨gb101, 2, none⟩ = some (.slice (some ad102) l0_2.length c0_2) ∧ w'.cell? ⟨gb101, 3, none⟩ = some (.int .i64 a0_3) ∧ w'.cell? ⟨gb101, 4, none⟩ = some (.int .i64 a0_4)) (ds := []) #[false, false, false, false, false, false, false, false, false, false, false, false, false, false, false, false, false, false, false, false, false, false, false, false, false, false, false, false, false, false, false, false, false, false, false, false, false, false, false, false, false, false, false, false, false, false, false, false, false, false] (by kernel_rfl) rfl rfl ⟨(Zb BK103.out 0).trans rfl, (Zb BK103.out 1).trans rfl, (Zb BK103.out 2).trans rfl, (Zb BK103.out 3).trans rfl, (Zb BK101.out 0).trans rfl, (Zb BK101.out 1).trans rfl, (Zb BK101.out 2).trans rfl, (Zb BK101.out 3).trans rfl, (Zb BK101.out 4).trans rfl⟩ (fun hHeld => ?_); refine with_tabW spec_l8Picture.tab2 spec_l8Picture.bits2 (fun HT_ HW_ => ?_)
    generalize w36.drew = w37 at BK101 BK103 HB hHeld ⊢; refine Zm (i := 0) (N := some 13) (v := ?_) (a' := ?_) (Bm23 50 1) rfl rfl (Zj HT_.out (by kernel_rfl)) (fun _ _ _ h => h) (Or.inl ⟨by rfl, ?_⟩) ?_ ?_; rotate_left
    ·intro w'; go_simp; with_reducible rfl
    rotate_left
    ·simp only [Act.put, Sa23, Sb23, Sc23, Zk, Zl]; rfl
    refine Zm (i := 3) (N := some 16) (v := ?_) (a' := ?_) (Bm23 50 9) rfl rfl (Zj HT_.out (by kernel_rfl)) (fun _ _ _ h => h) (Or.inl ⟨by rfl, ?_⟩) ?_ ?_; rotate_left
    ·intro w'; go_simp; with_reducible rfl
    rotate_left
    ·simp only [Act.put, Sa23, Sb23, Sc23, Zk, Zl]; rfl
    refine take_ (i := 1) (N := some 14) (v := ?_) (a' := ?_) (Bm23 50 11) rfl rfl (Zr HT_.out HW_.out (by kernel_rfl)) (fun _ _ _ h => h) (Or.inl ⟨by rfl, ?_⟩) hHeld ?_ ?_; rotate_left
    ·rintro w' ⟨s0, s1, s2, s3, s4, s5, s6, s7, s8⟩
     go_simp; with_reducible rfl
    rotate_left
    ·simp only [Act.put, Sa23, Sb23, Sc23, Zk, Zl]; rfl
    refine Zm (i := 2) (N := some 15) (v := ?_) (a' := ?_) (Bm23 50 15) rfl rfl (Zj HT_.out (by kernel_rfl)) (fun _ _ _ h => h) (Or.inl ⟨by rfl, ?_⟩) ?_ ?_; rotate_left
    ·intro w'; go_simp; with_reducible rfl
    rotate_left
    ·simp only [Act.put, Sa23, Sb23, Sc23, Zk, Zl]; rfl
    refine take_ (i := 4) (N := some 17) (v := ?_) (a' := ?_) (Bm23 50 31) rfl rfl (Zr HT_.out HW_.out (by kernel_rfl)) (fun _ _ _ h => h) (Or.inl ⟨by rfl, ?_⟩) hHeld ?_ ?_; rotate_left
    ·rintro w' ⟨s0, s1, s2, s3, s4, s5, s6, s7, s8⟩
     go_simp; with_reducible rfl
    rotate_left
    ·simp only [Act.put, Sa23, Sb23, Sc23, Zk, Zl]; rfl
    refine Zm (i := 5) (N := some 18) (v := ?_) (a' := ?_) (Bm23 50 63) rfl rfl (Zj HT_.out (by kernel_rfl)) (fun _ _ _ h => h) (Or.inl ⟨by rfl, ?_⟩) ?_ ?_; rotate_left
    ·intro w'; go_simp; with_reducible rfl
    rotate_left
    ·simp only [Act.put, Sa23, Sb23, Sc23, Zk, Zl]; rfl
    refine Zm (i := 6) (N := some 19) (v := ?_) (a' := ?_) (Bm23 50 127) rfl rfl (Zj HT_.out (by kernel_rfl)) (fun _ _ _ h => h) (Or.inl ⟨by rfl, ?_⟩) ?_ ?_; rotate_left
    ·intro w'; go_simp; with_reducible rfl
    rotate_left
    ·simp only [Act.put, Sa23, Sb23, Sc23, Zk, Zl]; rfl
    refine Zm (i := 7) (N := some 20) (v := ?_) (a' := ?_) (Bm23 50 255) rfl rfl (Zj HT_.out (by kernel_rfl)) (fun _ _ _ h => h) (Or.inl ⟨by rfl, ?_⟩) ?_ ?_; rotate_left
    ·intro w'; go_simp; with_reducible rfl
    rotate_left
    ·simp only [Act.put, Sa23, Sb23, Sc23, Zk, Zl]; rfl
    refine Zm (i := 8) (N := some 21) (v := ?_) (a' := ?_) (Bm23 50 511) rfl rfl (Zj HT_.out (by kernel_rfl)) (fun _ _ _ h => h) (Or.inl ⟨by rfl, ?_⟩) ?_ ?_; rotate_left
    ·intro w'; go_simp; with_reducible rfl
    rotate_left
    ·simp only [Act.put, Sa23, Sb23, Sc23, Zk, Zl]; rfl
    refine Zm (i := 11) (N := some 24) (v := ?_) (a' := ?_) (Bm23 50 2559) rfl rfl (Zj HT_.out (by kernel_rfl)) (fun _ _ _ h => h) (Or.inl ⟨by rfl, ?_⟩) ?_ ?_; rotate_left
    ·intro w'; go_simp; with_reducible rfl
    rotate_left
    ·simp only [Act.put, Sa23, Sb23, Sc23, Zk, Zl]; rfl
    refine take_ (i := 9) (N := some 22) (v := ?_) (a' := ?_) (Bm23 50 3071) rfl rfl (Zr HT_.out HW_.out (by kernel_rfl)) (fun _ _ _ h => h) (Or.inl ⟨by rfl, ?_⟩) hHeld ?_ ?_; rotate_left
    ·rintro w' ⟨s0, s1, s2, s3, s4, s5, s6, s7, s8⟩
     go_simp; with_reducible rfl
    rotate_left
    ·simp only [Act.put, Sa23, Sb23, Sc23, Zk, Zl]; rfl
    refine Zm (i := 10) (N := some 23) (v := ?_) (a' := ?_) (Bm23 50 4095) rfl rfl (Zj HT_.out (by kernel_rfl)) (fun _ _ _ h => h) (Or.inl ⟨by rfl, ?_⟩) ?_ ?_; rotate_left
    ·intro w'; go_simp; with_reducible rfl
    rotate_left
    ·simp only [Act.put, Sa23, Sb23, Sc23, Zk, Zl]; rfl
    refine take_ (i := 12) (N := some 25) (v := ?_) (a' := ?_) (Bm23 50 8191) rfl rfl (Zr HT_.out HW_.out (by kernel_rfl)) (fun _ _ _ h => h) (Or.inl ⟨by rfl, ?_⟩) hHeld ?_ ?_; rotate_left
    ·rintro w' ⟨s0, s1, s2, s3, s4, s5, s6, s7, s8⟩
     go_simp; with_reducible rfl
    rotate_left
    ·simp only [Act.put, Sa23, Sb23, Sc23, Zk, Zl]; rfl
    refine Zm (i := 13) (N := some 26) (v := ?_) (a' := ?_) (Bm23 50 16383) rfl rfl (Zj HT_.out (by kernel_rfl)) (fun _ _ _ h => h) (Or.inl ⟨by rfl, ?_⟩) ?_ ?_; rotate_left
    ·intro w'; go_simp; with_reducible rfl
    rotate_left
    ·simp only [Act.put, Sa23, Sb23, Sc23, Zk, Zl]; rfl
    refine Zm (i := 14) (N := some 27) (v := ?_) (a' := ?_) (Bm23 50 32767) rfl rfl (Zj HT_.out (by kernel_rfl)) (fun _ _ _ h => h) (Or.inl ⟨by rfl, ?_⟩) ?_ ?_; rotate_left
    ·intro w'; go_simp; with_reducible rfl
    rotate_left
    ·simp only [Act.put, Sa23, Sb23, Sc23, Zk, Zl]; rfl
    refine Zm (i := 15) (N := some 28) (v := ?_) (a' := ?_) (Bm23 50 65535) rfl rfl (Zj HT_.out (by kernel_rfl)) (fun _ _ _ h => h) (Or.inl ⟨by rfl, ?_⟩) ?_ ?_; rotate_left
    ·intro w'; go_simp; with_reducible rfl
    rotate_left
    ·simp only [Act.put, Sa23, Sb23, Sc23, Zk, Zl]; rfl
    refine Zm (i := 16) (N := some 29) (v := ?_) (a' := ?_) (Bm23 50 131071) rfl rfl (Zj HT_.out (by kernel_rfl)) (fun _ _ _ h => h) (Or.inl ⟨by rfl, ?_⟩) ?_ ?_; rotate_left
    ·intro w'; go_simp; with_reducible rfl
    rotate_left
    ·simp only [Act.put, Sa23, Sb23, Sc23, Zk, Zl]; rfl
    refine Zm (i := 17) (N := some 30) (v := undef) (a' := ?_) (Bm23 50 262143) rfl rfl (Zj HT_.out (by kernel_rfl)) (fun _ _ _ h => h) (Or.inr ⟨by rfl, rfl⟩) ?_ ?_; rotate_left
    ·simp only [Act.put, Sa23, Sb23, Sc23, Zk, Zl]; rfl
    refine Zm (i := 18) (N := some 31) (v := undef) (a' := ?_) (Bm23 50 524287) rfl rfl (Zj HT_.out (by kernel_rfl)) (fun _ _ _ h => h) (Or.inr ⟨by rfl, rfl⟩) ?_ ?_; rotate_left
    ·simp only [Act.put, Sa23, Sb23, Sc23, Zk, Zl]; rfl
    refine Zm (i := 19) (N := some 32) (v := undef) (a' := ?_) (Bm23 50 1048575) rfl rfl (Zj HT_.out (by kernel_rfl)) (fun _ _ _ h => h) (Or.inr ⟨by rfl, rfl⟩) ?_ ?_; rotate_left
    ·simp only [Act.put, Sa23, Sb23, Sc23, Zk, Zl]; rfl
    refine Zm (i := 20) (N := some 33) (v := undef) (a' := ?_) (Bm23 50 2097151) rfl rfl (Zj HT_.out (by kernel_rfl)) (fun _ _ _ h => h) (Or.inr ⟨by rfl, rfl⟩) ?_ ?_; rotate_left
    ·simp only [Act.put, Sa23, Sb23, Sc23, Zk, Zl]; rfl
    refine Zm (i := 21) (N := some 34) (v := ?_) (a' := ?_) (Bm23 50 4194303) rfl rfl (Zj HT_.out (by kernel_rfl)) (fun _ _ _ h => h) (Or.inl ⟨by rfl, ?_⟩) ?_ ?_; rotate_left
    ·intro w'; go_simp; with_reducible rfl
    rotate_left
    ·simp only [Act.put, Sa23, Sb23, Sc23, Zk, Zl]; rfl
    refine Zm (i := 22) (N := some 35) (v := ?_) (a' := ?_) (Bm23 50 8388607) rfl rfl (Zj HT_.out (by kernel_rfl)) (fun _ _ _ h => h) (Or.inl ⟨by rfl, ?_⟩) ?_ ?_; rotate_left
    ·intro w'; go_simp; with_reducible rfl
    rotate_left
    ·simp only [Act.put, Sa23, Sb23, Sc23, Zk, Zl]; rfl
    refine Zm (i := 23) (N := some 36) (v := undef) (a' := ?_) (Bm23 50 16777215) rfl rfl (Zj HT_.out (by kernel_rfl)) (fun _ _ _ h => h) (Or.inr ⟨by rfl, rfl⟩) ?_ ?_; rotate_left
    ·simp only [Act.put, Sa23, Sb23, Sc23, Zk, Zl]; rfl
    refine Zm (i := 24) (N := some 37) (v := undef) (a' := ?_) (Bm23 50 33554431) rfl rfl (Zj HT_.out (by kernel_rfl)) (fun _ _ _ h => h) (Or.inr ⟨by rfl, rfl⟩) ?_ ?_; rotate_left
    ·simp only [Act.put, Sa23, Sb23, Sc23, Zk, Zl]; rfl
    refine Zm (i := 25) (N := some 38) (v := undef) (a' := ?_) (Bm23 50 67108863) rfl rfl (Zj HT_.out (by kernel_rfl)) (fun _ _ _ h => h) (Or.inr ⟨by rfl, rfl⟩) ?_ ?_; rotate_left
    ·simp only [Act.put, Sa23, Sb23, Sc23, Zk, Zl]; rfl
    refine Zm (i := 26) (N := some 39) (v := undef) (a' := ?_) (Bm23 50 134217727) rfl rfl (Zj HT_.out (by kernel_rfl)) (fun _ _ _ h => h) (Or.inr ⟨by rfl, rfl⟩) ?_ ?_; rotate_left
    ·simp only [Act.put, Sa23, Sb23, Sc23, Zk, Zl]; rfl
    refine Zm (i := 27) (N := some 40) (v := undef) (a' := ?_) (Bm23 50 268435455) rfl rfl (Zj HT_.out (by kernel_rfl)) (fun _ _ _ h => h) (Or.inr ⟨by rfl, rfl⟩) ?_ ?_; rotate_left
    ·simp only [Act.put, Sa23, Sb23, Sc23, Zk, Zl]; rfl
    refine Zm (i := 28) (N := some 41) (v := undef) (a' := ?_) (Bm23 50 536870911) rfl rfl (Zj HT_.out (by kernel_rfl)) (fun _ _ _ h => h) (Or.inr ⟨by rfl, rfl⟩) ?_ ?_; rotate_left
    ·simp only [Act.put, Sa23, Sb23, Sc23, Zk, Zl]; rfl
    refine Zm (i := 29) (N := some 42) (v := undef) (a' := ?_) (Bm23 50 1073741823) rfl rfl (Zj HT_.out (by kernel_rfl)) (fun _ _ _ h => h) (Or.inr ⟨by rfl, rfl⟩) ?_ ?_; rotate_left
    ·simp only [Act.put, Sa23, Sb23, Sc23, Zk, Zl]; rfl
    refine Zm (i := 30) (N := some 43) (v := undef) (a' := ?_) (Bm23 50 2147483647) rfl rfl (Zj HT_.out (by kernel_rfl)) (fun _ _ _ h => h) (Or.inr ⟨by rfl, rfl⟩) ?_ ?_; rotate_left
    ·simp only [Act.put, Sa23, Sb23, Sc23, Zk, Zl]; rfl
    refine Zm (i := 31) (N := some 44) (v := ?_) (a' := ?_) (Bm23 50 4294967295) rfl rfl (Zj HT_.out (by kernel_rfl)) (fun _ _ _ h => h) (Or.inl ⟨by rfl, ?_⟩) ?_ ?_; rotate_left
    ·intro w'; go_simp; with_reducible rfl
    rotate_left
    ·simp only [Act.put, Sa23, Sb23, Sc23, Zk, Zl]; rfl
    refine Zm (i := 32) (N := some 45) (v := ?_) (a' := ?_) (Bm23 50 8589934591) rfl rfl (Zj HT_.out (by kernel_rfl)) (fun _ _ _ h => h) (Or.inl ⟨by rfl, ?_⟩) ?_ ?_; rotate_left
    ·intro w'; go_simp; with_reducible rfl
    rotate_left
    ·simp only [Act.put, Sa23, Sb23, Sc23, Zk, Zl]; rfl
    refine Zm (i := 33) (N := some 46) (v := undef) (a' := ?_) (Bm23 50 17179869183) rfl rfl (Zj HT_.out (by kernel_rfl)) (fun _ _ _ h => h) (Or.inr ⟨by rfl, rfl⟩) ?_ ?_; rotate_left
    ·simp only [Act.put, Sa23, Sb23, Sc23, Zk, Zl]; rfl
    refine Zm (i := 34) (N := some 47) (v := undef) (a' := ?_) (Bm23 50 34359738367) rfl rfl (Zj HT_.out (by kernel_rfl)) (fun _ _ _ h => h) (Or.inr ⟨by rfl, rfl⟩) ?_ ?_; rotate_left
    ·simp only [Act.put, Sa23, Sb23, Sc23, Zk, Zl]; rfl
    refine Zm (i := 35) (N := some 48) (v := undef) (a' := ?_) (Bm23 50 68719476735) rfl rfl (Zj HT_.out (by kernel_rfl)) (fun _ _ _ h => h) (Or.inr ⟨by rfl, rfl⟩) ?_ ?_; rotate_left
    ·simp only [Act.put, Sa23, Sb23, Sc23, Zk, Zl]; rfl
    refine Zm (i := 36) (N := some 49) (v := undef) (a' := ?_) (Bm23 50 137438953471) rfl rfl (Zj HT_.out (by kernel_rfl)) (fun _ _ _ h => h) (Or.inr ⟨by rfl, rfl⟩) ?_ ?_; rotate_left
    ·simp only [Act.put, Sa23, Sb23, Sc23, Zk, Zl]; rfl
    refine Zm (i := 37) (N := some 50) (v := undef) (a' := ?_) (Bm23 50 274877906943) rfl rfl (Zj HT_.out (by kernel_rfl)) (fun _ _ _ h => h) (Or.inr ⟨by rfl, rfl⟩) ?_ ?_; rotate_left
    ·simp only [Act.put, Sa23, Sb23, Sc23, Zk, Zl]; rfl
    refine Zm (i := 38) (N := some 51) (v := undef) (a' := ?_) (Bm23 50 549755813887) rfl rfl (Zj HT_.out (by kernel_rfl)) (fun _ _ _ h => h) (Or.inr ⟨by rfl, rfl⟩) ?_ ?_; rotate_left
    ·simp only [Act.put, Sa23, Sb23, Sc23, Zk, Zl]; rfl
    refine Zm (i := 39) (N := some 52) (v := ?_) (a' := ?_) (Bm23 50 1099511627775) rfl rfl (Zj HT_.out (by kernel_rfl)) (fun _ _ _ h => h) (Or.inl ⟨by rfl, ?_⟩) ?_ ?_; rotate_left
    ·intro w'; go_simp; with_reducible rfl
    rotate_left
    ·simp only [Act.put, Sa23, Sb23, Sc23, Zk, Zl]; rfl
    refine Zm (i := 40) (N := some 53) (v := ?_) (a' := ?_) (Bm23 50 2199023255551) rfl rfl (Zj HT_.out (by kernel_rfl)) (fun _ _ _ h => h) (Or.inl ⟨by rfl, ?_⟩) ?_ ?_; rotate_left
    ·intro w'; go_simp; with_reducible rfl
    rotate_left
    ·simp only [Act.put, Sa23, Sb23, Sc23, Zk, Zl]; rfl
    refine Zm (i := 41) (N := some 54) (v := undef) (a' := ?_) (Bm23 50 4398046511103) rfl rfl (Zj HT_.out (by kernel_rfl)) (fun _ _ _ h => h) (Or.inr ⟨by rfl, rfl⟩) ?_ ?_; rotate_left
    ·simp only [Act.put, Sa23, Sb23, Sc23, Zk, Zl]; rfl
    refine Zm (i := 42) (N := some 55) (v := undef) (a' := ?_) (Bm23 50 8796093022207) rfl rfl (Zj HT_.out (by kernel_rfl)) (fun _ _ _ h => h) (Or.inr ⟨by rfl, rfl⟩) ?_ ?_; rotate_left
    ·simp only [Act.put, Sa23, Sb23, Sc23, Zk, Zl]; rfl
    refine Zm (i := 43) (N := some 56) (v := undef) (a' := ?_) (Bm23 50 17592186044415) rfl rfl (Zj HT_.out (by kernel_rfl)) (fun _ _ _ h => h) (Or.inr ⟨by rfl, rfl⟩) ?_ ?_; rotate_left
    ·simp only [Act.put, Sa23, Sb23, Sc23, Zk, Zl]; rfl
    refine Zm (i := 44) (N := some 57) (v := undef) (a' := ?_) (Bm23 50 35184372088831) rfl rfl (Zj HT_.out (by kernel_rfl)) (fun _ _ _ h => h) (Or.inr ⟨by rfl, rfl⟩) ?_ ?_; rotate_left
    ·simp only [Act.put, Sa23, Sb23, Sc23, Zk, Zl]; rfl
    refine Zm (i := 45) (N := some 58) (v := undef) (a' := ?_) (Bm23 50 70368744177663) rfl rfl (Zj HT_.out (by kernel_rfl)) (fun _ _ _ h => h) (Or.inr ⟨by rfl, rfl⟩) ?_ ?_; rotate_left
    ·simp only [Act.put, Sa23, Sb23, Sc23, Zk, Zl]; rfl
    refine Zm (i := 46) (N := some 59) (v := undef) (a' := ?_) (Bm23 50 140737488355327) rfl rfl (Zj HT_.out (by kernel_rfl)) (fun _ _ _ h => h) (Or.inr ⟨by rfl, rfl⟩) ?_ ?_; rotate_left
    ·simp only [Act.put, Sa23, Sb23, Sc23, Zk, Zl]; rfl
    refine Zm (i := 47) (N := some 60) (v := undef) (a' := ?_) (Bm23 50 281474976710655) rfl rfl (Zj HT_.out (by kernel_rfl)) (fun _ _ _ h => h) (Or.inr ⟨by rfl, rfl⟩) ?_ ?_; rotate_left
    ·simp only [Act.put, Sa23, Sb23, Sc23, Zk, Zl]; rfl
    refine Zm (i := 48) (N := some 61) (v := undef) (a' := ?_) (Bm23 50 562949953421311) rfl rfl (Zj HT_.out (by kernel_rfl)) (fun _ _ _ h => h) (Or.inr ⟨by rfl, rfl⟩) ?_ ?_; rotate_left
    ·simp only [Act.put, Sa23, Sb23, Sc23, Zk, Zl]; rfl
    refine Zm (i := 49) (N := some 62) (v := ?_) (a' := ?_) (Bm23 50 1125899906842623) rfl rfl (Zj HT_.out (by kernel_rfl)) (fun _ _ _ h => h) (Or.inl ⟨by rfl, ?_⟩) ?_ ?_; rotate_left
    ·intro w'; go_simp; with_reducible rfl
    rotate_left
    ·simp only [Act.put, Sa23, Sb23, Sc23, Zk, Zl]; rfl
    refine done_ (done_of HT_.out (by kernel_rfl)) ?_; try go_wp2
    go_meet
    case rel => exact ⟨_, (true), (by first | rfl | (simp; done) | (simp [*]; done)), H', ⟨by first | omega | exact Nat.le_refl _⟩, ⟨by (with_reducible repeat (first | refine Zh ?_ _ | refine Zi ?_ | refine Zf ?_ _)); exact BK101.out⟩, ⟨by (with_reducible repeat (first | refine Zh ?_ _ | refine Zi ?_ | refine Zf ?_ _)); exact BK103.out⟩, ⟨by repeat (first | (with_reducible first | exact HB.out | apply Ze | apply Za | apply Zd | refine Zg ?_ GE101.out | refine Zg ?_ GE103.out) | exact HB.out)⟩⟩
  ·rw [if_neg c11] at H; have c11b0 : ((((rd_T76 l0_2 a1).f2).length : Int) == (l0_0.length : Int)) = false := beq_eq_false_iff_ne.mpr c11; have c11b1 : ((((rd_T76 l0_2 a1).f2).length : Int) != (l0_0.length : Int)) = true := bne_iff_ne.mpr c11; have c11b2 : (((rd_T76 l0_2 a1).f2).length == l0_0.length) = false := by first | simpa using c11 | (simp at c11 ⊢; omega)
   (first | rw [c11b0] | (simp only [Zk, Zl]; rw [c11b0]) | skip)
   have H' := Aside0.mk H; clear H; try go_wp2
   (try rw [← Nbq15.out])
   have n0_ : Aside0 (((((w8.setCell ⟨gb103, 0, none⟩ (.bool ((rd_T76 l0_2 a1).f0))).setCell ⟨gb103, 1, none⟩ (.int .i64 ((rd_T76 l0_2 a1).f1))).setCell ⟨gb103, 2, none⟩ (.slice A102_2 ((rd_T76 l0_2 a1).f2).length c102_2)).setCell ⟨gb103, 3, none⟩ (.slice A102_3 ((rd_T76 l0_2 a1).f3).length c102_3)).heap[gb101]? = some (.cells #[.slice A0_0 l0_0.length c0_0, .slice A0_1 l0_1.length c0_1, .slice (some ad102) l0_2.length c0_2, .int .i64 a0_3, .int .i64 a0_4] 35 (0, 0))) := ⟨by (with_reducible repeat (first | refine Zh ?_ _ | refine Zi ?_ | refine Zf ?_ _)); refine Zs ?_ NB101_103.out _; (with_reducible repeat (first | refine Zh ?_ _ | refine Zi ?_ | refine Zf ?_ _)); refine Zs ?_ NB101_103.out _; (with_reducible repeat (first | refine Zh ?_ _ | refine Zi ?_ | refine Zf ?_ _)); refine Zs ?_ NB101_103.out _; (with_reducible repeat (first | refine Zh ?_ _ | refine Zi ?_ | refine Zf ?_ _)); refine Zs ?_ NB101_103.out _; (with_reducible repeat (first | refine Zh ?_ _ | refine Zi ?_ | refine Zf ?_ _)); exact BK101.out⟩
   have n1_ : Aside0 (((((w8.setCell ⟨gb103, 0, none⟩ (.bool ((rd_T76 l0_2 a1).f0))).setCell ⟨gb103, 1, none⟩ (.int .i64 ((rd_T76 l0_2 a1).f1))).setCell ⟨gb103, 2, none⟩ (.slice A102_2 ((rd_T76 l0_2 a1).f2).length c102_2)).setCell ⟨gb103, 3, none⟩ (.slice A102_3 ((rd_T76 l0_2 a1).f3).length c102_3)).heap[gb103]? = some (.cells #[.bool ((rd_T76 l0_2 a1).f0), .int .i64 ((rd_T76 l0_2 a1).f1), .slice A102_2 ((rd_T76 l0_2 a1).f2).length c102_2, .slice A102_3 ((rd_T76 l0_2 a1).f3).length c102_3] 76 (0, 0))) := ⟨by (with_reducible repeat (first | refine Zh ?_ _ | refine Zi ?_ | refine Zf ?_ _)); refine Zt (cs := #[.bool ((rd_T76 l0_2 a1).f0), .int .i64 ((rd_T76 l0_2 a1).f1), .slice A102_2 ((rd_T76 l0_2 a1).f2).length c102_2, .slice none 0 0]) ?_ 3 _ rfl; (with_reducible repeat (first | refine Zh ?_ _ | refine Zi ?_ | refine Zf ?_ _)); refine Zt (cs := #[.bool ((rd_T76 l0_2 a1).f0), .int .i64 ((rd_T76 l0_2 a1).f1), .slice none 0 0, .slice none 0 0]) ?_ 2 _ rfl; (with_reducible repeat (first | refine Zh ?_ _ | refine Zi ?_ | refine Zf ?_ _)); refine Zt (cs := #[.bool ((rd_T76 l0_2 a1).f0), .int .i64 0, .slice none 0 0, .slice none 0 0]) ?_ 1 _ rfl; (with_reducible repeat (first | refine Zh ?_ _ | refine Zi ?_ | refine Zf ?_ _)); refine Zt (cs := #[.bool false, .int .i64 0, .slice none 0 0, .slice none 0 0]) ?_ 0 _ rfl; (with_reducible repeat (first | refine Zh ?_ _ | refine Zi ?_ | refine Zf ?_ _)); exact BK103.out⟩
   have n2_ : Aside0 (Below w.heap.size w ((((w8.setCell ⟨gb103, 0, none⟩ (.bool ((rd_T76 l0_2 a1).f0))).setCell ⟨gb103, 1, none⟩ (.int .i64 ((rd_T76 l0_2 a1).f1))).setCell ⟨gb103, 2, none⟩ (.slice A102_2 ((rd_T76 l0_2 a1).f2).length c102_2)).setCell ⟨gb103, 3, none⟩ (.slice A102_3 ((rd_T76 l0_2 a1).f3).length c102_3))) := ⟨by repeat (first | (with_reducible first | exact HB.out | apply Ze | apply Za | apply Zd | refine Zg ?_ GE101.out | refine Zg ?_ GE103.out) | exact HB.out)⟩
   (try clear BK101)
   (try clear BK103)
   (try clear HB)
   generalize ((((w8.setCell ⟨gb103, 0, none⟩ (.bool ((rd_T76 l0_2 a1).f0))).setCell ⟨gb103, 1, none⟩ (.int .i64 ((rd_T76 l0_2 a1).f1))).setCell ⟨gb103, 2, none⟩ (.slice A102_2 ((rd_T76 l0_2 a1).f2).length c102_2)).setCell ⟨gb103, 3, none⟩ (.slice A102_3 ((rd_T76 l0_2 a1).f3).length c102_3)) = w38 at n0_ n1_ n2_ ⊢; have BK101 := n0_; have BK103 := n1_; have HB := n2_; clear n0_ n1_ n2_; have n0_ := Aside0.mk (Zi BK101.out); have n1_ := Aside0.mk (Zi BK103.out); have n2_ := Aside0.mk (Zd HB.out); clear BK101; clear BK103; clear HB; have BK101 := n0_; have BK103 := n1_; have HB := n2_; clear n0_ n1_ n2_; refine start_ (n := 50) (S := fun w' => w'.cell? ⟨gb103, 0, none⟩ = some (.bool ((rd_T76 l0_2 a1).f0)) ∧ w'.cell? ⟨gb103, 1, none⟩ = some (.int .i64 ((rd_T76 l0_2 a1).f1)) ∧ w'.cell? ⟨gb103, 2, none⟩ = some (.slice A102_2 ((rd_T76 l0_2 a1).f2).length c102_2) ∧ w'.cell? ⟨gb103, 3, none⟩ = some (.slice A102_3 ((rd_T76 l0_2 a1).f3).length c102_3) ∧ w'.cell? ⟨gb101, 0, none⟩ = some (.slice A0_0 l0_0.length c0_0) ∧ w'.cell? ⟨gb101, 1, none⟩ = some (.slice A0_1 l0_1.length c0_1) ∧ w'.cell? ⟨gb101, 2, none⟩ = some (.slice (some ad102) l0_2.length c0_2) ∧ w'.cell? ⟨gb101, 3, none⟩ = some (.int .i64 a0_3) ∧ w'.cell? ⟨gb101, 4, none⟩ = some (.int .i64 a0_4)) (ds := []) #[false, false, false, false, false, false, false, false, false, false, false, false, false, false, false, false, false, false, false, false, false, false, false, false, false, false, false, false, false, false, false, false, false, false, false, false, false, false, false, false, false, false, false, false, false, false, false, false, false, false] (by kernel_rfl) rfl rfl ⟨(Zb BK103.out 0).trans rfl, (Zb BK103.out 1).trans rfl, (Zb BK103.out 2).trans rfl, (Zb BK103.out 3).trans rfl, (Zb BK101.out 0).trans rfl, (Zb BK101.out 1).trans rfl, (Zb BK101.out 2).trans rfl, (Zb BK101.out 3).trans rfl, (Zb BK101.out 4).trans rfl⟩ (fun hHeld => ?_); refine with_tabW spec_l8Picture.tab2 spec_l8Picture.bits2 (fun HT_ HW_ => ?_)
   generalize w38.drew = w39 at BK101 BK103 HB hHeld ⊢; refine Zm (i := 0) (N := some 13) (v := ?_) (a' := ?_) (Bm23 50 1) rfl rfl (Zj HT_.out (by kernel_rfl)) (fun _ _ _ h => h) (Or.inl ⟨by rfl, ?_⟩) ?_ ?_; rotate_left
   ·intro w'; go_simp; with_reducible rfl
   rotate_left
   ·simp only [Act.put, Sa23, Sb23, Sc23, Zk, Zl]; rfl
   refine Zm (i := 3) (N := some 16) (v := ?_) (a' := ?_) (Bm23 50 9) rfl rfl (Zj HT_.out (by kernel_rfl)) (fun _ _ _ h => h) (Or.inl ⟨by rfl, ?_⟩) ?_ ?_; rotate_left
   ·intro w'; go_simp; with_reducible rfl
   rotate_left
   ·simp only [Act.put, Sa23, Sb23, Sc23, Zk, Zl]; rfl
   refine take_ (i := 1) (N := some 14) (v := ?_) (a' := ?_) (Bm23 50 11) rfl rfl (Zr HT_.out HW_.out (by kernel_rfl)) (fun _ _ _ h => h) (Or.inl ⟨by rfl, ?_⟩) hHeld ?_ ?_; rotate_left
   ·rintro w' ⟨s0, s1, s2, s3, s4, s5, s6, s7, s8⟩
    go_simp; with_reducible rfl
   rotate_left
   ·simp only [Act.put, Sa23, Sb23, Sc23, Zk, Zl]; rfl
   refine Zm (i := 2) (N := some 15) (v := ?_) (a' := ?_) (Bm23 50 15) rfl rfl (Zj HT_.out (by kernel_rfl)) (fun _ _ _ h => h) (Or.inl ⟨by rfl, ?_⟩) ?_ ?_; rotate_left
   ·intro w'; go_simp; with_reducible rfl
   rotate_left
   ·simp only [Act.put, Sa23, Sb23, Sc23, Zk, Zl]; rfl
   refine take_ (i := 4) (N := some 17) (v := ?_) (a' := ?_) (Bm23 50 31) rfl rfl (Zr HT_.out HW_.out (by kernel_rfl)) (fun _ _ _ h => h) (Or.inl ⟨by rfl, ?_⟩) hHeld ?_ ?_; rotate_left
   ·rintro w' ⟨s0, s1, s2, s3, s4, s5, s6, s7, s8⟩
    go_simp; with_reducible rfl
   rotate_left
   ·simp only [Act.put, Sa23, Sb23, Sc23, Zk, Zl]; rfl
   refine Zm (i := 5) (N := some 18) (v := ?_) (a' := ?_) (Bm23 50 63) rfl rfl (Zj HT_.out (by kernel_rfl)) (fun _ _ _ h => h) (Or.inl ⟨by rfl, ?_⟩) ?_ ?_; rotate_left
   ·intro w'; go_simp; with_reducible rfl
   rotate_left
   ·simp only [Act.put, Sa23, Sb23, Sc23, Zk, Zl]; rfl
   refine Zm (i := 6) (N := some 19) (v := ?_) (a' := ?_) (Bm23 50 127) rfl rfl (Zj HT_.out (by kernel_rfl)) (fun _ _ _ h => h) (Or.inl ⟨by rfl, ?_⟩) ?_ ?_; rotate_left
   ·intro w'; go_simp; with_reducible rfl
   rotate_left
   ·simp only [Act.put, Sa23, Sb23, Sc23, Zk, Zl]; rfl
   refine Zm (i := 7) (N := some 20) (v := ?_) (a' := ?_) (Bm23 50 255) rfl rfl (Zj HT_.out (by kernel_rfl)) (fun _ _ _ h => h) (Or.inl ⟨by rfl, ?_⟩) ?_ ?_; rotate_left
   ·intro w'; go_simp; with_reducible rfl
   rotate_left
   ·simp only [Act.put, Sa23, Sb23, Sc23, Zk, Zl]; rfl
   refine Zm (i := 8) (N := some 21) (v := undef) (a' := ?_) (Bm23 50 511) rfl rfl (Zj HT_.out (by kernel_rfl)) (fun _ _ _ h => h) (Or.inr ⟨by rfl, rfl⟩) ?_ ?_; rotate_left
   ·simp only [Act.put, Sa23, Sb23, Sc23, Zk, Zl]; rfl
   refine Zm (i := 9) (N := some 22) (v := undef) (a' := ?_) (Bm23 50 1023) rfl rfl (Zj HT_.out (by kernel_rfl)) (fun _ _ _ h => h) (Or.inr ⟨by rfl, rfl⟩) ?_ ?_; rotate_left
   ·simp only [Act.put, Sa23, Sb23, Sc23, Zk, Zl]; rfl
   refine Zm (i := 10) (N := some 23) (v := undef) (a' := ?_) (Bm23 50 2047) rfl rfl (Zj HT_.out (by kernel_rfl)) (fun _ _ _ h => h) (Or.inr ⟨by rfl, rfl⟩) ?_ ?_; rotate_left
   ·simp only [Act.put, Sa23, Sb23, Sc23, Zk, Zl]; rfl
   refine Zm (i := 11) (N := some 24) (v := undef) (a' := ?_) (Bm23 50 4095) rfl rfl (Zj HT_.out (by kernel_rfl)) (fun _ _ _ h => h) (Or.inr ⟨by rfl, rfl⟩) ?_ ?_; rotate_left
   ·simp only [Act.put, Sa23, Sb23, Sc23, Zk, Zl]; rfl
   refine Zm (i := 12) (N := some 25) (v := undef) (a' := ?_) (Bm23 50 8191) rfl rfl (Zj HT_.out (by kernel_rfl)) (fun _ _ _ h => h) (Or.inr ⟨by rfl, rfl⟩) ?_ ?_; rotate_left
   ·simp only [Act.put, Sa23, Sb23, Sc23, Zk, Zl]; rfl
   refine Zm (i := 13) (N := some 26) (v := undef) (a' := ?_) (Bm23 50 16383) rfl rfl (Zj HT_.out (by kernel_rfl)) (fun _ _ _ h => h) (Or.inr ⟨by rfl, rfl⟩) ?_ ?_; rotate_left
   ·simp only [Act.put, Sa23, Sb23, Sc23, Zk, Zl]; rfl
   refine Zm (i := 14) (N := some 27) (v := undef) (a' := ?_) (Bm23 50 32767) rfl rfl (Zj HT_.out (by kernel_rfl)) (fun _ _ _ h => h) (Or.inr ⟨by rfl, rfl⟩) ?_ ?_; rotate_left
   ·simp only [Act.put, Sa23, Sb23, Sc23, Zk, Zl]; rfl
   refine Zm (i := 15) (N := some 28) (v := ?_) (a' := ?_) (Bm23 50 65535) rfl rfl (Zj HT_.out (by kernel_rfl)) (fun _ _ _ h => h) (Or.inl ⟨by rfl, ?_⟩) ?_ ?_; rotate_left
   ·intro w'; go_simp; with_reducible rfl
   rotate_left
   ·simp only [Act.put, Sa23, Sb23, Sc23, Zk, Zl]; rfl
   refine Zm (i := 16) (N := some 29) (v := ?_) (a' := ?_) (Bm23 50 131071) rfl rfl (Zj HT_.out (by kernel_rfl)) (fun _ _ _ h => h) (Or.inl ⟨by rfl, ?_⟩) ?_ ?_; rotate_left
   ·intro w'; go_simp; with_reducible rfl
   rotate_left
   ·simp only [Act.put, Sa23, Sb23, Sc23, Zk, Zl]; rfl
   refine Zm (i := 17) (N := some 30) (v := undef) (a' := ?_) (Bm23 50 262143) rfl rfl (Zj HT_.out (by kernel_rfl)) (fun _ _ _ h => h) (Or.inr ⟨by rfl, rfl⟩) ?_ ?_; rotate_left
   ·simp only [Act.put, Sa23, Sb23, Sc23, Zk, Zl]; rfl
   refine Zm (i := 18) (N := some 31) (v := undef) (a' := ?_) (Bm23 50 524287) rfl rfl (Zj HT_.out (by kernel_rfl)) (fun _ _ _ h => h) (Or.inr ⟨by rfl, rfl⟩) ?_ ?_; rotate_left
   ·simp only [Act.put, Sa23, Sb23, Sc23, Zk, Zl]; rfl
   refine Zm (i := 19) (N := some 32) (v := undef) (a' := ?_) (Bm23 50 1048575) rfl rfl (Zj HT_.out (by kernel_rfl)) (fun _ _ _ h => h) (Or.inr ⟨by rfl, rfl⟩) ?_ ?_; rotate_left
   ·simp only [Act.put, Sa23, Sb23, Sc23, Zk, Zl]; rfl
   refine Zm (i := 20) (N := some 33) (v := undef) (a' := ?_) (Bm23 50 2097151) rfl rfl (Zj HT_.out (by kernel_rfl)) (fun _ _ _ h => h) (Or.inr ⟨by rfl, rfl⟩) ?_ ?_; rotate_left
   ·simp only [Act.put, Sa23, Sb23, Sc23, Zk, Zl]; rfl
   refine Zm (i := 21) (N := some 34) (v := ?_) (a' := ?_) (Bm23 50 4194303) rfl rfl (Zj HT_.out (by kernel_rfl)) (fun _ _ _ h => h) (Or.inl ⟨by rfl, ?_⟩) ?_ ?_; rotate_left
   ·intro w'; go_simp; with_reducible rfl
   rotate_left
   ·simp only [Act.put, Sa23, Sb23, Sc23, Zk, Zl]; rfl
   refine Zm (i := 22) (N := some 35) (v := ?_) (a' := ?_) (Bm23 50 8388607) rfl rfl (Zj HT_.out (by kernel_rfl)) (fun _ _ _ h => h) (Or.inl ⟨by rfl, ?_⟩) ?_ ?_; rotate_left
   ·intro w'; go_simp; with_reducible rfl
   rotate_left
   ·simp only [Act.put, Sa23, Sb23, Sc23, Zk, Zl]; rfl
   refine Zm (i := 23) (N := some 36) (v := undef) (a' := ?_) (Bm23 50 16777215) rfl rfl (Zj HT_.out (by kernel_rfl)) (fun _ _ _ h => h) (Or.inr ⟨by rfl, rfl⟩) ?_ ?_; rotate_left
   ·simp only [Act.put, Sa23, Sb23, Sc23, Zk, Zl]; rfl
   refine Zm (i := 24) (N := some 37) (v := undef) (a' := ?_) (Bm23 50 33554431) rfl rfl (Zj HT_.out (by kernel_rfl)) (fun _ _ _ h => h) (Or.inr ⟨by rfl, rfl⟩) ?_ ?_; rotate_left
   ·simp only [Act.put, Sa23, Sb23, Sc23, Zk, Zl]; rfl
   refine Zm (i := 25) (N := some 38) (v := undef) (a' := ?_) (Bm23 50 67108863) rfl rfl (Zj HT_.out (by kernel_rfl)) (fun _ _ _ h => h) (Or.inr ⟨by rfl, rfl⟩) ?_ ?_; rotate_left
   ·simp only [Act.put, Sa23, Sb23, Sc23, Zk, Zl]; rfl
   refine Zm (i := 26) (N := some 39) (v := undef) (a' := ?_) (Bm23 50 134217727) rfl rfl (Zj HT_.out (by kernel_rfl)) (fun _ _ _ h => h) (Or.inr ⟨by rfl, rfl⟩) ?_ ?_; rotate_left
   ·simp only [Act.put, Sa23, Sb23, Sc23, Zk, Zl]; rfl
   refine Zm (i := 27) (N := some 40) (v := undef) (a' := ?_) (Bm23 50 268435455) rfl rfl (Zj HT_.out (by kernel_rfl)) (fun _ _ _ h => h) (Or.inr ⟨by rfl, rfl⟩) ?_ ?_; rotate_left
   ·simp only [Act.put, Sa23, Sb23, Sc23, Zk, Zl]; rfl
   refine Zm (i := 28) (N := some 41) (v := undef) (a' := ?_) (Bm23 50 536870911) rfl rfl (Zj HT_.out (by kernel_rfl)) (fun _ _ _ h => h) (Or.inr ⟨by rfl, rfl⟩) ?_ ?_; rotate_left
   ·simp only [Act.put, Sa23, Sb23, Sc23, Zk, Zl]; rfl
   refine Zm (i := 29) (N := some 42) (v := undef) (a' := ?_) (Bm23 50 1073741823) rfl rfl (Zj HT_.out (by kernel_rfl)) (fun _ _ _ h => h) (Or.inr ⟨by rfl, rfl⟩) ?_ ?_; rotate_left
   ·simp only [Act.put, Sa23, Sb23, Sc23, Zk, Zl]; rfl
   refine Zm (i := 30) (N := some 43) (v := undef) (a' := ?_) (Bm23 50 2147483647) rfl rfl (Zj HT_.out (by kernel_rfl)) (fun _ _ _ h => h) (Or.inr ⟨by rfl, rfl⟩) ?_ ?_; rotate_left
   ·simp only [Act.put, Sa23, Sb23, Sc23, Zk, Zl]; rfl
   refine Zm (i := 31) (N := some 44) (v := ?_) (a' := ?_) (Bm23 50 4294967295) rfl rfl (Zj HT_.out (by kernel_rfl)) (fun _ _ _ h => h) (Or.inl ⟨by rfl, ?_⟩) ?_ ?_; rotate_left
   ·intro w'; go_simp; with_reducible rfl
   rotate_left
   ·simp only [Act.put, Sa23, Sb23, Sc23, Zk, Zl]; rfl
   refine Zm (i := 32) (N := some 45) (v := ?_) (a' := ?_) (Bm23 50 8589934591) rfl rfl (Zj HT_.out (by kernel_rfl)) (fun _ _ _ h => h) (Or.inl ⟨by rfl, ?_⟩) ?_ ?_; rotate_left
   ·intro w'; go_simp; with_reducible rfl
   rotate_left
   ·simp only [Act.put, Sa23, Sb23, Sc23, Zk, Zl]; rfl
   refine Zm (i := 33) (N := some 46) (v := undef) (a' := ?_) (Bm23 50 17179869183) rfl rfl (Zj HT_.out (by kernel_rfl)) (fun _ _ _ h => h) (Or.inr ⟨by rfl, rfl⟩) ?_ ?_; rotate_left
   ·simp only [Act.put, Sa23, Sb23, Sc23, Zk, Zl]; rfl
   refine Zm (i := 34) (N := some 47) (v := undef) (a' := ?_) (Bm23 50 34359738367) rfl rfl (Zj HT_.out (by kernel_rfl)) (fun _ _ _ h => h) (Or.inr ⟨by rfl, rfl⟩) ?_ ?_; rotate_left
   ·simp only [Act.put, Sa23, Sb23, Sc23, Zk, Zl]; rfl
   refine Zm (i := 35) (N := some 48) (v := undef) (a' := ?_) (Bm23 50 68719476735) rfl rfl (Zj HT_.out (by kernel_rfl)) (fun _ _ _ h => h) (Or.inr ⟨by rfl, rfl⟩) ?_ ?_; rotate_left
   ·simp only [Act.put, Sa23, Sb23, Sc23, Zk, Zl]; rfl
   refine Zm (i := 36) (N := some 49) (v := undef) (a' := ?_) (Bm23 50 137438953471) rfl rfl (Zj HT_.out (by kernel_rfl)) (fun _ _ _ h => h) (Or.inr ⟨by rfl, rfl⟩) ?_ ?_; rotate_left
   ·simp only [Act.put, Sa23, Sb23, Sc23, Zk, Zl]; rfl
   refine Zm (i := 37) (N := some 50) (v := undef) (a' := ?_) (Bm23 50 274877906943) rfl rfl (Zj HT_.out (by kernel_rfl)) (fun _ _ _ h => h) (Or.inr ⟨by rfl, rfl⟩) ?_ ?_; rotate_left
   ·simp only [Act.put, Sa23, Sb23, Sc23, Zk, Zl]; rfl
   refine Zm (i := 38) (N := some 51) (v := undef) (a' := ?_) (Bm23 50 549755813887) rfl rfl (Zj HT_.out (by kernel_rfl)) (fun _ _ _ h => h) (Or.inr ⟨by rfl, rfl⟩) ?_ ?_; rotate_left
   ·simp only [Act.put, Sa23, Sb23, Sc23, Zk, Zl]; rfl
   refine Zm (i := 39) (N := some 52) (v := ?_) (a' := ?_) (Bm23 50 1099511627775) rfl rfl (Zj HT_.out (by kernel_rfl)) (fun _ _ _ h => h) (Or.inl ⟨by rfl, ?_⟩) ?_ ?_; rotate_left
   ·intro w'; go_simp; with_reducible rfl
   rotate_left
   ·simp only [Act.put, Sa23, Sb23, Sc23, Zk, Zl]; rfl
   refine Zm (i := 40) (N := some 53) (v := ?_) (a' := ?_) (Bm23 50 2199023255551) rfl rfl (Zj HT_.out (by kernel_rfl)) (fun _ _ _ h => h) (Or.inl ⟨by rfl, ?_⟩) ?_ ?_; rotate_left
   ·intro w'; go_simp; with_reducible rfl
   rotate_left
   ·simp only [Act.put, Sa23, Sb23, Sc23, Zk, Zl]; rfl
   refine Zm (i := 41) (N := some 54) (v := undef) (a' := ?_) (Bm23 50 4398046511103) rfl rfl (Zj HT_.out (by kernel_rfl)) (fun _ _ _ h => h) (Or.inr ⟨by rfl, rfl⟩) ?_ ?_; rotate_left
   ·simp only [Act.put, Sa23, Sb23, Sc23, Zk, Zl]; rfl
   refine Zm (i := 42) (N := some 55) (v := undef) (a' := ?_) (Bm23 50 8796093022207) rfl rfl (Zj HT_.out (by kernel_rfl)) (fun _ _ _ h => h) (Or.inr ⟨by rfl, rfl⟩) ?_ ?_; rotate_left
   ·simp only [Act.put, Sa23, Sb23, Sc23, Zk, Zl]; rfl
   refine Zm (i := 43) (N := some 56) (v := undef) (a' := ?_) (Bm23 50 17592186044415) rfl rfl (Zj HT_.out (by kernel_rfl)) (fun _ _ _ h => h) (Or.inr ⟨by rfl, rfl⟩) ?_ ?_; rotate_left
   ·simp only [Act.put, Sa23, Sb23, Sc23, Zk, Zl]; rfl
   refine Zm (i := 44) (N := some 57) (v := undef) (a' := ?_) (Bm23 50 35184372088831) rfl rfl (Zj HT_.out (by kernel_rfl)) (fun _ _ _ h => h) (Or.inr ⟨by rfl, rfl⟩) ?_ ?_; rotate_left
   ·simp only [Act.put, Sa23, Sb23, Sc23, Zk, Zl]; rfl
   refine Zm (i := 45) (N := some 58) (v := undef) (a' := ?_) (Bm23 50 70368744177663) rfl rfl (Zj HT_.out (by kernel_rfl)) (fun _ _ _ h => h) (Or.inr ⟨by rfl, rfl⟩) ?_ ?_; rotate_left
   ·simp only [Act.put, Sa23, Sb23, Sc23, Zk, Zl]; rfl
   refine Zm (i := 46) (N := some 59) (v := undef) (a' := ?_) (Bm23 50 140737488355327) rfl rfl (Zj HT_.out (by kernel_rfl)) (fun _ _ _ h => h) (Or.inr ⟨by rfl, rfl⟩) ?_ ?_; rotate_left
   ·simp only [Act.put, Sa23, Sb23, Sc23, Zk, Zl]; rfl
   refine Zm (i := 47) (N := some 60) (v := undef) (a' := ?_) (Bm23 50 281474976710655) rfl rfl (Zj HT_.out (by kernel_rfl)) (fun _ _ _ h => h) (Or.inr ⟨by rfl, rfl⟩) ?_ ?_; rotate_left
   ·simp only [Act.put, Sa23, Sb23, Sc23, Zk, Zl]; rfl
   refine Zm (i := 48) (N := some 61) (v := undef) (a' := ?_) (Bm23 50 562949953421311) rfl rfl (Zj HT_.out (by kernel_rfl)) (fun _ _ _ h => h) (Or.inr ⟨by rfl, rfl⟩) ?_ ?_; rotate_left
   ·simp only [Act.put, Sa23, Sb23, Sc23, Zk, Zl]; rfl
   refine Zm (i := 49) (N := some 62) (v := ?_) (a' := ?_) (Bm23 50 1125899906842623) rfl rfl (Zj HT_.out (by kernel_rfl)) (fun _ _ _ h => h) (Or.inl ⟨by rfl, ?_⟩) ?_ ?_; rotate_left
   ·intro w'; go_simp; with_reducible rfl
   rotate_left
   ·simp only [Act.put, Sa23, Sb23, Sc23, Zk, Zl]; rfl
   refine done_ (done_of HT_.out (by kernel_rfl)) ?_; try go_wp2
   go_meet
   case rel => exact ⟨_, (true), (by first | rfl | (simp; done) | (simp [*]; done)), H', ⟨by first | omega | exact Nat.le_refl _⟩, ⟨by (with_reducible repeat (first | refine Zh ?_ _ | refine Zi ?_ | refine Zf ?_ _)); exact BK101.out⟩, ⟨by (with_reducible repeat (first | refine Zh ?_ _ | refine Zi ?_ | refine Zf ?_ _)); exact BK103.out⟩, ⟨by repeat (first | (with_reducible first | exact HB.out | apply Ze | apply Za | apply Zd | refine Zg ?_ GE101.out | refine Zg ?_ GE103.out) | exact HB.out)⟩⟩
 case rest =>
  clear HC5; obtain ⟨kq, x62_4, rfl, HA, HJ4, BK101, BK103, HB⟩ := hcut; cases kq with
  | zero => exact absurd HA.out (by simp [spec_l8Picture.j0])
  | succ kj4 =>
   have H := HA.out; clear HA; simp only [spec_l8Picture.j0] at H; by_cases c40 : x62_4 = true
   ·subst c40; rw [if_pos rfl] at H; obtain rfl := Option.some.inj H; go_wp2
    go_ret
    exact ⟨by first | rfl | (simp [errW_none, errW_some] <;> rfl) | (simp [*, errW_none, errW_some] <;> rfl), by repeat (first | (with_reducible first | exact HB.out | apply Ze | apply Za | apply Zd | refine Zg ?_ GE101.out | refine Zg ?_ GE103.out) | exact HB.out)⟩
   ·replace c40 := Bool.eq_false_iff.mpr c40; subst c40; rw [if_neg (show ¬ (false = true) by decide)] at H; have H' := Aside0.mk H; clear H; have hnb41 := NB103_101.out; have hnc41 := NB101_103.out; have hcz42_0 : wc.cell? ⟨gb103, 0, none⟩ = some (.bool ((rd_T76 l0_2 a1).f0)) := (Zb BK103.out 0).trans rfl; have hcz42_1 : wc.cell? ⟨gb103, 1, none⟩ = some (.int .i64 ((rd_T76 l0_2 a1).f1)) := (Zb BK103.out 1).trans rfl; have hcz42_2 : wc.cell? ⟨gb103, 2, none⟩ = some (.slice A102_2 ((rd_T76 l0_2 a1).f2).length c102_2) := (Zb BK103.out 2).trans rfl; have hcz42_3 : wc.cell? ⟨gb103, 3, none⟩ = some (.slice A102_3 ((rd_T76 l0_2 a1).f3).length c102_3) := (Zb BK103.out 3).trans rfl; have hfz42_0 := Zc BK103.out 0; have hfz42_1 := Zc BK103.out 1; have hfz42_2 := Zc BK103.out 2; have hfz42_3 := Zc BK103.out 3; go_wp2
    go_loopg [66] kj4 (fun kq v66 w' => ∃ (x66_2 : Int), v66 = .int .i64 x66_2 ∧ Aside0 (spec_l8Picture.l0 kq ((rd_T76 l0_2 a1).f2) (((rd_T76 l0_2 a1).f2).length : Int) x66_2 ((rd_T76 l0_2 a1).f0) ((rd_T76 l0_2 a1).f1) ((rd_T76 l0_2 a1).f2) ((rd_T76 l0_2 a1).f3) = some r) ∧ Aside0 (kq ≤ kj4) ∧ Aside0 (w'.heap[gb101]? = some (.cells #[(.slice A0_0 l0_0.length c0_0), (.slice A0_1 l0_1.length c0_1), (.slice (some ad102) l0_2.length c0_2), .int .i64 a0_3, .int .i64 a0_4] 35 (0, 0))) ∧ Aside0 (w'.heap[gb103]? = some (.cells #[.bool ((rd_T76 l0_2 a1).f0), .int .i64 ((rd_T76 l0_2 a1).f1), (.slice A102_2 ((rd_T76 l0_2 a1).f2).length c102_2), (.slice A102_3 ((rd_T76 l0_2 a1).f3).length c102_3)] 76 (0, 0))) ∧ Aside0 (Below w.heap.size w w'))
    case atStart => exact ⟨(0), (by first | rfl | (simp; done) | (simp [*]; done)), H', ⟨Nat.le_refl _⟩, ⟨by (with_reducible repeat (first | refine Zh ?_ _ | refine Zi ?_ | refine Zf ?_ _)); exact BK101.out⟩, ⟨by (with_reducible repeat (first | refine Zh ?_ _ | refine Zi ?_ | refine Zf ?_ _)); exact BK103.out⟩, ⟨by repeat (first | (with_reducible first | exact HB.out | apply Ze | apply Za | apply Zd | refine Zg ?_ GE101.out | refine Zg ?_ GE103.out) | exact HB.out)⟩⟩
    case round =>
     clear H'; try clear c4
     try clear c40
     try clear hcz42_0
     try clear hcz42_1
     try clear hcz42_2
     try clear hcz42_3
     try clear hfz42_0
     try clear hfz42_1
     try clear hfz42_2
     try clear hfz42_3
     obtain ⟨x66_2, rfl, HA, HK2, BK101, BK103, HB⟩ := hrel; cases gk with
     | zero => exact absurd HA.out (by simp [spec_l8Picture.l0])
     | succ k2 =>
      have H := HA.out; clear HA; simp only [spec_l8Picture.l0] at H; by_cases c43 : x66_2 < (((rd_T76 l0_2 a1).f2).length : Int)
      ·rw [if_pos c43] at H; have c43b0 : decide (x66_2 < (((rd_T76 l0_2 a1).f2).length : Int)) = true := decide_eq_true c43; clear c43; by_cases c44 : 0 ≤ x66_2
       case neg => rw [if_neg c44] at H; exact absurd H (by simp)
       rw [if_pos c44] at H; have c44b0 : decide (0 ≤ x66_2) = true := decide_eq_true c44; clear c44; by_cases c45 : x66_2 < (((rd_T76 l0_2 a1).f2).length : Int)
       case neg => rw [if_neg c45] at H; exact absurd H (by simp)
       rw [if_pos c45] at H; have c45b0 : decide (x66_2 < (((rd_T76 l0_2 a1).f2).length : Int)) = true := decide_eq_true c45; clear c45; replace H := Option.bind_eq_some_iff.mp H; obtain ⟨t110, A460, H⟩ := H; have A46 := Aside0.mk A460; clear A460; by_cases c47 : t110 = true
       ·subst c47; rw [if_pos rfl] at H; by_cases c48 : ((rd_T76 l0_2 a1).f0) = true
        ·rw [if_pos c48] at H; have c48b0 : ((rd_T76 l0_2 a1).f0) = true := c48; clear c48; have H' := Aside0.mk H; clear H; have p109 : 0 ≤ (x66_2 : Int) := of_decide_eq_true (by assumption); have q109 : x66_2 < (((rd_T76 l0_2 a1).f2).length : Int) := of_decide_eq_true (by assumption); obtain ⟨ad109, e109, hx109_0⟩ := Kd.at_int HR102_2.out x66_2 p109 q109; cases e109; replace hx109_0 := (HB.out.cell (World.block_lt_of_cell? w _ hx109_0)).trans hx109_0; replace p109 := eq_true p109; replace q109 := eq_true q109; go_wp2_with (first | ((with_reducible refine Zp (f := 43) rfl ?_); refine Zw (some 72) rfl rfl Try.func43 (by kernel_rfl) rfl #[.int .i64 (rd ((rd_T76 l0_2 a1).f2) x66_2), .int .i64 0, .int .i64 1000000] rfl (by (try simp only [List.map_toArray, List.map_cons, List.map_nil]); first | done | rfl | (simp only [List.length_drop, List.length_take]; rfl)) ?_; (with_reducible refine (spec_l1In.calls (rd ((rd_T76 l0_2 a1).f2) x66_2) 0 1000000 true _ A46.out).mono ?_); rintro e w' ⟨rfl, ⟨nd, rfl⟩⟩; refine ⟨_, rfl, ?_⟩; have hnb49 := NB103_101.out; have hnc49 := NB101_103.out; have hcz50_0 : wr.cell? ⟨gb103, 0, none⟩ = some (.bool ((rd_T76 l0_2 a1).f0)) := (Zb BK103.out 0).trans rfl; have hcz50_1 : wr.cell? ⟨gb103, 1, none⟩ = some (.int .i64 ((rd_T76 l0_2 a1).f1)) := (Zb BK103.out 1).trans rfl; have hcz50_2 : wr.cell? ⟨gb103, 2, none⟩ = some (.slice (some ad109) ((rd_T76 l0_2 a1).f2).length c102_2) := (Zb BK103.out 2).trans rfl; have hcz50_3 : wr.cell? ⟨gb103, 3, none⟩ = some (.slice A102_3 ((rd_T76 l0_2 a1).f3).length c102_3) := (Zb BK103.out 3).trans rfl; have hfz50_0 := Zc BK103.out 0; have hfz50_1 := Zc BK103.out 1; have hfz50_2 := Zc BK103.out 2; have hfz50_3 := Zc BK103.out 3)); go_roundg k2
         case measure => have := HJ4.out; have := HK2.out; omega
         case rel => exact ⟨(wrap64 (x66_2 + 1)), (by first | rfl | (simp; done) | (simp [*]; done)), H', ⟨by have := HJ4.out; have := HK2.out; omega⟩, ⟨by (with_reducible repeat (first | refine Zh ?_ _ | refine Zi ?_ | refine Zf ?_ _)); exact BK101.out⟩, ⟨by (with_reducible repeat (first | refine Zh ?_ _ | refine Zi ?_ | refine Zf ?_ _)); exact BK103.out⟩, ⟨by repeat (first | (with_reducible first | exact HB.out | apply Ze | apply Za | apply Zd | refine Zg ?_ GE101.out | refine Zg ?_ GE103.out) | exact HB.out)⟩⟩
        ·rw [if_neg c48] at H; have c48b0 : ((rd_T76 l0_2 a1).f0) = false := by simpa using c48
         clear c48; by_cases c51 : (rd ((rd_T76 l0_2 a1).f2) x66_2) = 0
         ·rw [if_pos c51] at H; have c51b0 : ((rd ((rd_T76 l0_2 a1).f2) x66_2) == 0) = true := beq_iff_eq.mpr c51; have c51b1 : ((rd ((rd_T76 l0_2 a1).f2) x66_2) != 0) = false := bne_eq_false_iff_eq.mpr c51; clear c51; by_cases c52 : x66_2 < (((rd_T76 l0_2 a1).f3).length : Int)
          case neg => rw [if_neg c52] at H; exact absurd H (by simp)
          rw [if_pos c52] at H; have c52b0 : decide (x66_2 < (((rd_T76 l0_2 a1).f3).length : Int)) = true := decide_eq_true c52; clear c52; obtain ⟨bq53, hbq53⟩ : ∃ b_ : Bool, b_ = (rdOf false ((rd_T76 l0_2 a1).f3) x66_2) := ⟨_, rfl⟩
          replace H : (if bq53 = true then (some false) else (spec_l8Picture.l0 k2 ((rd_T76 l0_2 a1).f2) (((rd_T76 l0_2 a1).f2).length : Int) (wrap64 (x66_2 + 1)) ((rd_T76 l0_2 a1).f0) ((rd_T76 l0_2 a1).f1) ((rd_T76 l0_2 a1).f2) ((rd_T76 l0_2 a1).f3))) = some r := by rw [← hbq53] at H; exact H
          have Nbq53 := Aside0.mk hbq53; clear hbq53; by_cases c54 : bq53 = true
          ·subst c54; rw [if_pos rfl] at H; obtain rfl := Option.some.inj H; have p109 : 0 ≤ (x66_2 : Int) := of_decide_eq_true (by assumption); have q109 : x66_2 < (((rd_T76 l0_2 a1).f2).length : Int) := of_decide_eq_true (by assumption); obtain ⟨ad109, e109, hx109_0⟩ := Kd.at_int HR102_2.out x66_2 p109 q109; cases e109; replace hx109_0 := (HB.out.cell (World.block_lt_of_cell? w _ hx109_0)).trans hx109_0; replace p109 := eq_true p109; replace q109 := eq_true q109; go_wp2_with (first | ((with_reducible refine Zp (f := 43) rfl ?_); refine Zw (some 72) rfl rfl Try.func43 (by kernel_rfl) rfl #[.int .i64 (rd ((rd_T76 l0_2 a1).f2) x66_2), .int .i64 0, .int .i64 1000000] rfl (by (try simp only [List.map_toArray, List.map_cons, List.map_nil]); first | done | rfl | (simp only [List.length_drop, List.length_take]; rfl)) ?_; (with_reducible refine (spec_l1In.calls (rd ((rd_T76 l0_2 a1).f2) x66_2) 0 1000000 true _ A46.out).mono ?_); rintro e w' ⟨rfl, ⟨nd, rfl⟩⟩; refine ⟨_, rfl, ?_⟩; have hnb55 := NB103_101.out; have hnc55 := NB101_103.out; have hcz56_0 : wr.cell? ⟨gb103, 0, none⟩ = some (.bool ((rd_T76 l0_2 a1).f0)) := (Zb BK103.out 0).trans rfl; have hcz56_1 : wr.cell? ⟨gb103, 1, none⟩ = some (.int .i64 ((rd_T76 l0_2 a1).f1)) := (Zb BK103.out 1).trans rfl; have hcz56_2 : wr.cell? ⟨gb103, 2, none⟩ = some (.slice (some ad109) ((rd_T76 l0_2 a1).f2).length c102_2) := (Zb BK103.out 2).trans rfl; have hcz56_3 : wr.cell? ⟨gb103, 3, none⟩ = some (.slice A102_3 ((rd_T76 l0_2 a1).f3).length c102_3) := (Zb BK103.out 3).trans rfl; have hfz56_0 := Zc BK103.out 0; have hfz56_1 := Zc BK103.out 1; have hfz56_2 := Zc BK103.out 2; have hfz56_3 := Zc BK103.out 3; have p111 : 0 ≤ (x66_2 : Int) := of_decide_eq_true (by assumption); have q111 : x66_2 < (((rd_T76 l0_2 a1).f3).length : Int) := of_decide_eq_true (by assumption); obtain ⟨ad111, e111, hx111_0⟩ := Kd.at_bool HR102_3.out x66_2 p111 q111; (try rw [← Nbq53.out] at hx111_0); cases e111; replace hx111_0 := (HB.out.cell (World.block_lt_of_cell? w _ hx111_0)).trans hx111_0; replace p111 := eq_true p111; replace q111 := eq_true q111)); go_ret
           exact ⟨by first | rfl | (simp [errW_none, errW_some] <;> rfl) | (simp [*, errW_none, errW_some] <;> rfl), by repeat (first | (with_reducible first | exact HB.out | apply Ze | apply Za | apply Zd | refine Zg ?_ GE101.out | refine Zg ?_ GE103.out) | exact HB.out)⟩
          ·replace c54 := Bool.eq_false_iff.mpr c54; subst c54; rw [if_neg (show ¬ (false = true) by decide)] at H; have H' := Aside0.mk H; clear H; have p109 : 0 ≤ (x66_2 : Int) := of_decide_eq_true (by assumption); have q109 : x66_2 < (((rd_T76 l0_2 a1).f2).length : Int) := of_decide_eq_true (by assumption); obtain ⟨ad109, e109, hx109_0⟩ := Kd.at_int HR102_2.out x66_2 p109 q109; cases e109; replace hx109_0 := (HB.out.cell (World.block_lt_of_cell? w _ hx109_0)).trans hx109_0; replace p109 := eq_true p109; replace q109 := eq_true q109; go_wp2_with (first | ((with_reducible refine Zp (f := 43) rfl ?_); refine Zw (some 72) rfl rfl Try.func43 (by kernel_rfl) rfl #[.int .i64 (rd ((rd_T76 l0_2 a1).f2) x66_2), .int .i64 0, .int .i64 1000000] rfl (by (try simp only [List.map_toArray, List.map_cons, List.map_nil]); first | done | rfl | (simp only [List.length_drop, List.length_take]; rfl)) ?_; (with_reducible refine (spec_l1In.calls (rd ((rd_T76 l0_2 a1).f2) x66_2) 0 1000000 true _ A46.out).mono ?_); rintro e w' ⟨rfl, ⟨nd, rfl⟩⟩; refine ⟨_, rfl, ?_⟩; have hnb57 := NB103_101.out; have hnc57 := NB101_103.out; have hcz58_0 : wr.cell? ⟨gb103, 0, none⟩ = some (.bool ((rd_T76 l0_2 a1).f0)) := (Zb BK103.out 0).trans rfl; have hcz58_1 : wr.cell? ⟨gb103, 1, none⟩ = some (.int .i64 ((rd_T76 l0_2 a1).f1)) := (Zb BK103.out 1).trans rfl; have hcz58_2 : wr.cell? ⟨gb103, 2, none⟩ = some (.slice (some ad109) ((rd_T76 l0_2 a1).f2).length c102_2) := (Zb BK103.out 2).trans rfl; have hcz58_3 : wr.cell? ⟨gb103, 3, none⟩ = some (.slice A102_3 ((rd_T76 l0_2 a1).f3).length c102_3) := (Zb BK103.out 3).trans rfl; have hfz58_0 := Zc BK103.out 0; have hfz58_1 := Zc BK103.out 1; have hfz58_2 := Zc BK103.out 2; have hfz58_3 := Zc BK103.out 3; have p111 : 0 ≤ (x66_2 : Int) := of_decide_eq_true (by assumption); have q111 : x66_2 < (((rd_T76 l0_2 a1).f3).length : Int) := of_decide_eq_true (by assumption); obtain ⟨ad111, e111, hx111_0⟩ := Kd.at_bool HR102_3.out x66_2 p111 q111; (try rw [← Nbq53.out] at hx111_0); cases e111; replace hx111_0 := (HB.out.cell (World.block_lt_of_cell? w _ hx111_0)).trans hx111_0; replace p111 := eq_true p111; replace q111 := eq_true q111)); go_roundg k2
           case measure => have := HJ4.out; have := HK2.out; omega
           case rel => (try simp only [← Nbq53.out]); exact ⟨(wrap64 (x66_2 + 1)), (by first | rfl | (simp; done) | (simp [*]; done)), H', ⟨by have := HJ4.out; have := HK2.out; omega⟩, ⟨by (with_reducible repeat (first | refine Zh ?_ _ | refine Zi ?_ | refine Zf ?_ _)); exact BK101.out⟩, ⟨by (with_reducible repeat (first | refine Zh ?_ _ | refine Zi ?_ | refine Zf ?_ _)); exact BK103.out⟩, ⟨by repeat (first | (with_reducible first | exact HB.out | apply Ze | apply Za | apply Zd | refine Zg ?_ GE101.out | refine Zg ?_ GE103.out) | exact HB.out)⟩⟩
         ·rw [if_neg c51] at H; have c51b0 : ((rd ((rd_T76 l0_2 a1).f2) x66_2) == 0) = false := beq_eq_false_iff_ne.mpr c51; have c51b1 : ((rd ((rd_T76 l0_2 a1).f2) x66_2) != 0) = true := bne_iff_ne.mpr c51; obtain rfl := Option.some.inj H; have p109 : 0 ≤ (x66_2 : Int) := of_decide_eq_true (by assumption); have q109 : x66_2 < (((rd_T76 l0_2 a1).f2).length : Int) := of_decide_eq_true (by assumption); obtain ⟨ad109, e109, hx109_0⟩ := Kd.at_int HR102_2.out x66_2 p109 q109; cases e109; replace hx109_0 := (HB.out.cell (World.block_lt_of_cell? w _ hx109_0)).trans hx109_0; replace p109 := eq_true p109; replace q109 := eq_true q109; go_wp2_with (first | ((with_reducible refine Zp (f := 43) rfl ?_); refine Zw (some 72) rfl rfl Try.func43 (by kernel_rfl) rfl #[.int .i64 (rd ((rd_T76 l0_2 a1).f2) x66_2), .int .i64 0, .int .i64 1000000] rfl (by (try simp only [List.map_toArray, List.map_cons, List.map_nil]); first | done | rfl | (simp only [List.length_drop, List.length_take]; rfl)) ?_; (with_reducible refine (spec_l1In.calls (rd ((rd_T76 l0_2 a1).f2) x66_2) 0 1000000 true _ A46.out).mono ?_); rintro e w' ⟨rfl, ⟨nd, rfl⟩⟩; refine ⟨_, rfl, ?_⟩; have hnb59 := NB103_101.out; have hnc59 := NB101_103.out; have hcz60_0 : wr.cell? ⟨gb103, 0, none⟩ = some (.bool ((rd_T76 l0_2 a1).f0)) := (Zb BK103.out 0).trans rfl; have hcz60_1 : wr.cell? ⟨gb103, 1, none⟩ = some (.int .i64 ((rd_T76 l0_2 a1).f1)) := (Zb BK103.out 1).trans rfl; have hcz60_2 : wr.cell? ⟨gb103, 2, none⟩ = some (.slice (some ad109) ((rd_T76 l0_2 a1).f2).length c102_2) := (Zb BK103.out 2).trans rfl; have hcz60_3 : wr.cell? ⟨gb103, 3, none⟩ = some (.slice A102_3 ((rd_T76 l0_2 a1).f3).length c102_3) := (Zb BK103.out 3).trans rfl; have hfz60_0 := Zc BK103.out 0; have hfz60_1 := Zc BK103.out 1; have hfz60_2 := Zc BK103.out 2; have hfz60_3 := Zc BK103.out 3)); go_ret
          exact ⟨by first | rfl | (simp [errW_none, errW_some] <;> rfl) | (simp [*, errW_none, errW_some] <;> rfl), by repeat (first | (with_reducible first | exact HB.out | apply Ze | apply Za | apply Zd | refine Zg ?_ GE101.out | refine Zg ?_ GE103.out) | exact HB.out)⟩
       ·replace c47 := Bool.eq_false_iff.mpr c47; subst c47; rw [if_neg (show ¬ (false = true) by decide)] at H; obtain rfl := Option.some.inj H; have p109 : 0 ≤ (x66_2 : Int) := of_decide_eq_true (by assumption); have q109 : x66_2 < (((rd_T76 l0_2 a1).f2).length : Int) := of_decide_eq_true (by assumption); obtain ⟨ad109, e109, hx109_0⟩ := Kd.at_int HR102_2.out x66_2 p109 q109; cases e109; replace hx109_0 := (HB.out.cell (World.block_lt_of_cell? w _ hx109_0)).trans hx109_0; replace p109 := eq_true p109; replace q109 := eq_true q109; go_wp2_with (first | ((with_reducible refine Zp (f := 43) rfl ?_); refine Zw (some 72) rfl rfl Try.func43 (by kernel_rfl) rfl #[.int .i64 (rd ((rd_T76 l0_2 a1).f2) x66_2), .int .i64 0, .int .i64 1000000] rfl (by (try simp only [List.map_toArray, List.map_cons, List.map_nil]); first | done | rfl | (simp only [List.length_drop, List.length_take]; rfl)) ?_; (with_reducible refine (spec_l1In.calls (rd ((rd_T76 l0_2 a1).f2) x66_2) 0 1000000 false _ A46.out).mono ?_); rintro e w' ⟨rfl, ⟨nd, rfl⟩⟩; refine ⟨_, rfl, ?_⟩)); go_ret
        exact ⟨by first | rfl | (simp [errW_none, errW_some] <;> rfl) | (simp [*, errW_none, errW_some] <;> rfl), by repeat (first | (with_reducible first | exact HB.out | apply Ze | apply Za | apply Zd | refine Zg ?_ GE101.out | refine Zg ?_ GE103.out) | exact HB.out)⟩
      ·rw [if_neg c43] at H; have c43b0 : decide (x66_2 < (((rd_T76 l0_2 a1).f2).length : Int)) = false := decide_eq_false c43; clear c43; obtain rfl := Option.some.inj H; go_wp2
       go_ret
       exact ⟨by first | rfl | (simp [errW_none, errW_some] <;> rfl) | (simp [*, errW_none, errW_some] <;> rfl), by repeat (first | (with_reducible first | exact HB.out | apply Ze | apply Za | apply Zd | refine Zg ?_ GE101.out | refine Zg ?_ GE103.out) | exact HB.out)⟩
end Go.Proofs.Ytmkiffemanmgcaa.P
end
