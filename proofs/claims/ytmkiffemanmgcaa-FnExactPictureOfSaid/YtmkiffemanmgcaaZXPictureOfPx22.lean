-- Written by programs of this session (wip/prune.py, wip/xp.py), out of the translation and the printed words; what the law does not reach is left out. Not trusted: Lean checks it.
import Derived.Test.YtmkiffemanmgcaaZXPictureOfPx0
import Derived.Test.YtmkiffemanmgcaaZXPictureOfPx19
import Derived.Test.YtmkiffemanmgcaaZXPictureOfPx21
section
namespace Go.Proofs.Ytmkiffemanmgcaa.P
open Go.RowKit Go.Proofs.YtmkiffemanmgcaaW.PrintWords Go.Proofs.YtmkiffemanmgcaaW.PrintLast Go.Proofs.YtmkiffemanmgcaaW.PrintMore
attribute [local go_sem] max2_int min2_int max_two min_two max_three min_three max_four min_four   -- for this text's walks alone
set_option linter.unusedVariables false
set_option linter.unusedSimpArgs false
mutual
def impl_PictureOf.l0 : Nat → Int → List (S76) → Int → Int → Option (Int × Bool)
 | 0, _, _, _, _ => none
 | k + 1, x4, x13, x14, x15 => if x15 < x14 then (if 0 ≤ x15 then (if x15 < (x13.length : Int) then (if ((rd_T76 x13 x15).f0 = true) then ((slices_Contains_bool_bool.f k ((rd_T76 x13 x15).f3) false).bind fun t105 => (impl_PictureOf.j1 k x4 x13 x14 x15 t105 ((rd_T76 x13 x15).f0) ((rd_T76 x13 x15).f1) ((rd_T76 x13 x15).f2) ((rd_T76 x13 x15).f3))) else (impl_PictureOf.j1 k x4 x13 x14 x15 true ((rd_T76 x13 x15).f0) ((rd_T76 x13 x15).f1) ((rd_T76 x13 x15).f2) ((rd_T76 x13 x15).f3))) else (none)) else (none)) else (some (x4, true))
def impl_PictureOf.j1 : Nat → Int → List (S76) → Int → Int → Bool → Bool → Int → List Int → List Bool → Option (Int × Bool)
 | 0, _, _, _, _, _, _, _, _, _ => none
 | k + 1, x4, x13, x14, x15, x26, x105000, x105001, x105002, x105003 => if x26 = true then (some (0, false)) else (impl_PictureOf.l1 k (wrap64 (x4 + x105001)) x13 x14 x15 x105002 (x105002.length : Int) 0)
def impl_PictureOf.l1 : Nat → Int → List (S76) → Int → Int → List Int → Int → Int → Option (Int × Bool)
 | 0, _, _, _, _, _, _, _ => none
 | k + 1, x4, x13, x14, x15, x32, x33, x34 => if x34 < x33 then (if 0 ≤ x34 then (if x34 < (x32.length : Int) then (impl_PictureOf.l1 k (wrap64 (x4 + (rd x32 x34))) x13 x14 x15 x32 x33 (wrap64 (x34 + 1))) else (none)) else (none)) else (impl_PictureOf.l0 k x4 x13 x14 (wrap64 (x15 + 1)))
end
def impl_PictureOf.f (k : Nat) (l0_0 : List Int) (l0_1 : List (S94)) (l0_2 : List (S76)) (a0_3 : Int) (a0_4 : Int) : Option (Int × Bool) := (impl_isSnap.f k l0_0 l0_1 l0_2 a0_3 a0_4).bind fun t102 => (if t102 = true then (impl_PictureOf.l0 k 0 l0_2 (l0_2.length : Int) 0) else (some (0, false)))
set_option maxHeartbeats 8000000 in
set_option maxRecDepth 100000 in
theorem impl_PictureOf.calls (k : Nat) (A0_0 : Option Addr) (c0_0 : Nat) (l0_0 : List Int) (A0_1 : Option Addr) (c0_1 : Nat) (l0_1 : List (S94)) (A0_2 : Option Addr) (c0_2 : Nat) (l0_2 : List (S76)) (a0_3 : Int) (a0_4 : Int) (r1 : Int) (r2 : Bool) (w : World) (hr0_0 : Kd.C (Kd.int .i64) w A0_0 l0_0.length l0_0) (hc0_0 : l0_0.length ≤ c0_0) (hr0_1 : Kd.C k94 w A0_1 l0_1.length l0_1) (hc0_1 : l0_1.length ≤ c0_1) (hr0_2 : Kd.C k76 w A0_2 l0_2.length l0_2) (hc0_2 : l0_2.length ≤ c0_2) (h : impl_PictureOf.f k l0_0 l0_1 l0_2 a0_3 a0_4 = some (r1, r2)) :
  Calls Try.prog 42 #[.agg #[.slice A0_0 l0_0.length c0_0, .slice A0_1 l0_1.length c0_1, .slice A0_2 l0_2.length c0_2, .int .i64 a0_3, .int .i64 a0_4]] w fun e w' => e = .returned (.tuple #[.int .i64 r1, .bool r2]) ∧ Below w.heap.size w w' := by
 have hu35 := Try.underlying35; have hu76 := Try.underlying76; have hu31 := Try.underlying31; have HR0_0 := Aside0.mk hr0_0; have HC0_0 := Aside0.mk hc0_0; clear hr0_0 hc0_0; have HR0_1 := Aside0.mk hr0_1; have HC0_1 := Aside0.mk hc0_1; clear hr0_1 hc0_1; have HR0_2 := Aside0.mk hr0_2; have HC0_2 := Aside0.mk hc0_2; clear hr0_2 hc0_2; have HB := Aside0.mk (Below.refl w.heap.size w); have H : ((impl_isSnap.f k l0_0 l0_1 l0_2 a0_3 a0_4).bind fun t102 => (if t102 = true then (impl_PictureOf.l0 k 0 l0_2 (l0_2.length : Int) 0) else (some (0, false)))) = some (r1, r2) := h; clear h; replace H := Option.bind_eq_some_iff.mp H; obtain ⟨t102, A20, H⟩ := H; have A2 := Aside0.mk A20; clear A20; by_cases c3 : t102 = true
 ·subst c3; rw [if_pos rfl] at H; have H' := Aside0.mk H; clear H; go_enter Try.func42, Try.ntmps42
  go_wp2_with (first | ((with_reducible refine Zv (N := 1) rfl ?_); refine Zu ?hg (N := 1) ?hd (cs := #[.slice A0_0 l0_0.length c0_0, .slice A0_1 l0_1.length c0_1, .slice A0_2 l0_2.length c0_2, .int .i64 a0_3, .int .i64 a0_4]) (t := 35) ?hr ?_; (case hd => rfl); (case hg => rfl); (case hr => first | (go_simp; done) | (go_simp; rfl)); intro gb101 hg w4 hbox hb; have n0_ := Aside0.mk (Zo (by repeat (first | (with_reducible first | exact HB.out | apply Ze | apply Za | apply Zd) | exact HB.out)) hb); have n1_ := Aside0.mk (hbox); have n2_ := Aside0.mk ((by rw [hg]; exact (Zn (by repeat (first | (with_reducible first | exact HB.out | apply Ze | apply Za | apply Zd) | exact HB.out))) : w.heap.size ≤ gb101)); have n3_ := n2_; clear HB; have HB := n0_; have BK101 := n1_; have GW101 := n2_; have GE101 := n3_; clear n0_ n1_ n2_ n3_; clear hb hbox hg; have hcz5_0 : w4.cell? ⟨gb101, 0, none⟩ = some (.slice A0_0 l0_0.length c0_0) := (Zb BK101.out 0).trans rfl; have hcz5_1 : w4.cell? ⟨gb101, 1, none⟩ = some (.slice A0_1 l0_1.length c0_1) := (Zb BK101.out 1).trans rfl; have hcz5_2 : w4.cell? ⟨gb101, 2, none⟩ = some (.slice A0_2 l0_2.length c0_2) := (Zb BK101.out 2).trans rfl; have hcz5_3 : w4.cell? ⟨gb101, 3, none⟩ = some (.int .i64 a0_3) := (Zb BK101.out 3).trans rfl; have hcz5_4 : w4.cell? ⟨gb101, 4, none⟩ = some (.int .i64 a0_4) := (Zb BK101.out 4).trans rfl; have hfz5_0 := Zc BK101.out 0; have hfz5_1 := Zc BK101.out 1; have hfz5_2 := Zc BK101.out 2; have hfz5_3 := Zc BK101.out 3; have hfz5_4 := Zc BK101.out 4) | ((with_reducible refine Zp (f := 76) rfl ?_); refine Zw (some 10) rfl rfl Try.func76 (by kernel_rfl) rfl #[.agg #[.slice A0_0 l0_0.length c0_0, .slice A0_1 l0_1.length c0_1, .slice A0_2 l0_2.length c0_2, .int .i64 a0_3, .int .i64 a0_4]] rfl (by (try simp only [List.map_toArray, List.map_cons, List.map_nil]); first | done | rfl | (simp only [List.length_drop, List.length_take]; rfl)) ?_; (with_reducible refine (impl_isSnap.calls k _ _ l0_0 _ _ l0_1 _ _ l0_2 a0_3 a0_4 true _ ?side1 ?side2 ?side3 ?side4 ?side5 ?side6 A2.out).mono ?_); (case side1 => repeat (first | exact (Kd.C_below HR0_0.out HB.out) | (with_reducible refine Kd.C_alloc ?_ _) | (with_reducible refine Kd.C_drewN ?_ _) | (with_reducible refine Kd.C_drew ?_))); (case side2 => exact HC0_0.out); (case side3 => repeat (first | exact (Kd.C_below HR0_1.out HB.out) | (with_reducible refine Kd.C_alloc ?_ _) | (with_reducible refine Kd.C_drewN ?_ _) | (with_reducible refine Kd.C_drew ?_))); (case side4 => exact HC0_1.out); (case side5 => repeat (first | exact (Kd.C_below HR0_2.out HB.out) | (with_reducible refine Kd.C_alloc ?_ _) | (with_reducible refine Kd.C_drewN ?_ _) | (with_reducible refine Kd.C_drew ?_))); (case side6 => exact HC0_2.out); rintro e w6 ⟨rfl, hb⟩; refine ⟨_, rfl, ?_⟩; have n0_ := Aside0.mk (Zq (g := gb101) (o := .cells #[.slice A0_0 l0_0.length c0_0, .slice A0_1 l0_1.length c0_1, .slice A0_2 l0_2.length c0_2, .int .i64 a0_3, .int .i64 a0_4] 35 (0, 0)) (by (with_reducible repeat (first | refine Zh ?_ _ | refine Zi ?_ | refine Zf ?_ _)); exact BK101.out) hb); have n1_ := Aside0.mk (Zo (by repeat (first | (with_reducible first | exact HB.out | apply Ze | apply Za | apply Zd | refine Zg ?_ GE101.out) | exact HB.out)) hb); clear BK101; clear HB; have BK101 := n0_; have HB := n1_; clear n0_ n1_; (try clear hb); have hcz7_0 : w6.cell? ⟨gb101, 0, none⟩ = some (.slice A0_0 l0_0.length c0_0) := (Zb BK101.out 0).trans rfl; have hcz7_1 : w6.cell? ⟨gb101, 1, none⟩ = some (.slice A0_1 l0_1.length c0_1) := (Zb BK101.out 1).trans rfl; have hcz7_2 : w6.cell? ⟨gb101, 2, none⟩ = some (.slice A0_2 l0_2.length c0_2) := (Zb BK101.out 2).trans rfl; have hcz7_3 : w6.cell? ⟨gb101, 3, none⟩ = some (.int .i64 a0_3) := (Zb BK101.out 3).trans rfl; have hcz7_4 : w6.cell? ⟨gb101, 4, none⟩ = some (.int .i64 a0_4) := (Zb BK101.out 4).trans rfl; have hfz7_0 := Zc BK101.out 0; have hfz7_1 := Zc BK101.out 1; have hfz7_2 := Zc BK101.out 2; have hfz7_3 := Zc BK101.out 3; have hfz7_4 := Zc BK101.out 4)); go_loopg [4, 15] k (fun kq v4 v15 w' => ∃ (x4_1 : Int) (x15_1 : Int), v4 = .int .i64 x4_1 ∧ v15 = .int .i64 x15_1 ∧ Aside0 (impl_PictureOf.l0 kq x4_1 l0_2 (l0_2.length : Int) x15_1 = some (r1, r2)) ∧ Aside0 (kq ≤ k) ∧ Aside0 (w'.heap[gb101]? = some (.cells #[(.slice A0_0 l0_0.length c0_0), (.slice A0_1 l0_1.length c0_1), (.slice A0_2 l0_2.length c0_2), .int .i64 a0_3, .int .i64 a0_4] 35 (0, 0))) ∧ Aside0 (Below w.heap.size w w'))
  case atStart => exact ⟨(0), (0), (by first | rfl | (simp; done) | (simp [*]; done)), (by first | rfl | (simp; done) | (simp [*]; done)), H', ⟨Nat.le_refl _⟩, ⟨by (with_reducible repeat (first | refine Zh ?_ _ | refine Zi ?_ | refine Zf ?_ _)); exact BK101.out⟩, ⟨by repeat (first | (with_reducible first | exact HB.out | apply Ze | apply Za | apply Zd | refine Zg ?_ GE101.out) | exact HB.out)⟩⟩
  case round =>
   clear H'; try clear c3
   try clear hcz5_0
   try clear hcz5_1
   try clear hcz5_2
   try clear hcz5_3
   try clear hcz5_4
   try clear hcz7_0
   try clear hcz7_1
   try clear hcz7_2
   try clear hcz7_3
   try clear hcz7_4
   try clear hfz5_0
   try clear hfz5_1
   try clear hfz5_2
   try clear hfz5_3
   try clear hfz5_4
   try clear hfz7_0
   try clear hfz7_1
   try clear hfz7_2
   try clear hfz7_3
   try clear hfz7_4
   obtain ⟨x4_1, x15_1, rfl, rfl, HA, HK1, BK101, HB⟩ := hrel; cases gk with
   | zero => exact absurd HA.out (by simp [impl_PictureOf.l0])
   | succ k1 =>
    have H := HA.out; clear HA; simp only [impl_PictureOf.l0] at H; by_cases c8 : x15_1 < (l0_2.length : Int)
    ·rw [if_pos c8] at H; have c8b0 : decide (x15_1 < (l0_2.length : Int)) = true := decide_eq_true c8; clear c8; by_cases c9 : 0 ≤ x15_1
     case neg => rw [if_neg c9] at H; exact absurd H (by simp)
     rw [if_pos c9] at H; have c9b0 : decide (0 ≤ x15_1) = true := decide_eq_true c9; clear c9; by_cases c10 : x15_1 < (l0_2.length : Int)
     case neg => rw [if_neg c10] at H; exact absurd H (by simp)
     rw [if_pos c10] at H; have c10b0 : decide (x15_1 < (l0_2.length : Int)) = true := decide_eq_true c10; clear c10; have HC11 := Aside0.mk H; clear H; have p103 : 0 ≤ (x15_1 : Int) := of_decide_eq_true (by assumption); have q103 : x15_1 < (l0_2.length : Int) := of_decide_eq_true (by assumption); obtain ⟨ad103, A103_2, c103_2, A103_3, c103_3, e103, hx103_0, hx103_1, hx103_2, hx103_3, hl103_2, hi103_2, hl103_3, hi103_3⟩ := at_T76 HR0_2.out x15_1 p103 q103; cases e103; replace hx103_0 := (HB.out.cell (World.block_lt_of_cell? w _ hx103_0)).trans hx103_0; replace hx103_1 := (HB.out.cell (World.block_lt_of_cell? w _ hx103_1)).trans hx103_1; replace hx103_2 := (HB.out.cell (World.block_lt_of_cell? w _ hx103_2)).trans hx103_2; replace hx103_3 := (HB.out.cell (World.block_lt_of_cell? w _ hx103_3)).trans hx103_3; have HR103_2 := Aside0.mk hi103_2; have HC103_2 := Aside0.mk hl103_2; clear hi103_2 hl103_2; have HR103_3 := Aside0.mk hi103_3; have HC103_3 := Aside0.mk hl103_3; clear hi103_3 hl103_3; replace p103 := eq_true p103; replace q103 := eq_true q103; go_upto_region 7 with (first | ((with_reducible refine Zv (N := 6) rfl ?_); refine Zu ?hg (N := 6) ?hd (cs := #[.bool false, .int .i64 0, .slice none 0 0, .slice none 0 0]) (t := 76) ?hr ?_; (case hd => rfl); (case hg => rfl); (case hr => first | (go_simp; done) | (go_simp; rfl)); intro gb104 hg w12 hbox hb; have n0_ := Aside0.mk (Zq (g := gb101) (o := .cells #[.slice A0_0 l0_0.length c0_0, .slice A0_1 l0_1.length c0_1, .slice (some ad103) l0_2.length c0_2, .int .i64 a0_3, .int .i64 a0_4] 35 (0, 0)) (by (with_reducible repeat (first | refine Zh ?_ _ | refine Zi ?_ | refine Zf ?_ _)); exact BK101.out) hb); have n1_ := Aside0.mk (Zo (by repeat (first | (with_reducible first | exact HB.out | apply Ze | apply Za | apply Zd | refine Zg ?_ GE101.out) | exact HB.out)) hb); have n2_ := Aside0.mk (hbox); have n3_ := Aside0.mk ((by rw [hg]; exact (Zn (by repeat (first | (with_reducible first | exact HB.out | apply Ze | apply Za | apply Zd | refine Zg ?_ GE101.out) | exact HB.out))) : w.heap.size ≤ gb104)); have n4_ := n3_; have n5_ := Aside0.mk ((by rw [hg]; exact Nat.ne_of_lt (Zx (g := gb101) (o := .cells #[.slice A0_0 l0_0.length c0_0, .slice A0_1 l0_1.length c0_1, .slice (some ad103) l0_2.length c0_2, .int .i64 a0_3, .int .i64 a0_4] 35 (0, 0)) (by (with_reducible repeat (first | refine Zh ?_ _ | refine Zi ?_ | refine Zf ?_ _)); exact BK101.out)) : gb101 ≠ gb104)); have n6_ := Aside0.mk n5_.out.symm; clear BK101; clear HB; have BK101 := n0_; have HB := n1_; have BK104 := n2_; have GW104 := n3_; have GE104 := n4_; have NB101_104 := n5_; have NB104_101 := n6_; clear n0_ n1_ n2_ n3_ n4_ n5_ n6_; clear hb hbox hg; have hnb13 := NB104_101.out; have hnc13 := NB101_104.out; have hcz14_0 : w12.cell? ⟨gb104, 0, none⟩ = some (.bool false) := (Zb BK104.out 0).trans rfl; have hcz14_1 : w12.cell? ⟨gb104, 1, none⟩ = some (.int .i64 0) := (Zb BK104.out 1).trans rfl; have hcz14_2 : w12.cell? ⟨gb104, 2, none⟩ = some (.slice none 0 0) := (Zb BK104.out 2).trans rfl; have hcz14_3 : w12.cell? ⟨gb104, 3, none⟩ = some (.slice none 0 0) := (Zb BK104.out 3).trans rfl; have hfz14_0 := Zc BK104.out 0; have hfz14_1 := Zc BK104.out 1; have hfz14_2 := Zc BK104.out 2; have hfz14_3 := Zc BK104.out 3))
     (try simp only [Act.put, List.setIfInBounds_toArray, List.set_cons_zero, List.set_cons_succ])
     go_cut [26] (fun v26 wc => ∃ (kq : Nat) (x26_10 : Bool), v26 = .bool x26_10 ∧ Aside0 (impl_PictureOf.j1 kq x4_1 l0_2 (l0_2.length : Int) x15_1 x26_10 ((rd_T76 l0_2 x15_1).f0) ((rd_T76 l0_2 x15_1).f1) ((rd_T76 l0_2 x15_1).f2) ((rd_T76 l0_2 x15_1).f3) = some (r1, r2)) ∧ Aside0 (kq ≤ k1) ∧ Aside0 (wc.heap[gb101]? = some (.cells #[(.slice A0_0 l0_0.length c0_0), (.slice A0_1 l0_1.length c0_1), (.slice (some ad103) l0_2.length c0_2), .int .i64 a0_3, .int .i64 a0_4] 35 (0, 0))) ∧ Aside0 (wc.heap[gb104]? = some (.cells #[.bool ((rd_T76 l0_2 x15_1).f0), .int .i64 ((rd_T76 l0_2 x15_1).f1), (.slice A103_2 ((rd_T76 l0_2 x15_1).f2).length c103_2), (.slice A103_3 ((rd_T76 l0_2 x15_1).f3).length c103_3)] 76 (0, 0))) ∧ Aside0 (Below w.heap.size w wc))
     case first =>
      have H := HC11.out; clear HC11; obtain ⟨bq15, hbq15⟩ : ∃ b_ : Bool, b_ = ((rd_T76 l0_2 x15_1).f0) := ⟨_, rfl⟩
      replace H : (if (bq15 = true) then ((slices_Contains_bool_bool.f k1 ((rd_T76 l0_2 x15_1).f3) false).bind fun t105 => (impl_PictureOf.j1 k1 x4_1 l0_2 (l0_2.length : Int) x15_1 t105 bq15 ((rd_T76 l0_2 x15_1).f1) ((rd_T76 l0_2 x15_1).f2) ((rd_T76 l0_2 x15_1).f3))) else (impl_PictureOf.j1 k1 x4_1 l0_2 (l0_2.length : Int) x15_1 true bq15 ((rd_T76 l0_2 x15_1).f1) ((rd_T76 l0_2 x15_1).f2) ((rd_T76 l0_2 x15_1).f3))) = some (r1, r2) := by rw [← hbq15] at H; exact H
      have Nbq15 := Aside0.mk hbq15; clear hbq15
      (try rw [← Nbq15.out])
      by_cases c16 : (bq15 = true)
      ·subst c16; have hTbq15 := Nbq15.out.symm; rw [if_pos rfl] at H; replace H := Option.bind_eq_some_iff.mp H; obtain ⟨t105, A170, H⟩ := H; have A17 := Aside0.mk A170; clear A170; have H' := Aside0.mk H; clear H; have hnb18 := NB104_101.out; have hnc18 := NB101_104.out; have hcz19_0 : w12.cell? ⟨gb104, 0, none⟩ = some (.bool false) := (Zb BK104.out 0).trans rfl; have hcz19_1 : w12.cell? ⟨gb104, 1, none⟩ = some (.int .i64 0) := (Zb BK104.out 1).trans rfl; have hcz19_2 : w12.cell? ⟨gb104, 2, none⟩ = some (.slice none 0 0) := (Zb BK104.out 2).trans rfl; have hcz19_3 : w12.cell? ⟨gb104, 3, none⟩ = some (.slice none 0 0) := (Zb BK104.out 3).trans rfl; have hfz19_0 := Zc BK104.out 0; have hfz19_1 := Zc BK104.out 1; have hfz19_2 := Zc BK104.out 2; have hfz19_3 := Zc BK104.out 3; go_wp2_with (first | (go_at_call 78; (with_reducible refine (slices_Contains_bool_bool.calls k1 _ _ ((rd_T76 l0_2 x15_1).f3) false t105 _ ?side1 ?side2 A17.out).mono ?_); (case side1 => exact Kd.C_below HR103_3.out (by repeat (first | (with_reducible first | exact HB.out | apply Ze | apply Za | apply Zd | refine Zg ?_ GE101.out | refine Zg ?_ GE104.out) | exact HB.out))); (case side2 => exact HC103_3.out); rintro e w' ⟨rfl, ⟨nd, rfl⟩⟩)); go_meet
       case rel => (try simp only [← Nbq15.out]); exact ⟨_, (t105), (by first | rfl | (simp; done) | (simp [*]; done)), H', ⟨by have := HK1.out; first | omega | exact Nat.le_refl _⟩, ⟨by (with_reducible repeat (first | refine Zh ?_ _ | refine Zi ?_ | refine Zf ?_ _)); refine Zs ?_ NB101_104.out _; (with_reducible repeat (first | refine Zh ?_ _ | refine Zi ?_ | refine Zf ?_ _)); refine Zs ?_ NB101_104.out _; (with_reducible repeat (first | refine Zh ?_ _ | refine Zi ?_ | refine Zf ?_ _)); refine Zs ?_ NB101_104.out _; (with_reducible repeat (first | refine Zh ?_ _ | refine Zi ?_ | refine Zf ?_ _)); refine Zs ?_ NB101_104.out _; (with_reducible repeat (first | refine Zh ?_ _ | refine Zi ?_ | refine Zf ?_ _)); exact BK101.out⟩, ⟨by (with_reducible repeat (first | refine Zh ?_ _ | refine Zi ?_ | refine Zf ?_ _)); refine Zt (cs := #[.bool (true), .int .i64 ((rd_T76 l0_2 x15_1).f1), .slice A103_2 ((rd_T76 l0_2 x15_1).f2).length c103_2, .slice none 0 0]) ?_ 3 _ rfl; (with_reducible repeat (first | refine Zh ?_ _ | refine Zi ?_ | refine Zf ?_ _)); refine Zt (cs := #[.bool (true), .int .i64 ((rd_T76 l0_2 x15_1).f1), .slice none 0 0, .slice none 0 0]) ?_ 2 _ rfl; (with_reducible repeat (first | refine Zh ?_ _ | refine Zi ?_ | refine Zf ?_ _)); refine Zt (cs := #[.bool (true), .int .i64 0, .slice none 0 0, .slice none 0 0]) ?_ 1 _ rfl; (with_reducible repeat (first | refine Zh ?_ _ | refine Zi ?_ | refine Zf ?_ _)); refine Zt (cs := #[.bool false, .int .i64 0, .slice none 0 0, .slice none 0 0]) ?_ 0 _ rfl; (with_reducible repeat (first | refine Zh ?_ _ | refine Zi ?_ | refine Zf ?_ _)); exact BK104.out⟩, ⟨by repeat (first | (with_reducible first | exact HB.out | apply Ze | apply Za | apply Zd | refine Zg ?_ GE101.out | refine Zg ?_ GE104.out) | exact HB.out)⟩⟩
      ·replace c16 := Bool.eq_false_iff.mpr c16; subst c16; have hTbq15 := Nbq15.out.symm; rw [if_neg (show ¬ (false = true) by decide)] at H; have H' := Aside0.mk H; clear H; have hnb20 := NB104_101.out; have hnc20 := NB101_104.out; have hcz21_0 : w12.cell? ⟨gb104, 0, none⟩ = some (.bool false) := (Zb BK104.out 0).trans rfl; have hcz21_1 : w12.cell? ⟨gb104, 1, none⟩ = some (.int .i64 0) := (Zb BK104.out 1).trans rfl; have hcz21_2 : w12.cell? ⟨gb104, 2, none⟩ = some (.slice none 0 0) := (Zb BK104.out 2).trans rfl; have hcz21_3 : w12.cell? ⟨gb104, 3, none⟩ = some (.slice none 0 0) := (Zb BK104.out 3).trans rfl; have hfz21_0 := Zc BK104.out 0; have hfz21_1 := Zc BK104.out 1; have hfz21_2 := Zc BK104.out 2; have hfz21_3 := Zc BK104.out 3; go_wp2
       go_meet
       case rel => (try simp only [← Nbq15.out]); exact ⟨_, (true), (by first | rfl | (simp; done) | (simp [*]; done)), H', ⟨by have := HK1.out; first | omega | exact Nat.le_refl _⟩, ⟨by (with_reducible repeat (first | refine Zh ?_ _ | refine Zi ?_ | refine Zf ?_ _)); refine Zs ?_ NB101_104.out _; (with_reducible repeat (first | refine Zh ?_ _ | refine Zi ?_ | refine Zf ?_ _)); refine Zs ?_ NB101_104.out _; (with_reducible repeat (first | refine Zh ?_ _ | refine Zi ?_ | refine Zf ?_ _)); refine Zs ?_ NB101_104.out _; (with_reducible repeat (first | refine Zh ?_ _ | refine Zi ?_ | refine Zf ?_ _)); refine Zs ?_ NB101_104.out _; (with_reducible repeat (first | refine Zh ?_ _ | refine Zi ?_ | refine Zf ?_ _)); exact BK101.out⟩, ⟨by (with_reducible repeat (first | refine Zh ?_ _ | refine Zi ?_ | refine Zf ?_ _)); refine Zt (cs := #[.bool (false), .int .i64 ((rd_T76 l0_2 x15_1).f1), .slice A103_2 ((rd_T76 l0_2 x15_1).f2).length c103_2, .slice none 0 0]) ?_ 3 _ rfl; (with_reducible repeat (first | refine Zh ?_ _ | refine Zi ?_ | refine Zf ?_ _)); refine Zt (cs := #[.bool (false), .int .i64 ((rd_T76 l0_2 x15_1).f1), .slice none 0 0, .slice none 0 0]) ?_ 2 _ rfl; (with_reducible repeat (first | refine Zh ?_ _ | refine Zi ?_ | refine Zf ?_ _)); refine Zt (cs := #[.bool (false), .int .i64 0, .slice none 0 0, .slice none 0 0]) ?_ 1 _ rfl; (with_reducible repeat (first | refine Zh ?_ _ | refine Zi ?_ | refine Zf ?_ _)); refine Zt (cs := #[.bool false, .int .i64 0, .slice none 0 0, .slice none 0 0]) ?_ 0 _ rfl; (with_reducible repeat (first | refine Zh ?_ _ | refine Zi ?_ | refine Zf ?_ _)); exact BK104.out⟩, ⟨by repeat (first | (with_reducible first | exact HB.out | apply Ze | apply Za | apply Zd | refine Zg ?_ GE101.out | refine Zg ?_ GE104.out) | exact HB.out)⟩⟩
     case rest =>
      clear HC11; try clear c3
      try clear c8
      try clear c8b0
      try clear c9
      try clear c9b0
      try clear c10
      try clear c10b0
      try clear hcz14_0
      try clear hcz14_1
      try clear hcz14_2
      try clear hcz14_3
      try clear hcz5_0
      try clear hcz5_1
      try clear hcz5_2
      try clear hcz5_3
      try clear hcz5_4
      try clear hcz7_0
      try clear hcz7_1
      try clear hcz7_2
      try clear hcz7_3
      try clear hcz7_4
      try clear hfz14_0
      try clear hfz14_1
      try clear hfz14_2
      try clear hfz14_3
      try clear hfz5_0
      try clear hfz5_1
      try clear hfz5_2
      try clear hfz5_3
      try clear hfz5_4
      try clear hfz7_0
      try clear hfz7_1
      try clear hfz7_2
      try clear hfz7_3
      try clear hfz7_4
      try clear hx103_0
      try clear hx103_1
      try clear hx103_2
      try clear hx103_3
      try clear p103
      try clear q103
      obtain ⟨kq, x26_10, rfl, HA, HJ10, BK101, BK104, HB⟩ := hcut; cases kq with
      | zero => exact absurd HA.out (by simp [impl_PictureOf.j1])
      | succ kj10 =>
       have H := HA.out; clear HA; simp only [impl_PictureOf.j1] at H; by_cases c22 : x26_10 = true
       ·subst c22; rw [if_pos rfl] at H; simp only [Option.some.injEq, Prod.mk.injEq] at H; obtain ⟨rfl, rfl⟩ := H; go_wp2
        go_ret2
        exact ⟨by first | rfl | (simp [errW_none, errW_some] <;> rfl) | (simp [*, errW_none, errW_some] <;> rfl), by repeat (first | (with_reducible first | exact HB.out | apply Ze | apply Za | apply Zd | refine Zg ?_ GE101.out | refine Zg ?_ GE104.out) | exact HB.out)⟩
       ·replace c22 := Bool.eq_false_iff.mpr c22; subst c22; rw [if_neg (show ¬ (false = true) by decide)] at H; have H' := Aside0.mk H; clear H; have hnb23 := NB104_101.out; have hnc23 := NB101_104.out; have hcz24_0 : wc.cell? ⟨gb104, 0, none⟩ = some (.bool ((rd_T76 l0_2 x15_1).f0)) := (Zb BK104.out 0).trans rfl; have hcz24_1 : wc.cell? ⟨gb104, 1, none⟩ = some (.int .i64 ((rd_T76 l0_2 x15_1).f1)) := (Zb BK104.out 1).trans rfl; have hcz24_2 : wc.cell? ⟨gb104, 2, none⟩ = some (.slice A103_2 ((rd_T76 l0_2 x15_1).f2).length c103_2) := (Zb BK104.out 2).trans rfl; have hcz24_3 : wc.cell? ⟨gb104, 3, none⟩ = some (.slice A103_3 ((rd_T76 l0_2 x15_1).f3).length c103_3) := (Zb BK104.out 3).trans rfl; have hfz24_0 := Zc BK104.out 0; have hfz24_1 := Zc BK104.out 1; have hfz24_2 := Zc BK104.out 2; have hfz24_3 := Zc BK104.out 3; go_wp2
        go_loopg [4, 34] kj10 (fun kq v4 v34 w' => ∃ (x4_3 : Int) (x34_3 : Int), v4 = .int .i64 x4_3 ∧ v34 = .int .i64 x34_3 ∧ Aside0 (impl_PictureOf.l1 kq x4_3 l0_2 (l0_2.length : Int) x15_1 ((rd_T76 l0_2 x15_1).f2) (((rd_T76 l0_2 x15_1).f2).length : Int) x34_3 = some (r1, r2)) ∧ Aside0 (kq ≤ kj10) ∧ Aside0 (w'.heap[gb101]? = some (.cells #[(.slice A0_0 l0_0.length c0_0), (.slice A0_1 l0_1.length c0_1), (.slice (some ad103) l0_2.length c0_2), .int .i64 a0_3, .int .i64 a0_4] 35 (0, 0))) ∧ Aside0 (w'.heap[gb104]? = some (.cells #[.bool ((rd_T76 l0_2 x15_1).f0), .int .i64 ((rd_T76 l0_2 x15_1).f1), (.slice A103_2 ((rd_T76 l0_2 x15_1).f2).length c103_2), (.slice A103_3 ((rd_T76 l0_2 x15_1).f3).length c103_3)] 76 (0, 0))) ∧ Aside0 (Below w.heap.size w w'))
        case atStart => exact ⟨(wrap64 (x4_1 + ((rd_T76 l0_2 x15_1).f1))), (0), (by first | rfl | (simp; done) | (simp [*]; done)), (by first | rfl | (simp; done) | (simp [*]; done)), H', ⟨Nat.le_refl _⟩, ⟨by (with_reducible repeat (first | refine Zh ?_ _ | refine Zi ?_ | refine Zf ?_ _)); exact BK101.out⟩, ⟨by (with_reducible repeat (first | refine Zh ?_ _ | refine Zi ?_ | refine Zf ?_ _)); exact BK104.out⟩, ⟨by repeat (first | (with_reducible first | exact HB.out | apply Ze | apply Za | apply Zd | refine Zg ?_ GE101.out | refine Zg ?_ GE104.out) | exact HB.out)⟩⟩
        case round =>
         clear H'; try clear c3
         try clear c8
         try clear c8b0
         try clear c9
         try clear c9b0
         try clear c10
         try clear c10b0
         try clear c22
         try clear hcz14_0
         try clear hcz14_1
         try clear hcz14_2
         try clear hcz14_3
         try clear hcz24_0
         try clear hcz24_1
         try clear hcz24_2
         try clear hcz24_3
         try clear hcz5_0
         try clear hcz5_1
         try clear hcz5_2
         try clear hcz5_3
         try clear hcz5_4
         try clear hcz7_0
         try clear hcz7_1
         try clear hcz7_2
         try clear hcz7_3
         try clear hcz7_4
         try clear hfz14_0
         try clear hfz14_1
         try clear hfz14_2
         try clear hfz14_3
         try clear hfz24_0
         try clear hfz24_1
         try clear hfz24_2
         try clear hfz24_3
         try clear hfz5_0
         try clear hfz5_1
         try clear hfz5_2
         try clear hfz5_3
         try clear hfz5_4
         try clear hfz7_0
         try clear hfz7_1
         try clear hfz7_2
         try clear hfz7_3
         try clear hfz7_4
         try clear hx103_0
         try clear hx103_1
         try clear hx103_2
         try clear hx103_3
         try clear p103
         try clear q103
         obtain ⟨x4_3, x34_3, rfl, rfl, HA, HK3, BK101, BK104, HB⟩ := hrel; cases gk with
         | zero => exact absurd HA.out (by simp [impl_PictureOf.l1])
         | succ k3 =>
          have H := HA.out; clear HA; simp only [impl_PictureOf.l1] at H; by_cases c25 : x34_3 < (((rd_T76 l0_2 x15_1).f2).length : Int)
          ·rw [if_pos c25] at H; have c25b0 : decide (x34_3 < (((rd_T76 l0_2 x15_1).f2).length : Int)) = true := decide_eq_true c25; clear c25; by_cases c26 : 0 ≤ x34_3
           case neg => rw [if_neg c26] at H; exact absurd H (by simp)
           rw [if_pos c26] at H; have c26b0 : decide (0 ≤ x34_3) = true := decide_eq_true c26; clear c26; by_cases c27 : x34_3 < (((rd_T76 l0_2 x15_1).f2).length : Int)
           case neg => rw [if_neg c27] at H; exact absurd H (by simp)
           rw [if_pos c27] at H; have c27b0 : decide (x34_3 < (((rd_T76 l0_2 x15_1).f2).length : Int)) = true := decide_eq_true c27; clear c27; have H' := Aside0.mk H; clear H; have p106 : 0 ≤ (x34_3 : Int) := of_decide_eq_true (by assumption); have q106 : x34_3 < (((rd_T76 l0_2 x15_1).f2).length : Int) := of_decide_eq_true (by assumption); obtain ⟨ad106, e106, hx106_0⟩ := Kd.at_int HR103_2.out x34_3 p106 q106; cases e106; replace hx106_0 := (HB.out.cell (World.block_lt_of_cell? w _ hx106_0)).trans hx106_0; replace p106 := eq_true p106; replace q106 := eq_true q106; go_wp2
           go_roundg k3
           case measure => have := HK1.out; have := HJ10.out; have := HK3.out; omega
           case rel => exact ⟨(wrap64 (x4_3 + (rd ((rd_T76 l0_2 x15_1).f2) x34_3))), (wrap64 (x34_3 + 1)), (by first | rfl | (simp; done) | (simp [*]; done)), (by first | rfl | (simp; done) | (simp [*]; done)), H', ⟨by have := HK1.out; have := HJ10.out; have := HK3.out; omega⟩, ⟨by (with_reducible repeat (first | refine Zh ?_ _ | refine Zi ?_ | refine Zf ?_ _)); exact BK101.out⟩, ⟨by (with_reducible repeat (first | refine Zh ?_ _ | refine Zi ?_ | refine Zf ?_ _)); exact BK104.out⟩, ⟨by repeat (first | (with_reducible first | exact HB.out | apply Ze | apply Za | apply Zd | refine Zg ?_ GE101.out | refine Zg ?_ GE104.out) | exact HB.out)⟩⟩
          ·rw [if_neg c25] at H; have c25b0 : decide (x34_3 < (((rd_T76 l0_2 x15_1).f2).length : Int)) = false := decide_eq_false c25; clear c25; have H' := Aside0.mk H; clear H; go_wp2
           go_roundg k3
           case measure => have := HK1.out; have := HJ10.out; have := HK3.out; omega
           case rel => exact ⟨(x4_3), (wrap64 (x15_1 + 1)), (by first | rfl | (simp; done) | (simp [*]; done)), (by first | rfl | (simp; done) | (simp [*]; done)), H', ⟨by have := HK1.out; have := HJ10.out; have := HK3.out; omega⟩, ⟨by (with_reducible repeat (first | refine Zh ?_ _ | refine Zi ?_ | refine Zf ?_ _)); exact BK101.out⟩, ⟨by repeat (first | (with_reducible first | exact HB.out | apply Ze | apply Za | apply Zd | refine Zg ?_ GE101.out | refine Zg ?_ GE104.out) | exact HB.out)⟩⟩
    ·rw [if_neg c8] at H; have c8b0 : decide (x15_1 < (l0_2.length : Int)) = false := decide_eq_false c8; clear c8; simp only [Option.some.injEq, Prod.mk.injEq] at H; obtain ⟨rfl, rfl⟩ := H; go_wp2
     go_ret2
     exact ⟨by first | rfl | (simp [errW_none, errW_some] <;> rfl) | (simp [*, errW_none, errW_some] <;> rfl), by repeat (first | (with_reducible first | exact HB.out | apply Ze | apply Za | apply Zd | refine Zg ?_ GE101.out) | exact HB.out)⟩
 ·replace c3 := Bool.eq_false_iff.mpr c3; subst c3; rw [if_neg (show ¬ (false = true) by decide)] at H; simp only [Option.some.injEq, Prod.mk.injEq] at H; obtain ⟨rfl, rfl⟩ := H; go_enter Try.func42, Try.ntmps42
  go_wp2_with (first | ((with_reducible refine Zv (N := 1) rfl ?_); refine Zu ?hg (N := 1) ?hd (cs := #[.slice A0_0 l0_0.length c0_0, .slice A0_1 l0_1.length c0_1, .slice A0_2 l0_2.length c0_2, .int .i64 a0_3, .int .i64 a0_4]) (t := 35) ?hr ?_; (case hd => rfl); (case hg => rfl); (case hr => first | (go_simp; done) | (go_simp; rfl)); intro gb101 hg w28 hbox hb; have n0_ := Aside0.mk (Zo (by repeat (first | (with_reducible first | exact HB.out | apply Ze | apply Za | apply Zd) | exact HB.out)) hb); have n1_ := Aside0.mk (hbox); have n2_ := Aside0.mk ((by rw [hg]; exact (Zn (by repeat (first | (with_reducible first | exact HB.out | apply Ze | apply Za | apply Zd) | exact HB.out))) : w.heap.size ≤ gb101)); have n3_ := n2_; clear HB; have HB := n0_; have BK101 := n1_; have GW101 := n2_; have GE101 := n3_; clear n0_ n1_ n2_ n3_; clear hb hbox hg; have hcz29_0 : w28.cell? ⟨gb101, 0, none⟩ = some (.slice A0_0 l0_0.length c0_0) := (Zb BK101.out 0).trans rfl; have hcz29_1 : w28.cell? ⟨gb101, 1, none⟩ = some (.slice A0_1 l0_1.length c0_1) := (Zb BK101.out 1).trans rfl; have hcz29_2 : w28.cell? ⟨gb101, 2, none⟩ = some (.slice A0_2 l0_2.length c0_2) := (Zb BK101.out 2).trans rfl; have hcz29_3 : w28.cell? ⟨gb101, 3, none⟩ = some (.int .i64 a0_3) := (Zb BK101.out 3).trans rfl; have hcz29_4 : w28.cell? ⟨gb101, 4, none⟩ = some (.int .i64 a0_4) := (Zb BK101.out 4).trans rfl; have hfz29_0 := Zc BK101.out 0; have hfz29_1 := Zc BK101.out 1; have hfz29_2 := Zc BK101.out 2; have hfz29_3 := Zc BK101.out 3; have hfz29_4 := Zc BK101.out 4) | ((with_reducible refine Zp (f := 76) rfl ?_); refine Zw (some 10) rfl rfl Try.func76 (by kernel_rfl) rfl #[.agg #[.slice A0_0 l0_0.length c0_0, .slice A0_1 l0_1.length c0_1, .slice A0_2 l0_2.length c0_2, .int .i64 a0_3, .int .i64 a0_4]] rfl (by (try simp only [List.map_toArray, List.map_cons, List.map_nil]); first | done | rfl | (simp only [List.length_drop, List.length_take]; rfl)) ?_; (with_reducible refine (impl_isSnap.calls k _ _ l0_0 _ _ l0_1 _ _ l0_2 a0_3 a0_4 false _ ?side1 ?side2 ?side3 ?side4 ?side5 ?side6 A2.out).mono ?_); (case side1 => repeat (first | exact (Kd.C_below HR0_0.out HB.out) | (with_reducible refine Kd.C_alloc ?_ _) | (with_reducible refine Kd.C_drewN ?_ _) | (with_reducible refine Kd.C_drew ?_))); (case side2 => exact HC0_0.out); (case side3 => repeat (first | exact (Kd.C_below HR0_1.out HB.out) | (with_reducible refine Kd.C_alloc ?_ _) | (with_reducible refine Kd.C_drewN ?_ _) | (with_reducible refine Kd.C_drew ?_))); (case side4 => exact HC0_1.out); (case side5 => repeat (first | exact (Kd.C_below HR0_2.out HB.out) | (with_reducible refine Kd.C_alloc ?_ _) | (with_reducible refine Kd.C_drewN ?_ _) | (with_reducible refine Kd.C_drew ?_))); (case side6 => exact HC0_2.out); rintro e w30 ⟨rfl, hb⟩; refine ⟨_, rfl, ?_⟩; have n0_ := Aside0.mk (Zq (g := gb101) (o := .cells #[.slice A0_0 l0_0.length c0_0, .slice A0_1 l0_1.length c0_1, .slice A0_2 l0_2.length c0_2, .int .i64 a0_3, .int .i64 a0_4] 35 (0, 0)) (by (with_reducible repeat (first | refine Zh ?_ _ | refine Zi ?_ | refine Zf ?_ _)); exact BK101.out) hb); have n1_ := Aside0.mk (Zo (by repeat (first | (with_reducible first | exact HB.out | apply Ze | apply Za | apply Zd | refine Zg ?_ GE101.out) | exact HB.out)) hb); clear BK101; clear HB; have BK101 := n0_; have HB := n1_; clear n0_ n1_; (try clear hb))); go_ret2
  exact ⟨by first | rfl | (simp [errW_none, errW_some] <;> rfl) | (simp [*, errW_none, errW_some] <;> rfl), by repeat (first | (with_reducible first | exact HB.out | apply Ze | apply Za | apply Zd | refine Zg ?_ GE101.out) | exact HB.out)⟩
end Go.Proofs.Ytmkiffemanmgcaa.P
end
