-- Written by programs of this session (wip/prune.py, wip/xp.py), out of the translation and the printed words; what the law does not reach is left out. Not trusted: Lean checks it.
import Derived.Test.YtomdjipejoafgaaZXMayLeadPx0
import Derived.Test.YtomdjipejoafgaaZXMayLeadPx1
import Derived.Test.YtomdjipejoafgaaZXMayLeadPx12
import Derived.Test.YtomdjipejoafgaaZXMayLeadPx17
section
namespace Go.Proofs.Ytomdjipejoafgaa.P
open Go.RowKit Go.Proofs.YtomdjipejoafgaaW.PrintWords Go.Proofs.YtomdjipejoafgaaW.PrintLast Go.Proofs.YtomdjipejoafgaaW.PrintMore
attribute [local go_sem] max2_int min2_int max_two min_two max_three min_three max_four min_four   -- for this text's walks alone
set_option linter.unusedVariables false
set_option linter.unusedSimpArgs false
def spec_l9Server.j0 : Nat → Bool → List (S108) → List (S111) → List (S114) → Int → Int → Bool → Bool → List Int → List Int → Option (Bool)
 | 0, _, _, _, _, _, _, _, _, _, _ => none
 | k + 1, x34, x102000, x102001, x102002, x103000, x103001, x103002, x103003, x103004, x103005 => if x34 = true then (some false) else (if x103002 = true then ((spec_l6Group.f k x103004 (x102000.length : Int)).bind fun t109 => (some t109)) else (if x103003 = true then ((spec_l6Group.f k x103004 (x102000.length : Int)).bind fun t110 => (some t110)) else (some ((x103004.length : Int) == 0))))
def spec_l9Server.f (k : Nat) (l0_0 : List (S108)) (l0_1 : List (S111)) (l0_2 : List (S114)) (a1_0 : Int) (a1_1 : Int) (a1_2 : Bool) (a1_3 : Bool) (l1_4 : List Int) (l1_5 : List Int) : Option (Bool) := (spec_l1In.f a1_0 0 100).bind fun t103 => (if t103 = true then (if a1_1 = (-1) then (if a1_2 = true then (if a1_3 = true then (spec_l9Server.j0 k true l0_0 l0_1 l0_2 a1_0 a1_1 a1_2 a1_3 l1_4 l1_5) else ((spec_GoodEntries.f k l1_5).bind fun t104 => (spec_l9Server.j0 k (!t104) l0_0 l0_1 l0_2 a1_0 a1_1 a1_2 a1_3 l1_4 l1_5))) else ((spec_GoodEntries.f k l1_5).bind fun t105 => (spec_l9Server.j0 k (!t105) l0_0 l0_1 l0_2 a1_0 a1_1 a1_2 a1_3 l1_4 l1_5))) else ((spec_l9There.f l0_0 l0_1 l0_2 a1_1).bind fun t106 => (if t106 = true then (if a1_2 = true then (if a1_3 = true then (spec_l9Server.j0 k true l0_0 l0_1 l0_2 a1_0 a1_1 a1_2 a1_3 l1_4 l1_5) else ((spec_GoodEntries.f k l1_5).bind fun t107 => (spec_l9Server.j0 k (!t107) l0_0 l0_1 l0_2 a1_0 a1_1 a1_2 a1_3 l1_4 l1_5))) else ((spec_GoodEntries.f k l1_5).bind fun t108 => (spec_l9Server.j0 k (!t108) l0_0 l0_1 l0_2 a1_0 a1_1 a1_2 a1_3 l1_4 l1_5))) else (spec_l9Server.j0 k true l0_0 l0_1 l0_2 a1_0 a1_1 a1_2 a1_3 l1_4 l1_5)))) else (spec_l9Server.j0 k true l0_0 l0_1 l0_2 a1_0 a1_1 a1_2 a1_3 l1_4 l1_5))
set_option maxHeartbeats 8000000 in
set_option maxRecDepth 100000 in
theorem spec_l9Server.calls (k : Nat) (A0_0 : Option Addr) (c0_0 : Nat) (l0_0 : List (S108)) (A0_1 : Option Addr) (c0_1 : Nat) (l0_1 : List (S111)) (A0_2 : Option Addr) (c0_2 : Nat) (l0_2 : List (S114)) (a1_0 : Int) (a1_1 : Int) (a1_2 : Bool) (a1_3 : Bool) (A1_4 : Option Addr) (c1_4 : Nat) (l1_4 : List Int) (A1_5 : Option Addr) (c1_5 : Nat) (l1_5 : List Int) (r : Bool) (w : World) (hr0_0 : Kd.C k108 w A0_0 l0_0.length l0_0) (hc0_0 : l0_0.length ≤ c0_0) (hr0_1 : Kd.C k111 w A0_1 l0_1.length l0_1) (hc0_1 : l0_1.length ≤ c0_1) (hr0_2 : Kd.C k114 w A0_2 l0_2.length l0_2) (hc0_2 : l0_2.length ≤ c0_2) (hr1_4 : Kd.C (Kd.int .i64) w A1_4 l1_4.length l1_4) (hc1_4 : l1_4.length ≤ c1_4) (hr1_5 : Kd.C (Kd.int .i64) w A1_5 l1_5.length l1_5) (hc1_5 : l1_5.length ≤ c1_5) (h : spec_l9Server.f k l0_0 l0_1 l0_2 a1_0 a1_1 a1_2 a1_3 l1_4 l1_5 = some r) :
  Calls Try.prog 82 #[.agg #[.slice A0_0 l0_0.length c0_0, .slice A0_1 l0_1.length c0_1, .slice A0_2 l0_2.length c0_2], .agg #[.int .i64 a1_0, .int .i64 a1_1, .bool a1_2, .bool a1_3, .slice A1_4 l1_4.length c1_4, .slice A1_5 l1_5.length c1_5]] w fun e w' => e = .returned (.bool r) ∧ Below w.heap.size w w' := by
 have hu54 := Try.underlying54
 have hu108 := Try.underlying108
 have HR0_0 := Aside0.mk hr0_0
 have HC0_0 := Aside0.mk hc0_0
 clear hr0_0 hc0_0
 have HR0_1 := Aside0.mk hr0_1
 have HC0_1 := Aside0.mk hc0_1
 clear hr0_1 hc0_1
 have HR0_2 := Aside0.mk hr0_2
 have HC0_2 := Aside0.mk hc0_2
 clear hr0_2 hc0_2
 have HR1_4 := Aside0.mk hr1_4
 have HC1_4 := Aside0.mk hc1_4
 clear hr1_4 hc1_4
 have HR1_5 := Aside0.mk hr1_5
 have HC1_5 := Aside0.mk hc1_5
 clear hr1_5 hc1_5
 have HB := Aside0.mk (Below.refl w.heap.size w)
 have H : ((spec_l1In.f a1_0 0 100).bind fun t103 => (if t103 = true then (if a1_1 = (-1) then (if a1_2 = true then (if a1_3 = true then (spec_l9Server.j0 k true l0_0 l0_1 l0_2 a1_0 a1_1 a1_2 a1_3 l1_4 l1_5) else ((spec_GoodEntries.f k l1_5).bind fun t104 => (spec_l9Server.j0 k (!t104) l0_0 l0_1 l0_2 a1_0 a1_1 a1_2 a1_3 l1_4 l1_5))) else ((spec_GoodEntries.f k l1_5).bind fun t105 => (spec_l9Server.j0 k (!t105) l0_0 l0_1 l0_2 a1_0 a1_1 a1_2 a1_3 l1_4 l1_5))) else ((spec_l9There.f l0_0 l0_1 l0_2 a1_1).bind fun t106 => (if t106 = true then (if a1_2 = true then (if a1_3 = true then (spec_l9Server.j0 k true l0_0 l0_1 l0_2 a1_0 a1_1 a1_2 a1_3 l1_4 l1_5) else ((spec_GoodEntries.f k l1_5).bind fun t107 => (spec_l9Server.j0 k (!t107) l0_0 l0_1 l0_2 a1_0 a1_1 a1_2 a1_3 l1_4 l1_5))) else ((spec_GoodEntries.f k l1_5).bind fun t108 => (spec_l9Server.j0 k (!t108) l0_0 l0_1 l0_2 a1_0 a1_1 a1_2 a1_3 l1_4 l1_5))) else (spec_l9Server.j0 k true l0_0 l0_1 l0_2 a1_0 a1_1 a1_2 a1_3 l1_4 l1_5)))) else (spec_l9Server.j0 k true l0_0 l0_1 l0_2 a1_0 a1_1 a1_2 a1_3 l1_4 l1_5))) = some r := h
 clear h
 have HC3 := Aside0.mk H
 clear H
 go_enter Try.func82, Try.ntmps82
 go_upto_region 1 with (first | ((with_reducible refine Zt (N := 2) rfl ?_); refine Zs ?hg (N := 2) ?hd (cs := #[.slice A0_0 l0_0.length c0_0, .slice A0_1 l0_1.length c0_1, .slice A0_2 l0_2.length c0_2]) (t := 54) ?hr ?_; (case hd => rfl); (case hg => rfl); (case hr => first | (go_simp; done) | (go_simp; rfl)); intro gb101 hg w4 hbox hb; have n0_ := Aside0.mk (Zk (by repeat (first | (with_reducible first | exact HB.out | apply Ze | apply Za | apply Zd) | exact HB.out)) hb); have n1_ := Aside0.mk (hbox); have n2_ := Aside0.mk ((by rw [hg]; exact (Zj (by repeat (first | (with_reducible first | exact HB.out | apply Ze | apply Za | apply Zd) | exact HB.out))) : w.heap.size ≤ gb101)); have n3_ := n2_; clear HB; have HB := n0_; have BK101 := n1_; have GW101 := n2_; have GE101 := n3_; clear n0_ n1_ n2_ n3_; clear hb hbox hg) | ((with_reducible refine Zt (N := 3) rfl ?_); refine Zs ?hg (N := 3) ?hd (cs := #[.int .i64 a1_0, .int .i64 a1_1, .bool a1_2, .bool a1_3, .slice A1_4 l1_4.length c1_4, .slice A1_5 l1_5.length c1_5]) (t := 108) ?hr ?_; (case hd => rfl); (case hg => rfl); (case hr => first | (go_simp; done) | (go_simp; rfl)); intro gb102 hg w5 hbox hb; have n0_ := Aside0.mk (Zl (g := gb101) (o := .cells #[.slice A0_0 l0_0.length c0_0, .slice A0_1 l0_1.length c0_1, .slice A0_2 l0_2.length c0_2] 54 (0, 0)) (by (with_reducible repeat (first | refine Zg ?_ _ | refine Zi ?_ | refine Zh ?_ _)); exact BK101.out) hb); have n1_ := Aside0.mk (Zk (by repeat (first | (with_reducible first | exact HB.out | apply Ze | apply Za | apply Zd | refine Zf ?_ GE101.out) | exact HB.out)) hb); have n2_ := Aside0.mk (hbox); have n3_ := Aside0.mk ((by rw [hg]; exact (Zj (by repeat (first | (with_reducible first | exact HB.out | apply Ze | apply Za | apply Zd | refine Zf ?_ GE101.out) | exact HB.out))) : w.heap.size ≤ gb102)); have n4_ := n3_; have n5_ := Aside0.mk ((by rw [hg]; exact Nat.ne_of_lt (Zu (g := gb101) (o := .cells #[.slice A0_0 l0_0.length c0_0, .slice A0_1 l0_1.length c0_1, .slice A0_2 l0_2.length c0_2] 54 (0, 0)) (by (with_reducible repeat (first | refine Zg ?_ _ | refine Zi ?_ | refine Zh ?_ _)); exact BK101.out)) : gb101 ≠ gb102)); have n6_ := Aside0.mk n5_.out.symm; clear BK101; clear HB; have BK101 := n0_; have HB := n1_; have BK102 := n2_; have GW102 := n3_; have GE102 := n4_; have NB101_102 := n5_; have NB102_101 := n6_; clear n0_ n1_ n2_ n3_ n4_ n5_ n6_; clear hb hbox hg))
 (try simp only [Act.put, List.setIfInBounds_toArray, List.set_cons_zero, List.set_cons_succ])
 go_cut [34] (fun v34 wc => ∃ (kq : Nat) (x34_2 : Bool), v34 = .bool x34_2 ∧ Aside0 (spec_l9Server.j0 kq x34_2 l0_0 l0_1 l0_2 a1_0 a1_1 a1_2 a1_3 l1_4 l1_5 = some r) ∧ Aside0 (kq ≤ k) ∧ Aside0 (wc.heap[gb101]? = some (.cells #[(.slice A0_0 l0_0.length c0_0), (.slice A0_1 l0_1.length c0_1), (.slice A0_2 l0_2.length c0_2)] 54 (0, 0))) ∧ Aside0 (wc.heap[gb102]? = some (.cells #[.int .i64 a1_0, .int .i64 a1_1, .bool a1_2, .bool a1_3, (.slice A1_4 l1_4.length c1_4), (.slice A1_5 l1_5.length c1_5)] 108 (0, 0))) ∧ Aside0 (Below w.heap.size w wc))
 case first =>
  have H := HC3.out
  clear HC3
  replace H := Option.bind_eq_some_iff.mp H
  obtain ⟨t103, A60, H⟩ := H
  have A6 := Aside0.mk A60
  clear A60
  by_cases c7 : t103 = true
  ·subst c7
   rw [if_pos rfl] at H
   by_cases c8 : a1_1 = (-1)
   ·rw [if_pos c8] at H
    have c8b0 : (a1_1 == (-1)) = true := beq_iff_eq.mpr c8
    have c8b1 : (a1_1 != (-1)) = false := bne_eq_false_iff_eq.mpr c8
    clear c8
    (first | rw [c8b0] | (simp only [Zm, Zn]; rw [c8b0]) | skip)
    by_cases c9 : a1_2 = true
    ·subst c9
     rw [if_pos rfl] at H
     by_cases c10 : a1_3 = true
     ·subst c10
      rw [if_pos rfl] at H
      have H' := Aside0.mk H
      clear H
      have hnb11 := NB102_101.out
      have hnc11 := NB101_102.out
      have hcz12_0 : w5.cell? ⟨gb102, 0, none⟩ = some (.int .i64 a1_0) := (Zb BK102.out 0).trans rfl
      have hcz12_1 : w5.cell? ⟨gb102, 1, none⟩ = some (.int .i64 a1_1) := (Zb BK102.out 1).trans rfl
      have hcz12_2 : w5.cell? ⟨gb102, 2, none⟩ = some (.bool true) := (Zb BK102.out 2).trans rfl
      have hcz12_3 : w5.cell? ⟨gb102, 3, none⟩ = some (.bool true) := (Zb BK102.out 3).trans rfl
      have hcz12_4 : w5.cell? ⟨gb102, 4, none⟩ = some (.slice A1_4 l1_4.length c1_4) := (Zb BK102.out 4).trans rfl
      have hcz12_5 : w5.cell? ⟨gb102, 5, none⟩ = some (.slice A1_5 l1_5.length c1_5) := (Zb BK102.out 5).trans rfl
      have hfz12_0 := Zc BK102.out 0
      have hfz12_1 := Zc BK102.out 1
      have hfz12_2 := Zc BK102.out 2
      have hfz12_3 := Zc BK102.out 3
      have hfz12_4 := Zc BK102.out 4
      have hfz12_5 := Zc BK102.out 5
      go_wp2_with (first | ((with_reducible refine Zp (f := 70) rfl ?_); refine Zw (some 7) rfl rfl Try.func70 (by kernel_rfl) rfl #[.int .i64 a1_0, .int .i64 0, .int .i64 100] rfl (by (try simp only [List.map_toArray, List.map_cons, List.map_nil]); first | done | rfl | (simp only [List.length_drop, List.length_take]; rfl)) ?_; (with_reducible refine (spec_l1In.calls a1_0 0 100 true _ A6.out).mono ?_); rintro e w' ⟨rfl, ⟨nd, rfl⟩⟩; refine ⟨_, rfl, ?_⟩))
      go_meet
      case rel => exact ⟨_, (true), (by first | rfl | (simp; done) | (simp [*]; done)), H', ⟨by first | omega | exact Nat.le_refl _⟩, ⟨by (with_reducible repeat (first | refine Zg ?_ _ | refine Zi ?_ | refine Zh ?_ _)); exact BK101.out⟩, ⟨by (with_reducible repeat (first | refine Zg ?_ _ | refine Zi ?_ | refine Zh ?_ _)); exact BK102.out⟩, ⟨by repeat (first | (with_reducible first | exact HB.out | apply Ze | apply Za | apply Zd | refine Zf ?_ GE101.out | refine Zf ?_ GE102.out) | exact HB.out)⟩⟩
     ·replace c10 := Bool.eq_false_iff.mpr c10
      subst c10
      rw [if_neg (show ¬ (false = true) by decide)] at H
      replace H := Option.bind_eq_some_iff.mp H
      obtain ⟨t104, A130, H⟩ := H
      have A13 := Aside0.mk A130
      clear A130
      have H' := Aside0.mk H
      clear H
      have hnb14 := NB102_101.out
      have hnc14 := NB101_102.out
      have hcz15_0 : w5.cell? ⟨gb102, 0, none⟩ = some (.int .i64 a1_0) := (Zb BK102.out 0).trans rfl
      have hcz15_1 : w5.cell? ⟨gb102, 1, none⟩ = some (.int .i64 a1_1) := (Zb BK102.out 1).trans rfl
      have hcz15_2 : w5.cell? ⟨gb102, 2, none⟩ = some (.bool true) := (Zb BK102.out 2).trans rfl
      have hcz15_3 : w5.cell? ⟨gb102, 3, none⟩ = some (.bool false) := (Zb BK102.out 3).trans rfl
      have hcz15_4 : w5.cell? ⟨gb102, 4, none⟩ = some (.slice A1_4 l1_4.length c1_4) := (Zb BK102.out 4).trans rfl
      have hcz15_5 : w5.cell? ⟨gb102, 5, none⟩ = some (.slice A1_5 l1_5.length c1_5) := (Zb BK102.out 5).trans rfl
      have hfz15_0 := Zc BK102.out 0
      have hfz15_1 := Zc BK102.out 1
      have hfz15_2 := Zc BK102.out 2
      have hfz15_3 := Zc BK102.out 3
      have hfz15_4 := Zc BK102.out 4
      have hfz15_5 := Zc BK102.out 5
      go_wp2_with (first | ((with_reducible refine Zp (f := 70) rfl ?_); refine Zw (some 7) rfl rfl Try.func70 (by kernel_rfl) rfl #[.int .i64 a1_0, .int .i64 0, .int .i64 100] rfl (by (try simp only [List.map_toArray, List.map_cons, List.map_nil]); first | done | rfl | (simp only [List.length_drop, List.length_take]; rfl)) ?_; (with_reducible refine (spec_l1In.calls a1_0 0 100 true _ A6.out).mono ?_); rintro e w' ⟨rfl, ⟨nd, rfl⟩⟩; refine ⟨_, rfl, ?_⟩) | (go_at_call 60; (with_reducible refine (spec_GoodEntries.calls k _ _ l1_5 t104 _ ?side1 ?side2 A13.out).mono ?_); (case side1 => repeat (first | exact (Kd.C_below HR1_5.out (by repeat (first | (with_reducible first | exact HB.out | apply Ze | apply Za | apply Zd | refine Zf ?_ GE101.out | refine Zf ?_ GE102.out) | exact HB.out))) | (with_reducible refine Kd.C_alloc ?_ _) | (with_reducible refine Kd.C_drewN ?_ _) | (with_reducible refine Kd.C_drew ?_))); (case side2 => exact HC1_5.out); rintro e w' ⟨rfl, ⟨nd, rfl⟩⟩))
      go_meet
      case rel => exact ⟨_, (!t104), (by first | rfl | (simp; done) | (simp [*]; done)), H', ⟨by first | omega | exact Nat.le_refl _⟩, ⟨by (with_reducible repeat (first | refine Zg ?_ _ | refine Zi ?_ | refine Zh ?_ _)); exact BK101.out⟩, ⟨by (with_reducible repeat (first | refine Zg ?_ _ | refine Zi ?_ | refine Zh ?_ _)); exact BK102.out⟩, ⟨by repeat (first | (with_reducible first | exact HB.out | apply Ze | apply Za | apply Zd | refine Zf ?_ GE101.out | refine Zf ?_ GE102.out) | exact HB.out)⟩⟩
    ·replace c9 := Bool.eq_false_iff.mpr c9
     subst c9
     rw [if_neg (show ¬ (false = true) by decide)] at H
     replace H := Option.bind_eq_some_iff.mp H
     obtain ⟨t105, A160, H⟩ := H
     have A16 := Aside0.mk A160
     clear A160
     have H' := Aside0.mk H
     clear H
     have hnb17 := NB102_101.out
     have hnc17 := NB101_102.out
     have hcz18_0 : w5.cell? ⟨gb102, 0, none⟩ = some (.int .i64 a1_0) := (Zb BK102.out 0).trans rfl
     have hcz18_1 : w5.cell? ⟨gb102, 1, none⟩ = some (.int .i64 a1_1) := (Zb BK102.out 1).trans rfl
     have hcz18_2 : w5.cell? ⟨gb102, 2, none⟩ = some (.bool false) := (Zb BK102.out 2).trans rfl
     have hcz18_3 : w5.cell? ⟨gb102, 3, none⟩ = some (.bool a1_3) := (Zb BK102.out 3).trans rfl
     have hcz18_4 : w5.cell? ⟨gb102, 4, none⟩ = some (.slice A1_4 l1_4.length c1_4) := (Zb BK102.out 4).trans rfl
     have hcz18_5 : w5.cell? ⟨gb102, 5, none⟩ = some (.slice A1_5 l1_5.length c1_5) := (Zb BK102.out 5).trans rfl
     have hfz18_0 := Zc BK102.out 0
     have hfz18_1 := Zc BK102.out 1
     have hfz18_2 := Zc BK102.out 2
     have hfz18_3 := Zc BK102.out 3
     have hfz18_4 := Zc BK102.out 4
     have hfz18_5 := Zc BK102.out 5
     go_wp2_with (first | ((with_reducible refine Zp (f := 70) rfl ?_); refine Zw (some 7) rfl rfl Try.func70 (by kernel_rfl) rfl #[.int .i64 a1_0, .int .i64 0, .int .i64 100] rfl (by (try simp only [List.map_toArray, List.map_cons, List.map_nil]); first | done | rfl | (simp only [List.length_drop, List.length_take]; rfl)) ?_; (with_reducible refine (spec_l1In.calls a1_0 0 100 true _ A6.out).mono ?_); rintro e w' ⟨rfl, ⟨nd, rfl⟩⟩; refine ⟨_, rfl, ?_⟩) | (go_at_call 60; (with_reducible refine (spec_GoodEntries.calls k _ _ l1_5 t105 _ ?side1 ?side2 A16.out).mono ?_); (case side1 => repeat (first | exact (Kd.C_below HR1_5.out (by repeat (first | (with_reducible first | exact HB.out | apply Ze | apply Za | apply Zd | refine Zf ?_ GE101.out | refine Zf ?_ GE102.out) | exact HB.out))) | (with_reducible refine Kd.C_alloc ?_ _) | (with_reducible refine Kd.C_drewN ?_ _) | (with_reducible refine Kd.C_drew ?_))); (case side2 => exact HC1_5.out); rintro e w' ⟨rfl, ⟨nd, rfl⟩⟩))
     go_meet
     case rel => exact ⟨_, (!t105), (by first | rfl | (simp; done) | (simp [*]; done)), H', ⟨by first | omega | exact Nat.le_refl _⟩, ⟨by (with_reducible repeat (first | refine Zg ?_ _ | refine Zi ?_ | refine Zh ?_ _)); exact BK101.out⟩, ⟨by (with_reducible repeat (first | refine Zg ?_ _ | refine Zi ?_ | refine Zh ?_ _)); exact BK102.out⟩, ⟨by repeat (first | (with_reducible first | exact HB.out | apply Ze | apply Za | apply Zd | refine Zf ?_ GE101.out | refine Zf ?_ GE102.out) | exact HB.out)⟩⟩
   ·rw [if_neg c8] at H
    have c8b0 : (a1_1 == (-1)) = false := beq_eq_false_iff_ne.mpr c8
    have c8b1 : (a1_1 != (-1)) = true := bne_iff_ne.mpr c8
    (first | rw [c8b0] | (simp only [Zm, Zn]; rw [c8b0]) | skip)
    replace H := Option.bind_eq_some_iff.mp H
    obtain ⟨t106, A190, H⟩ := H
    have A19 := Aside0.mk A190
    clear A190
    by_cases c20 : t106 = true
    ·subst c20
     rw [if_pos rfl] at H
     by_cases c21 : a1_2 = true
     ·subst c21
      rw [if_pos rfl] at H
      by_cases c22 : a1_3 = true
      ·subst c22
       rw [if_pos rfl] at H
       have H' := Aside0.mk H
       clear H
       have hnb23 := NB102_101.out
       have hnc23 := NB101_102.out
       have hcz24_0 : w5.cell? ⟨gb102, 0, none⟩ = some (.int .i64 a1_0) := (Zb BK102.out 0).trans rfl
       have hcz24_1 : w5.cell? ⟨gb102, 1, none⟩ = some (.int .i64 a1_1) := (Zb BK102.out 1).trans rfl
       have hcz24_2 : w5.cell? ⟨gb102, 2, none⟩ = some (.bool true) := (Zb BK102.out 2).trans rfl
       have hcz24_3 : w5.cell? ⟨gb102, 3, none⟩ = some (.bool true) := (Zb BK102.out 3).trans rfl
       have hcz24_4 : w5.cell? ⟨gb102, 4, none⟩ = some (.slice A1_4 l1_4.length c1_4) := (Zb BK102.out 4).trans rfl
       have hcz24_5 : w5.cell? ⟨gb102, 5, none⟩ = some (.slice A1_5 l1_5.length c1_5) := (Zb BK102.out 5).trans rfl
       have hfz24_0 := Zc BK102.out 0
       have hfz24_1 := Zc BK102.out 1
       have hfz24_2 := Zc BK102.out 2
       have hfz24_3 := Zc BK102.out 3
       have hfz24_4 := Zc BK102.out 4
       have hfz24_5 := Zc BK102.out 5
       go_wp2_with (first | ((with_reducible refine Zp (f := 70) rfl ?_); refine Zw (some 7) rfl rfl Try.func70 (by kernel_rfl) rfl #[.int .i64 a1_0, .int .i64 0, .int .i64 100] rfl (by (try simp only [List.map_toArray, List.map_cons, List.map_nil]); first | done | rfl | (simp only [List.length_drop, List.length_take]; rfl)) ?_; (with_reducible refine (spec_l1In.calls a1_0 0 100 true _ A6.out).mono ?_); rintro e w' ⟨rfl, ⟨nd, rfl⟩⟩; refine ⟨_, rfl, ?_⟩; have hcz25_0 : w5.cell? ⟨gb101, 0, none⟩ = some (.slice A0_0 l0_0.length c0_0) := (Zb BK101.out 0).trans rfl; have hcz25_1 : w5.cell? ⟨gb101, 1, none⟩ = some (.slice A0_1 l0_1.length c0_1) := (Zb BK101.out 1).trans rfl; have hcz25_2 : w5.cell? ⟨gb101, 2, none⟩ = some (.slice A0_2 l0_2.length c0_2) := (Zb BK101.out 2).trans rfl; have hfz25_0 := Zc BK101.out 0; have hfz25_1 := Zc BK101.out 1; have hfz25_2 := Zc BK101.out 2) | (go_at_call 84; (with_reducible refine (spec_l9There.calls _ _ l0_0 _ _ l0_1 _ _ l0_2 a1_1 true _ ?side1 ?side2 ?side3 ?side4 ?side5 ?side6 A19.out).mono ?_); (case side1 => repeat (first | exact (Kd.C_below HR0_0.out (by repeat (first | (with_reducible first | exact HB.out | apply Ze | apply Za | apply Zd | refine Zf ?_ GE101.out | refine Zf ?_ GE102.out) | exact HB.out))) | (with_reducible refine Kd.C_alloc ?_ _) | (with_reducible refine Kd.C_drewN ?_ _) | (with_reducible refine Kd.C_drew ?_))); (case side2 => exact HC0_0.out); (case side3 => repeat (first | exact (Kd.C_below HR0_1.out (by repeat (first | (with_reducible first | exact HB.out | apply Ze | apply Za | apply Zd | refine Zf ?_ GE101.out | refine Zf ?_ GE102.out) | exact HB.out))) | (with_reducible refine Kd.C_alloc ?_ _) | (with_reducible refine Kd.C_drewN ?_ _) | (with_reducible refine Kd.C_drew ?_))); (case side4 => exact HC0_1.out); (case side5 => repeat (first | exact (Kd.C_below HR0_2.out (by repeat (first | (with_reducible first | exact HB.out | apply Ze | apply Za | apply Zd | refine Zf ?_ GE101.out | refine Zf ?_ GE102.out) | exact HB.out))) | (with_reducible refine Kd.C_alloc ?_ _) | (with_reducible refine Kd.C_drewN ?_ _) | (with_reducible refine Kd.C_drew ?_))); (case side6 => exact HC0_2.out); rintro e w26 ⟨rfl, hb⟩; have n0_ := Aside0.mk (Zl (g := gb101) (o := .cells #[.slice A0_0 l0_0.length c0_0, .slice A0_1 l0_1.length c0_1, .slice A0_2 l0_2.length c0_2] 54 (0, 0)) (by (with_reducible repeat (first | refine Zg ?_ _ | refine Zi ?_ | refine Zh ?_ _)); exact BK101.out) hb); have n1_ := Aside0.mk (Zl (g := gb102) (o := .cells #[.int .i64 a1_0, .int .i64 a1_1, .bool true, .bool true, .slice A1_4 l1_4.length c1_4, .slice A1_5 l1_5.length c1_5] 108 (0, 0)) (by (with_reducible repeat (first | refine Zg ?_ _ | refine Zi ?_ | refine Zh ?_ _)); exact BK102.out) hb); have n2_ := Aside0.mk (Zk (by repeat (first | (with_reducible first | exact HB.out | apply Ze | apply Za | apply Zd | refine Zf ?_ GE101.out | refine Zf ?_ GE102.out) | exact HB.out)) hb); clear BK101; clear BK102; clear HB; have BK101 := n0_; have BK102 := n1_; have HB := n2_; clear n0_ n1_ n2_; (try clear hb); have hcz27_0 : w26.cell? ⟨gb102, 0, none⟩ = some (.int .i64 a1_0) := (Zb BK102.out 0).trans rfl; have hcz27_1 : w26.cell? ⟨gb102, 1, none⟩ = some (.int .i64 a1_1) := (Zb BK102.out 1).trans rfl; have hcz27_2 : w26.cell? ⟨gb102, 2, none⟩ = some (.bool true) := (Zb BK102.out 2).trans rfl; have hcz27_3 : w26.cell? ⟨gb102, 3, none⟩ = some (.bool true) := (Zb BK102.out 3).trans rfl; have hcz27_4 : w26.cell? ⟨gb102, 4, none⟩ = some (.slice A1_4 l1_4.length c1_4) := (Zb BK102.out 4).trans rfl; have hcz27_5 : w26.cell? ⟨gb102, 5, none⟩ = some (.slice A1_5 l1_5.length c1_5) := (Zb BK102.out 5).trans rfl; have hfz27_0 := Zc BK102.out 0; have hfz27_1 := Zc BK102.out 1; have hfz27_2 := Zc BK102.out 2; have hfz27_3 := Zc BK102.out 3; have hfz27_4 := Zc BK102.out 4; have hfz27_5 := Zc BK102.out 5))
       go_meet
       case rel => exact ⟨_, (true), (by first | rfl | (simp; done) | (simp [*]; done)), H', ⟨by first | omega | exact Nat.le_refl _⟩, ⟨by (with_reducible repeat (first | refine Zg ?_ _ | refine Zi ?_ | refine Zh ?_ _)); exact BK101.out⟩, ⟨by (with_reducible repeat (first | refine Zg ?_ _ | refine Zi ?_ | refine Zh ?_ _)); exact BK102.out⟩, ⟨by repeat (first | (with_reducible first | exact HB.out | apply Ze | apply Za | apply Zd | refine Zf ?_ GE101.out | refine Zf ?_ GE102.out) | exact HB.out)⟩⟩
      ·replace c22 := Bool.eq_false_iff.mpr c22
       subst c22
       rw [if_neg (show ¬ (false = true) by decide)] at H
       replace H := Option.bind_eq_some_iff.mp H
       obtain ⟨t107, A280, H⟩ := H
       have A28 := Aside0.mk A280
       clear A280
       have H' := Aside0.mk H
       clear H
       have hnb29 := NB102_101.out
       have hnc29 := NB101_102.out
       have hcz30_0 : w5.cell? ⟨gb102, 0, none⟩ = some (.int .i64 a1_0) := (Zb BK102.out 0).trans rfl
       have hcz30_1 : w5.cell? ⟨gb102, 1, none⟩ = some (.int .i64 a1_1) := (Zb BK102.out 1).trans rfl
       have hcz30_2 : w5.cell? ⟨gb102, 2, none⟩ = some (.bool true) := (Zb BK102.out 2).trans rfl
       have hcz30_3 : w5.cell? ⟨gb102, 3, none⟩ = some (.bool false) := (Zb BK102.out 3).trans rfl
       have hcz30_4 : w5.cell? ⟨gb102, 4, none⟩ = some (.slice A1_4 l1_4.length c1_4) := (Zb BK102.out 4).trans rfl
       have hcz30_5 : w5.cell? ⟨gb102, 5, none⟩ = some (.slice A1_5 l1_5.length c1_5) := (Zb BK102.out 5).trans rfl
       have hfz30_0 := Zc BK102.out 0
       have hfz30_1 := Zc BK102.out 1
       have hfz30_2 := Zc BK102.out 2
       have hfz30_3 := Zc BK102.out 3
       have hfz30_4 := Zc BK102.out 4
       have hfz30_5 := Zc BK102.out 5
       go_wp2_with (first | ((with_reducible refine Zp (f := 70) rfl ?_); refine Zw (some 7) rfl rfl Try.func70 (by kernel_rfl) rfl #[.int .i64 a1_0, .int .i64 0, .int .i64 100] rfl (by (try simp only [List.map_toArray, List.map_cons, List.map_nil]); first | done | rfl | (simp only [List.length_drop, List.length_take]; rfl)) ?_; (with_reducible refine (spec_l1In.calls a1_0 0 100 true _ A6.out).mono ?_); rintro e w' ⟨rfl, ⟨nd, rfl⟩⟩; refine ⟨_, rfl, ?_⟩; have hcz31_0 : w5.cell? ⟨gb101, 0, none⟩ = some (.slice A0_0 l0_0.length c0_0) := (Zb BK101.out 0).trans rfl; have hcz31_1 : w5.cell? ⟨gb101, 1, none⟩ = some (.slice A0_1 l0_1.length c0_1) := (Zb BK101.out 1).trans rfl; have hcz31_2 : w5.cell? ⟨gb101, 2, none⟩ = some (.slice A0_2 l0_2.length c0_2) := (Zb BK101.out 2).trans rfl; have hfz31_0 := Zc BK101.out 0; have hfz31_1 := Zc BK101.out 1; have hfz31_2 := Zc BK101.out 2) | (go_at_call 84; (with_reducible refine (spec_l9There.calls _ _ l0_0 _ _ l0_1 _ _ l0_2 a1_1 true _ ?side1 ?side2 ?side3 ?side4 ?side5 ?side6 A19.out).mono ?_); (case side1 => repeat (first | exact (Kd.C_below HR0_0.out (by repeat (first | (with_reducible first | exact HB.out | apply Ze | apply Za | apply Zd | refine Zf ?_ GE101.out | refine Zf ?_ GE102.out) | exact HB.out))) | (with_reducible refine Kd.C_alloc ?_ _) | (with_reducible refine Kd.C_drewN ?_ _) | (with_reducible refine Kd.C_drew ?_))); (case side2 => exact HC0_0.out); (case side3 => repeat (first | exact (Kd.C_below HR0_1.out (by repeat (first | (with_reducible first | exact HB.out | apply Ze | apply Za | apply Zd | refine Zf ?_ GE101.out | refine Zf ?_ GE102.out) | exact HB.out))) | (with_reducible refine Kd.C_alloc ?_ _) | (with_reducible refine Kd.C_drewN ?_ _) | (with_reducible refine Kd.C_drew ?_))); (case side4 => exact HC0_1.out); (case side5 => repeat (first | exact (Kd.C_below HR0_2.out (by repeat (first | (with_reducible first | exact HB.out | apply Ze | apply Za | apply Zd | refine Zf ?_ GE101.out | refine Zf ?_ GE102.out) | exact HB.out))) | (with_reducible refine Kd.C_alloc ?_ _) | (with_reducible refine Kd.C_drewN ?_ _) | (with_reducible refine Kd.C_drew ?_))); (case side6 => exact HC0_2.out); rintro e w32 ⟨rfl, hb⟩; have n0_ := Aside0.mk (Zl (g := gb101) (o := .cells #[.slice A0_0 l0_0.length c0_0, .slice A0_1 l0_1.length c0_1, .slice A0_2 l0_2.length c0_2] 54 (0, 0)) (by (with_reducible repeat (first | refine Zg ?_ _ | refine Zi ?_ | refine Zh ?_ _)); exact BK101.out) hb); have n1_ := Aside0.mk (Zl (g := gb102) (o := .cells #[.int .i64 a1_0, .int .i64 a1_1, .bool true, .bool false, .slice A1_4 l1_4.length c1_4, .slice A1_5 l1_5.length c1_5] 108 (0, 0)) (by (with_reducible repeat (first | refine Zg ?_ _ | refine Zi ?_ | refine Zh ?_ _)); exact BK102.out) hb); have n2_ := Aside0.mk (Zk (by repeat (first | (with_reducible first | exact HB.out | apply Ze | apply Za | apply Zd | refine Zf ?_ GE101.out | refine Zf ?_ GE102.out) | exact HB.out)) hb); clear BK101; clear BK102; clear HB; have BK101 := n0_; have BK102 := n1_; have HB := n2_; clear n0_ n1_ n2_; (try clear hb); have hcz33_0 : w32.cell? ⟨gb102, 0, none⟩ = some (.int .i64 a1_0) := (Zb BK102.out 0).trans rfl; have hcz33_1 : w32.cell? ⟨gb102, 1, none⟩ = some (.int .i64 a1_1) := (Zb BK102.out 1).trans rfl; have hcz33_2 : w32.cell? ⟨gb102, 2, none⟩ = some (.bool true) := (Zb BK102.out 2).trans rfl; have hcz33_3 : w32.cell? ⟨gb102, 3, none⟩ = some (.bool false) := (Zb BK102.out 3).trans rfl; have hcz33_4 : w32.cell? ⟨gb102, 4, none⟩ = some (.slice A1_4 l1_4.length c1_4) := (Zb BK102.out 4).trans rfl; have hcz33_5 : w32.cell? ⟨gb102, 5, none⟩ = some (.slice A1_5 l1_5.length c1_5) := (Zb BK102.out 5).trans rfl; have hfz33_0 := Zc BK102.out 0; have hfz33_1 := Zc BK102.out 1; have hfz33_2 := Zc BK102.out 2; have hfz33_3 := Zc BK102.out 3; have hfz33_4 := Zc BK102.out 4; have hfz33_5 := Zc BK102.out 5) | (go_at_call 60; (with_reducible refine (spec_GoodEntries.calls k _ _ l1_5 t107 _ ?side1 ?side2 A28.out).mono ?_); (case side1 => repeat (first | exact (Kd.C_below HR1_5.out HB.out) | (with_reducible refine Kd.C_alloc ?_ _) | (with_reducible refine Kd.C_drewN ?_ _) | (with_reducible refine Kd.C_drew ?_))); (case side2 => exact HC1_5.out); rintro e w' ⟨rfl, ⟨nd, rfl⟩⟩))
       go_meet
       case rel => exact ⟨_, (!t107), (by first | rfl | (simp; done) | (simp [*]; done)), H', ⟨by first | omega | exact Nat.le_refl _⟩, ⟨by (with_reducible repeat (first | refine Zg ?_ _ | refine Zi ?_ | refine Zh ?_ _)); exact BK101.out⟩, ⟨by (with_reducible repeat (first | refine Zg ?_ _ | refine Zi ?_ | refine Zh ?_ _)); exact BK102.out⟩, ⟨by repeat (first | (with_reducible first | exact HB.out | apply Ze | apply Za | apply Zd | refine Zf ?_ GE101.out | refine Zf ?_ GE102.out) | exact HB.out)⟩⟩
     ·replace c21 := Bool.eq_false_iff.mpr c21
      subst c21
      rw [if_neg (show ¬ (false = true) by decide)] at H
      replace H := Option.bind_eq_some_iff.mp H
      obtain ⟨t108, A340, H⟩ := H
      have A34 := Aside0.mk A340
      clear A340
      have H' := Aside0.mk H
      clear H
      have hnb35 := NB102_101.out
      have hnc35 := NB101_102.out
      have hcz36_0 : w5.cell? ⟨gb102, 0, none⟩ = some (.int .i64 a1_0) := (Zb BK102.out 0).trans rfl
      have hcz36_1 : w5.cell? ⟨gb102, 1, none⟩ = some (.int .i64 a1_1) := (Zb BK102.out 1).trans rfl
      have hcz36_2 : w5.cell? ⟨gb102, 2, none⟩ = some (.bool false) := (Zb BK102.out 2).trans rfl
      have hcz36_3 : w5.cell? ⟨gb102, 3, none⟩ = some (.bool a1_3) := (Zb BK102.out 3).trans rfl
      have hcz36_4 : w5.cell? ⟨gb102, 4, none⟩ = some (.slice A1_4 l1_4.length c1_4) := (Zb BK102.out 4).trans rfl
      have hcz36_5 : w5.cell? ⟨gb102, 5, none⟩ = some (.slice A1_5 l1_5.length c1_5) := (Zb BK102.out 5).trans rfl
      have hfz36_0 := Zc BK102.out 0
      have hfz36_1 := Zc BK102.out 1
      have hfz36_2 := Zc BK102.out 2
      have hfz36_3 := Zc BK102.out 3
      have hfz36_4 := Zc BK102.out 4
      have hfz36_5 := Zc BK102.out 5
      go_wp2_with (first | ((with_reducible refine Zp (f := 70) rfl ?_); refine Zw (some 7) rfl rfl Try.func70 (by kernel_rfl) rfl #[.int .i64 a1_0, .int .i64 0, .int .i64 100] rfl (by (try simp only [List.map_toArray, List.map_cons, List.map_nil]); first | done | rfl | (simp only [List.length_drop, List.length_take]; rfl)) ?_; (with_reducible refine (spec_l1In.calls a1_0 0 100 true _ A6.out).mono ?_); rintro e w' ⟨rfl, ⟨nd, rfl⟩⟩; refine ⟨_, rfl, ?_⟩; have hcz37_0 : w5.cell? ⟨gb101, 0, none⟩ = some (.slice A0_0 l0_0.length c0_0) := (Zb BK101.out 0).trans rfl; have hcz37_1 : w5.cell? ⟨gb101, 1, none⟩ = some (.slice A0_1 l0_1.length c0_1) := (Zb BK101.out 1).trans rfl; have hcz37_2 : w5.cell? ⟨gb101, 2, none⟩ = some (.slice A0_2 l0_2.length c0_2) := (Zb BK101.out 2).trans rfl; have hfz37_0 := Zc BK101.out 0; have hfz37_1 := Zc BK101.out 1; have hfz37_2 := Zc BK101.out 2) | (go_at_call 84; (with_reducible refine (spec_l9There.calls _ _ l0_0 _ _ l0_1 _ _ l0_2 a1_1 true _ ?side1 ?side2 ?side3 ?side4 ?side5 ?side6 A19.out).mono ?_); (case side1 => repeat (first | exact (Kd.C_below HR0_0.out (by repeat (first | (with_reducible first | exact HB.out | apply Ze | apply Za | apply Zd | refine Zf ?_ GE101.out | refine Zf ?_ GE102.out) | exact HB.out))) | (with_reducible refine Kd.C_alloc ?_ _) | (with_reducible refine Kd.C_drewN ?_ _) | (with_reducible refine Kd.C_drew ?_))); (case side2 => exact HC0_0.out); (case side3 => repeat (first | exact (Kd.C_below HR0_1.out (by repeat (first | (with_reducible first | exact HB.out | apply Ze | apply Za | apply Zd | refine Zf ?_ GE101.out | refine Zf ?_ GE102.out) | exact HB.out))) | (with_reducible refine Kd.C_alloc ?_ _) | (with_reducible refine Kd.C_drewN ?_ _) | (with_reducible refine Kd.C_drew ?_))); (case side4 => exact HC0_1.out); (case side5 => repeat (first | exact (Kd.C_below HR0_2.out (by repeat (first | (with_reducible first | exact HB.out | apply Ze | apply Za | apply Zd | refine Zf ?_ GE101.out | refine Zf ?_ GE102.out) | exact HB.out))) | (with_reducible refine Kd.C_alloc ?_ _) | (with_reducible refine Kd.C_drewN ?_ _) | (with_reducible refine Kd.C_drew ?_))); (case side6 => exact HC0_2.out); rintro e w38 ⟨rfl, hb⟩; have n0_ := Aside0.mk (Zl (g := gb101) (o := .cells #[.slice A0_0 l0_0.length c0_0, .slice A0_1 l0_1.length c0_1, .slice A0_2 l0_2.length c0_2] 54 (0, 0)) (by (with_reducible repeat (first | refine Zg ?_ _ | refine Zi ?_ | refine Zh ?_ _)); exact BK101.out) hb); have n1_ := Aside0.mk (Zl (g := gb102) (o := .cells #[.int .i64 a1_0, .int .i64 a1_1, .bool false, .bool a1_3, .slice A1_4 l1_4.length c1_4, .slice A1_5 l1_5.length c1_5] 108 (0, 0)) (by (with_reducible repeat (first | refine Zg ?_ _ | refine Zi ?_ | refine Zh ?_ _)); exact BK102.out) hb); have n2_ := Aside0.mk (Zk (by repeat (first | (with_reducible first | exact HB.out | apply Ze | apply Za | apply Zd | refine Zf ?_ GE101.out | refine Zf ?_ GE102.out) | exact HB.out)) hb); clear BK101; clear BK102; clear HB; have BK101 := n0_; have BK102 := n1_; have HB := n2_; clear n0_ n1_ n2_; (try clear hb); have hcz39_0 : w38.cell? ⟨gb102, 0, none⟩ = some (.int .i64 a1_0) := (Zb BK102.out 0).trans rfl; have hcz39_1 : w38.cell? ⟨gb102, 1, none⟩ = some (.int .i64 a1_1) := (Zb BK102.out 1).trans rfl; have hcz39_2 : w38.cell? ⟨gb102, 2, none⟩ = some (.bool false) := (Zb BK102.out 2).trans rfl; have hcz39_3 : w38.cell? ⟨gb102, 3, none⟩ = some (.bool a1_3) := (Zb BK102.out 3).trans rfl; have hcz39_4 : w38.cell? ⟨gb102, 4, none⟩ = some (.slice A1_4 l1_4.length c1_4) := (Zb BK102.out 4).trans rfl; have hcz39_5 : w38.cell? ⟨gb102, 5, none⟩ = some (.slice A1_5 l1_5.length c1_5) := (Zb BK102.out 5).trans rfl; have hfz39_0 := Zc BK102.out 0; have hfz39_1 := Zc BK102.out 1; have hfz39_2 := Zc BK102.out 2; have hfz39_3 := Zc BK102.out 3; have hfz39_4 := Zc BK102.out 4; have hfz39_5 := Zc BK102.out 5) | (go_at_call 60; (with_reducible refine (spec_GoodEntries.calls k _ _ l1_5 t108 _ ?side1 ?side2 A34.out).mono ?_); (case side1 => repeat (first | exact (Kd.C_below HR1_5.out HB.out) | (with_reducible refine Kd.C_alloc ?_ _) | (with_reducible refine Kd.C_drewN ?_ _) | (with_reducible refine Kd.C_drew ?_))); (case side2 => exact HC1_5.out); rintro e w' ⟨rfl, ⟨nd, rfl⟩⟩))
      go_meet
      case rel => exact ⟨_, (!t108), (by first | rfl | (simp; done) | (simp [*]; done)), H', ⟨by first | omega | exact Nat.le_refl _⟩, ⟨by (with_reducible repeat (first | refine Zg ?_ _ | refine Zi ?_ | refine Zh ?_ _)); exact BK101.out⟩, ⟨by (with_reducible repeat (first | refine Zg ?_ _ | refine Zi ?_ | refine Zh ?_ _)); exact BK102.out⟩, ⟨by repeat (first | (with_reducible first | exact HB.out | apply Ze | apply Za | apply Zd | refine Zf ?_ GE101.out | refine Zf ?_ GE102.out) | exact HB.out)⟩⟩
    ·replace c20 := Bool.eq_false_iff.mpr c20
     subst c20
     rw [if_neg (show ¬ (false = true) by decide)] at H
     have H' := Aside0.mk H
     clear H
     have hnb40 := NB102_101.out
     have hnc40 := NB101_102.out
     have hcz41_0 : w5.cell? ⟨gb102, 0, none⟩ = some (.int .i64 a1_0) := (Zb BK102.out 0).trans rfl
     have hcz41_1 : w5.cell? ⟨gb102, 1, none⟩ = some (.int .i64 a1_1) := (Zb BK102.out 1).trans rfl
     have hcz41_2 : w5.cell? ⟨gb102, 2, none⟩ = some (.bool a1_2) := (Zb BK102.out 2).trans rfl
     have hcz41_3 : w5.cell? ⟨gb102, 3, none⟩ = some (.bool a1_3) := (Zb BK102.out 3).trans rfl
     have hcz41_4 : w5.cell? ⟨gb102, 4, none⟩ = some (.slice A1_4 l1_4.length c1_4) := (Zb BK102.out 4).trans rfl
     have hcz41_5 : w5.cell? ⟨gb102, 5, none⟩ = some (.slice A1_5 l1_5.length c1_5) := (Zb BK102.out 5).trans rfl
     have hfz41_0 := Zc BK102.out 0
     have hfz41_1 := Zc BK102.out 1
     have hfz41_2 := Zc BK102.out 2
     have hfz41_3 := Zc BK102.out 3
     have hfz41_4 := Zc BK102.out 4
     have hfz41_5 := Zc BK102.out 5
     go_wp2_with (first | ((with_reducible refine Zp (f := 70) rfl ?_); refine Zw (some 7) rfl rfl Try.func70 (by kernel_rfl) rfl #[.int .i64 a1_0, .int .i64 0, .int .i64 100] rfl (by (try simp only [List.map_toArray, List.map_cons, List.map_nil]); first | done | rfl | (simp only [List.length_drop, List.length_take]; rfl)) ?_; (with_reducible refine (spec_l1In.calls a1_0 0 100 true _ A6.out).mono ?_); rintro e w' ⟨rfl, ⟨nd, rfl⟩⟩; refine ⟨_, rfl, ?_⟩; have hcz42_0 : w5.cell? ⟨gb101, 0, none⟩ = some (.slice A0_0 l0_0.length c0_0) := (Zb BK101.out 0).trans rfl; have hcz42_1 : w5.cell? ⟨gb101, 1, none⟩ = some (.slice A0_1 l0_1.length c0_1) := (Zb BK101.out 1).trans rfl; have hcz42_2 : w5.cell? ⟨gb101, 2, none⟩ = some (.slice A0_2 l0_2.length c0_2) := (Zb BK101.out 2).trans rfl; have hfz42_0 := Zc BK101.out 0; have hfz42_1 := Zc BK101.out 1; have hfz42_2 := Zc BK101.out 2) | (go_at_call 84; (with_reducible refine (spec_l9There.calls _ _ l0_0 _ _ l0_1 _ _ l0_2 a1_1 false _ ?side1 ?side2 ?side3 ?side4 ?side5 ?side6 A19.out).mono ?_); (case side1 => repeat (first | exact (Kd.C_below HR0_0.out (by repeat (first | (with_reducible first | exact HB.out | apply Ze | apply Za | apply Zd | refine Zf ?_ GE101.out | refine Zf ?_ GE102.out) | exact HB.out))) | (with_reducible refine Kd.C_alloc ?_ _) | (with_reducible refine Kd.C_drewN ?_ _) | (with_reducible refine Kd.C_drew ?_))); (case side2 => exact HC0_0.out); (case side3 => repeat (first | exact (Kd.C_below HR0_1.out (by repeat (first | (with_reducible first | exact HB.out | apply Ze | apply Za | apply Zd | refine Zf ?_ GE101.out | refine Zf ?_ GE102.out) | exact HB.out))) | (with_reducible refine Kd.C_alloc ?_ _) | (with_reducible refine Kd.C_drewN ?_ _) | (with_reducible refine Kd.C_drew ?_))); (case side4 => exact HC0_1.out); (case side5 => repeat (first | exact (Kd.C_below HR0_2.out (by repeat (first | (with_reducible first | exact HB.out | apply Ze | apply Za | apply Zd | refine Zf ?_ GE101.out | refine Zf ?_ GE102.out) | exact HB.out))) | (with_reducible refine Kd.C_alloc ?_ _) | (with_reducible refine Kd.C_drewN ?_ _) | (with_reducible refine Kd.C_drew ?_))); (case side6 => exact HC0_2.out); rintro e w43 ⟨rfl, hb⟩; have n0_ := Aside0.mk (Zl (g := gb101) (o := .cells #[.slice A0_0 l0_0.length c0_0, .slice A0_1 l0_1.length c0_1, .slice A0_2 l0_2.length c0_2] 54 (0, 0)) (by (with_reducible repeat (first | refine Zg ?_ _ | refine Zi ?_ | refine Zh ?_ _)); exact BK101.out) hb); have n1_ := Aside0.mk (Zl (g := gb102) (o := .cells #[.int .i64 a1_0, .int .i64 a1_1, .bool a1_2, .bool a1_3, .slice A1_4 l1_4.length c1_4, .slice A1_5 l1_5.length c1_5] 108 (0, 0)) (by (with_reducible repeat (first | refine Zg ?_ _ | refine Zi ?_ | refine Zh ?_ _)); exact BK102.out) hb); have n2_ := Aside0.mk (Zk (by repeat (first | (with_reducible first | exact HB.out | apply Ze | apply Za | apply Zd | refine Zf ?_ GE101.out | refine Zf ?_ GE102.out) | exact HB.out)) hb); clear BK101; clear BK102; clear HB; have BK101 := n0_; have BK102 := n1_; have HB := n2_; clear n0_ n1_ n2_; (try clear hb)))
     go_meet
     case rel => exact ⟨_, (true), (by first | rfl | (simp; done) | (simp [*]; done)), H', ⟨by first | omega | exact Nat.le_refl _⟩, ⟨by (with_reducible repeat (first | refine Zg ?_ _ | refine Zi ?_ | refine Zh ?_ _)); exact BK101.out⟩, ⟨by (with_reducible repeat (first | refine Zg ?_ _ | refine Zi ?_ | refine Zh ?_ _)); exact BK102.out⟩, ⟨by repeat (first | (with_reducible first | exact HB.out | apply Ze | apply Za | apply Zd | refine Zf ?_ GE101.out | refine Zf ?_ GE102.out) | exact HB.out)⟩⟩
  ·replace c7 := Bool.eq_false_iff.mpr c7
   subst c7
   rw [if_neg (show ¬ (false = true) by decide)] at H
   have H' := Aside0.mk H
   clear H
   have hnb44 := NB102_101.out
   have hnc44 := NB101_102.out
   have hcz45_0 : w5.cell? ⟨gb102, 0, none⟩ = some (.int .i64 a1_0) := (Zb BK102.out 0).trans rfl
   have hcz45_1 : w5.cell? ⟨gb102, 1, none⟩ = some (.int .i64 a1_1) := (Zb BK102.out 1).trans rfl
   have hcz45_2 : w5.cell? ⟨gb102, 2, none⟩ = some (.bool a1_2) := (Zb BK102.out 2).trans rfl
   have hcz45_3 : w5.cell? ⟨gb102, 3, none⟩ = some (.bool a1_3) := (Zb BK102.out 3).trans rfl
   have hcz45_4 : w5.cell? ⟨gb102, 4, none⟩ = some (.slice A1_4 l1_4.length c1_4) := (Zb BK102.out 4).trans rfl
   have hcz45_5 : w5.cell? ⟨gb102, 5, none⟩ = some (.slice A1_5 l1_5.length c1_5) := (Zb BK102.out 5).trans rfl
   have hfz45_0 := Zc BK102.out 0
   have hfz45_1 := Zc BK102.out 1
   have hfz45_2 := Zc BK102.out 2
   have hfz45_3 := Zc BK102.out 3
   have hfz45_4 := Zc BK102.out 4
   have hfz45_5 := Zc BK102.out 5
   go_wp2_with (first | ((with_reducible refine Zp (f := 70) rfl ?_); refine Zw (some 7) rfl rfl Try.func70 (by kernel_rfl) rfl #[.int .i64 a1_0, .int .i64 0, .int .i64 100] rfl (by (try simp only [List.map_toArray, List.map_cons, List.map_nil]); first | done | rfl | (simp only [List.length_drop, List.length_take]; rfl)) ?_; (with_reducible refine (spec_l1In.calls a1_0 0 100 false _ A6.out).mono ?_); rintro e w' ⟨rfl, ⟨nd, rfl⟩⟩; refine ⟨_, rfl, ?_⟩))
   go_meet
   case rel => exact ⟨_, (true), (by first | rfl | (simp; done) | (simp [*]; done)), H', ⟨by first | omega | exact Nat.le_refl _⟩, ⟨by (with_reducible repeat (first | refine Zg ?_ _ | refine Zi ?_ | refine Zh ?_ _)); exact BK101.out⟩, ⟨by (with_reducible repeat (first | refine Zg ?_ _ | refine Zi ?_ | refine Zh ?_ _)); exact BK102.out⟩, ⟨by repeat (first | (with_reducible first | exact HB.out | apply Ze | apply Za | apply Zd | refine Zf ?_ GE101.out | refine Zf ?_ GE102.out) | exact HB.out)⟩⟩
 case rest =>
  clear HC3
  obtain ⟨kq, x34_2, rfl, HA, HJ2, BK101, BK102, HB⟩ := hcut
  cases kq with
  | zero => exact absurd HA.out (by simp [spec_l9Server.j0])
  | succ kj2 =>
   have H := HA.out
   clear HA
   simp only [spec_l9Server.j0] at H
   by_cases c46 : x34_2 = true
   ·subst c46
    rw [if_pos rfl] at H
    obtain rfl := Option.some.inj H
    go_wp2
    go_ret
    exact ⟨by first | rfl | (simp [errW_none, errW_some] <;> rfl) | (simp [*, errW_none, errW_some] <;> rfl), by repeat (first | (with_reducible first | exact HB.out | apply Ze | apply Za | apply Zd | refine Zf ?_ GE101.out | refine Zf ?_ GE102.out) | exact HB.out)⟩
   ·replace c46 := Bool.eq_false_iff.mpr c46
    subst c46
    rw [if_neg (show ¬ (false = true) by decide)] at H
    by_cases c47 : a1_2 = true
    ·subst c47
     rw [if_pos rfl] at H
     replace H := Option.bind_eq_some_iff.mp H
     obtain ⟨t109, A480, H⟩ := H
     have A48 := Aside0.mk A480
     clear A480
     obtain rfl := Option.some.inj H
     have hnb49 := NB102_101.out
     have hnc49 := NB101_102.out
     have hcz50_0 : wc.cell? ⟨gb102, 0, none⟩ = some (.int .i64 a1_0) := (Zb BK102.out 0).trans rfl
     have hcz50_1 : wc.cell? ⟨gb102, 1, none⟩ = some (.int .i64 a1_1) := (Zb BK102.out 1).trans rfl
     have hcz50_2 : wc.cell? ⟨gb102, 2, none⟩ = some (.bool true) := (Zb BK102.out 2).trans rfl
     have hcz50_3 : wc.cell? ⟨gb102, 3, none⟩ = some (.bool a1_3) := (Zb BK102.out 3).trans rfl
     have hcz50_4 : wc.cell? ⟨gb102, 4, none⟩ = some (.slice A1_4 l1_4.length c1_4) := (Zb BK102.out 4).trans rfl
     have hcz50_5 : wc.cell? ⟨gb102, 5, none⟩ = some (.slice A1_5 l1_5.length c1_5) := (Zb BK102.out 5).trans rfl
     have hfz50_0 := Zc BK102.out 0
     have hfz50_1 := Zc BK102.out 1
     have hfz50_2 := Zc BK102.out 2
     have hfz50_3 := Zc BK102.out 3
     have hfz50_4 := Zc BK102.out 4
     have hfz50_5 := Zc BK102.out 5
     have hcz51_0 : wc.cell? ⟨gb101, 0, none⟩ = some (.slice A0_0 l0_0.length c0_0) := (Zb BK101.out 0).trans rfl
     have hcz51_1 : wc.cell? ⟨gb101, 1, none⟩ = some (.slice A0_1 l0_1.length c0_1) := (Zb BK101.out 1).trans rfl
     have hcz51_2 : wc.cell? ⟨gb101, 2, none⟩ = some (.slice A0_2 l0_2.length c0_2) := (Zb BK101.out 2).trans rfl
     have hfz51_0 := Zc BK101.out 0
     have hfz51_1 := Zc BK101.out 1
     have hfz51_2 := Zc BK101.out 2
     go_wp2_with (first | ((with_reducible refine Zp (f := 113) rfl ?_); refine Zw (some 52) rfl rfl Try.func113 (by kernel_rfl) rfl #[.slice A1_4 l1_4.length c1_4, .int .i64 (l0_0.length : Int)] rfl (by (try simp only [List.map_toArray, List.map_cons, List.map_nil]); first | done | rfl | (simp only [List.length_drop, List.length_take]; rfl)) ?_; (with_reducible refine (spec_l6Group.calls kj2 _ _ l1_4 (l0_0.length : Int) t109 _ ?side1 ?side2 A48.out).mono ?_); (case side1 => repeat (first | exact (Kd.C_below HR1_4.out HB.out) | (with_reducible refine Kd.C_alloc ?_ _) | (with_reducible refine Kd.C_drewN ?_ _) | (with_reducible refine Kd.C_drew ?_))); (case side2 => exact HC1_4.out); rintro e w' ⟨rfl, ⟨nd, rfl⟩⟩; refine ⟨_, rfl, ?_⟩))
     go_ret
     exact ⟨by first | rfl | (simp [errW_none, errW_some] <;> rfl) | (simp [*, errW_none, errW_some] <;> rfl), by repeat (first | (with_reducible first | exact HB.out | apply Ze | apply Za | apply Zd | refine Zf ?_ GE101.out | refine Zf ?_ GE102.out) | exact HB.out)⟩
    ·replace c47 := Bool.eq_false_iff.mpr c47
     subst c47
     rw [if_neg (show ¬ (false = true) by decide)] at H
     by_cases c52 : a1_3 = true
     ·subst c52
      rw [if_pos rfl] at H
      replace H := Option.bind_eq_some_iff.mp H
      obtain ⟨t110, A530, H⟩ := H
      have A53 := Aside0.mk A530
      clear A530
      obtain rfl := Option.some.inj H
      have hnb54 := NB102_101.out
      have hnc54 := NB101_102.out
      have hcz55_0 : wc.cell? ⟨gb102, 0, none⟩ = some (.int .i64 a1_0) := (Zb BK102.out 0).trans rfl
      have hcz55_1 : wc.cell? ⟨gb102, 1, none⟩ = some (.int .i64 a1_1) := (Zb BK102.out 1).trans rfl
      have hcz55_2 : wc.cell? ⟨gb102, 2, none⟩ = some (.bool false) := (Zb BK102.out 2).trans rfl
      have hcz55_3 : wc.cell? ⟨gb102, 3, none⟩ = some (.bool true) := (Zb BK102.out 3).trans rfl
      have hcz55_4 : wc.cell? ⟨gb102, 4, none⟩ = some (.slice A1_4 l1_4.length c1_4) := (Zb BK102.out 4).trans rfl
      have hcz55_5 : wc.cell? ⟨gb102, 5, none⟩ = some (.slice A1_5 l1_5.length c1_5) := (Zb BK102.out 5).trans rfl
      have hfz55_0 := Zc BK102.out 0
      have hfz55_1 := Zc BK102.out 1
      have hfz55_2 := Zc BK102.out 2
      have hfz55_3 := Zc BK102.out 3
      have hfz55_4 := Zc BK102.out 4
      have hfz55_5 := Zc BK102.out 5
      have hcz56_0 : wc.cell? ⟨gb101, 0, none⟩ = some (.slice A0_0 l0_0.length c0_0) := (Zb BK101.out 0).trans rfl
      have hcz56_1 : wc.cell? ⟨gb101, 1, none⟩ = some (.slice A0_1 l0_1.length c0_1) := (Zb BK101.out 1).trans rfl
      have hcz56_2 : wc.cell? ⟨gb101, 2, none⟩ = some (.slice A0_2 l0_2.length c0_2) := (Zb BK101.out 2).trans rfl
      have hfz56_0 := Zc BK101.out 0
      have hfz56_1 := Zc BK101.out 1
      have hfz56_2 := Zc BK101.out 2
      go_wp2_with (first | ((with_reducible refine Zp (f := 113) rfl ?_); refine Zw (some 52) rfl rfl Try.func113 (by kernel_rfl) rfl #[.slice A1_4 l1_4.length c1_4, .int .i64 (l0_0.length : Int)] rfl (by (try simp only [List.map_toArray, List.map_cons, List.map_nil]); first | done | rfl | (simp only [List.length_drop, List.length_take]; rfl)) ?_; (with_reducible refine (spec_l6Group.calls kj2 _ _ l1_4 (l0_0.length : Int) t110 _ ?side1 ?side2 A53.out).mono ?_); (case side1 => repeat (first | exact (Kd.C_below HR1_4.out HB.out) | (with_reducible refine Kd.C_alloc ?_ _) | (with_reducible refine Kd.C_drewN ?_ _) | (with_reducible refine Kd.C_drew ?_))); (case side2 => exact HC1_4.out); rintro e w' ⟨rfl, ⟨nd, rfl⟩⟩; refine ⟨_, rfl, ?_⟩))
      go_ret
      exact ⟨by first | rfl | (simp [errW_none, errW_some] <;> rfl) | (simp [*, errW_none, errW_some] <;> rfl), by repeat (first | (with_reducible first | exact HB.out | apply Ze | apply Za | apply Zd | refine Zf ?_ GE101.out | refine Zf ?_ GE102.out) | exact HB.out)⟩
     ·replace c52 := Bool.eq_false_iff.mpr c52
      subst c52
      rw [if_neg (show ¬ (false = true) by decide)] at H
      obtain rfl := Option.some.inj H
      have hnb57 := NB102_101.out
      have hnc57 := NB101_102.out
      have hcz58_0 : wc.cell? ⟨gb102, 0, none⟩ = some (.int .i64 a1_0) := (Zb BK102.out 0).trans rfl
      have hcz58_1 : wc.cell? ⟨gb102, 1, none⟩ = some (.int .i64 a1_1) := (Zb BK102.out 1).trans rfl
      have hcz58_2 : wc.cell? ⟨gb102, 2, none⟩ = some (.bool false) := (Zb BK102.out 2).trans rfl
      have hcz58_3 : wc.cell? ⟨gb102, 3, none⟩ = some (.bool false) := (Zb BK102.out 3).trans rfl
      have hcz58_4 : wc.cell? ⟨gb102, 4, none⟩ = some (.slice A1_4 l1_4.length c1_4) := (Zb BK102.out 4).trans rfl
      have hcz58_5 : wc.cell? ⟨gb102, 5, none⟩ = some (.slice A1_5 l1_5.length c1_5) := (Zb BK102.out 5).trans rfl
      have hfz58_0 := Zc BK102.out 0
      have hfz58_1 := Zc BK102.out 1
      have hfz58_2 := Zc BK102.out 2
      have hfz58_3 := Zc BK102.out 3
      have hfz58_4 := Zc BK102.out 4
      have hfz58_5 := Zc BK102.out 5
      go_wp2
      go_ret
      exact ⟨by first | rfl | (simp [errW_none, errW_some] <;> rfl) | (simp [*, errW_none, errW_some] <;> rfl), by repeat (first | (with_reducible first | exact HB.out | apply Ze | apply Za | apply Zd | refine Zf ?_ GE101.out | refine Zf ?_ GE102.out) | exact HB.out)⟩
end Go.Proofs.Ytomdjipejoafgaa.P
end
