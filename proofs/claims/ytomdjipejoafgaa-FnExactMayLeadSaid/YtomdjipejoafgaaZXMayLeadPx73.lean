-- Written by programs of this session (wip/prune.py, wip/xp.py), out of the translation and the printed words; what the law does not reach is left out. Not trusted: Lean checks it.
import Derived.Test.YtomdjipejoafgaaZXMayLeadPx0
import Derived.Test.YtomdjipejoafgaaZXMayLeadPx12
import Derived.Test.YtomdjipejoafgaaZXMayLeadPx17
import Derived.Test.YtomdjipejoafgaaZXMayLeadPx20
section
namespace Go.Proofs.Ytomdjipejoafgaa.P
open Go.RowKit Go.Proofs.YtomdjipejoafgaaW.PrintWords Go.Proofs.YtomdjipejoafgaaW.PrintLast Go.Proofs.YtomdjipejoafgaaW.PrintMore
attribute [local go_sem] max2_int min2_int max_two min_two max_three min_three max_four min_four   -- for this text's walks alone
set_option linter.unusedVariables false
set_option linter.unusedSimpArgs false
mutual
def spec_MayLead.j0 : Nat → Int → Bool → List (S108) → List (S111) → List (S114) → Option (Bool × Bool)
 | 0, _, _, _, _, _ => none
 | k + 1, x1, x17, x102000, x102001, x102002 => if x17 = true then (some (false, false)) else (spec_MayLead.l0 k x1 0 x102000 (x102000.length : Int) 0 x102000 x102001 x102002)
def spec_MayLead.l0 : Nat → Int → Int → List (S108) → Int → Int → List (S108) → List (S111) → List (S114) → Option (Bool × Bool)
 | 0, _, _, _, _, _, _, _, _ => none
 | k + 1, x1, x6, x19, x20, x21, x102000, x102001, x102002 => if x21 < x20 then (if 0 ≤ x21 then (if x21 < (x19.length : Int) then (if 0 ≤ x1 then (if x1 < (x102000.length : Int) then ((spec_l9Last.f ((rd_T108 x102000 x1).f5)).bind fun t107 => ((spec_l9Up.f t107 (((rd_T108 x102000 x1).f5).length : Int) ((rd_T108 x19 x21).f5)).bind fun t109 => (if t109 = true then (spec_MayLead.l0 k x1 (wrap64 (x6 + 1)) x19 x20 (wrap64 (x21 + 1)) x102000 x102001 x102002) else (spec_MayLead.l0 k x1 x6 x19 x20 (wrap64 (x21 + 1)) x102000 x102001 x102002)))) else (none)) else (none)) else (none)) else (none)) else (some (decide ((wrap64 (2 * x6)) > (x102000.length : Int)), true))
end
def spec_MayLead.f (k : Nat) (l0_0 : List (S108)) (l0_1 : List (S111)) (l0_2 : List (S114)) (a1 : Int) : Option (Bool × Bool) := (spec_GoodElection.f k l0_0 l0_1 l0_2).bind fun t102 => (if t102 = true then ((spec_l9There.f l0_0 l0_1 l0_2 a1).bind fun t103 => (spec_MayLead.j0 k a1 (!t103) l0_0 l0_1 l0_2)) else (spec_MayLead.j0 k a1 true l0_0 l0_1 l0_2))
def spec_MayLead.T7 : Bool × List (List Nat × List Nat) := (true, [([], []), ([0], [0]), ([], []), ([1, 2], [1, 2]), ([3], [3]), ([4], [4]), ([5], [5]), ([], []), ([7], [7]), ([], []), ([8, 9], [8, 9]), ([10], [10]), ([11], [11]), ([12], [12]), ([], []), ([14], [14]), ([6, 13, 15, 6], [6, 13, 15])])
def spec_MayLead.B7 : List Nat := [0, 1, 0, 7, 15, 31, 63, 0, 128, 0, 896, 1920, 3968, 8064, 0, 16384, 65535]
theorem spec_MayLead.tab7 : rtab .any (opsOf Try.f50 7) = spec_MayLead.T7 := by kernel_rfl
theorem spec_MayLead.bits7 : waitsOk spec_MayLead.T7.2 spec_MayLead.B7 = true := by kernel_rfl
set_option maxHeartbeats 8000000 in
set_option maxRecDepth 100000 in
theorem spec_MayLead.calls (k : Nat) (A0_0 : Option Addr) (c0_0 : Nat) (l0_0 : List (S108)) (A0_1 : Option Addr) (c0_1 : Nat) (l0_1 : List (S111)) (A0_2 : Option Addr) (c0_2 : Nat) (l0_2 : List (S114)) (a1 : Int) (r1 : Bool) (r2 : Bool) (w : World) (hr0_0 : Kd.C k108 w A0_0 l0_0.length l0_0) (hc0_0 : l0_0.length ≤ c0_0) (hr0_1 : Kd.C k111 w A0_1 l0_1.length l0_1) (hc0_1 : l0_1.length ≤ c0_1) (hr0_2 : Kd.C k114 w A0_2 l0_2.length l0_2) (hc0_2 : l0_2.length ≤ c0_2) (h : spec_MayLead.f k l0_0 l0_1 l0_2 a1 = some (r1, r2)) :
  Calls Try.prog 50 #[.agg #[.slice A0_0 l0_0.length c0_0, .slice A0_1 l0_1.length c0_1, .slice A0_2 l0_2.length c0_2], .int .i64 a1] w fun e w' => e = .returned (.tuple #[.bool r1, .bool r2]) ∧ Below w.heap.size w w' := by
 have hu54 := Try.underlying54
 have hu108 := Try.underlying108
 have HR0_0 := Aside0.mk hr0_0
 have HC0_0 := Aside0.mk hc0_0
 clear hr0_0 hc0_0
 have HR0_1 := Aside0.mk hr0_1
 have HC0_1 := Aside0.mk hc0_1
 clear hr0_1 hc0_1
 have HR0_2 := Aside0.mk hr0_2
 have HC0_2 := Aside0.mk hc0_2
 clear hr0_2 hc0_2
 have HB := Aside0.mk (Below.refl w.heap.size w)
 have H : ((spec_GoodElection.f k l0_0 l0_1 l0_2).bind fun t102 => (if t102 = true then ((spec_l9There.f l0_0 l0_1 l0_2 a1).bind fun t103 => (spec_MayLead.j0 k a1 (!t103) l0_0 l0_1 l0_2)) else (spec_MayLead.j0 k a1 true l0_0 l0_1 l0_2))) = some (r1, r2) := h
 clear h
 have HC3 := Aside0.mk H
 clear H
 go_enter Try.func50, Try.ntmps50
 go_upto_region 1 with (first | ((with_reducible refine Zt (N := 2) rfl ?_); refine Zs ?hg (N := 2) ?hd (cs := #[.slice A0_0 l0_0.length c0_0, .slice A0_1 l0_1.length c0_1, .slice A0_2 l0_2.length c0_2]) (t := 54) ?hr ?_; (case hd => rfl); (case hg => rfl); (case hr => first | (go_simp; done) | (go_simp; rfl)); intro gb101 hg w4 hbox hb; have n0_ := Aside0.mk (Zk (by repeat (first | (with_reducible first | exact HB.out | apply Ze | apply Za | apply Zd) | exact HB.out)) hb); have n1_ := Aside0.mk (hbox); have n2_ := Aside0.mk ((by rw [hg]; exact (Zj (by repeat (first | (with_reducible first | exact HB.out | apply Ze | apply Za | apply Zd) | exact HB.out))) : w.heap.size ≤ gb101)); have n3_ := n2_; clear HB; have HB := n0_; have BK101 := n1_; have GW101 := n2_; have GE101 := n3_; clear n0_ n1_ n2_ n3_; clear hb hbox hg))
 (try simp only [Act.put, List.setIfInBounds_toArray, List.set_cons_zero, List.set_cons_succ])
 go_cut [17] (fun v17 wc => ∃ (kq : Nat) (x17_2 : Bool), v17 = .bool x17_2 ∧ Aside0 (spec_MayLead.j0 kq a1 x17_2 l0_0 l0_1 l0_2 = some (r1, r2)) ∧ Aside0 (kq ≤ k) ∧ Aside0 (wc.heap[gb101]? = some (.cells #[(.slice A0_0 l0_0.length c0_0), (.slice A0_1 l0_1.length c0_1), (.slice A0_2 l0_2.length c0_2)] 54 (0, 0))) ∧ Aside0 (Below w.heap.size w wc))
 case first =>
  have H := HC3.out
  clear HC3
  replace H := Option.bind_eq_some_iff.mp H
  obtain ⟨t102, A50, H⟩ := H
  have A5 := Aside0.mk A50
  clear A50
  by_cases c6 : t102 = true
  ·subst c6
   rw [if_pos rfl] at H
   replace H := Option.bind_eq_some_iff.mp H
   obtain ⟨t103, A70, H⟩ := H
   have A7 := Aside0.mk A70
   clear A70
   have H' := Aside0.mk H
   clear H
   have hcz8_0 : w4.cell? ⟨gb101, 0, none⟩ = some (.slice A0_0 l0_0.length c0_0) := (Zb BK101.out 0).trans rfl
   have hcz8_1 : w4.cell? ⟨gb101, 1, none⟩ = some (.slice A0_1 l0_1.length c0_1) := (Zb BK101.out 1).trans rfl
   have hcz8_2 : w4.cell? ⟨gb101, 2, none⟩ = some (.slice A0_2 l0_2.length c0_2) := (Zb BK101.out 2).trans rfl
   have hfz8_0 := Zc BK101.out 0
   have hfz8_1 := Zc BK101.out 1
   have hfz8_2 := Zc BK101.out 2
   go_wp2_with (first | ((with_reducible refine Zp (f := 29) rfl ?_); refine Zw (some 10) rfl rfl Try.func29 (by kernel_rfl) rfl #[.agg #[.slice A0_0 l0_0.length c0_0, .slice A0_1 l0_1.length c0_1, .slice A0_2 l0_2.length c0_2]] rfl (by (try simp only [List.map_toArray, List.map_cons, List.map_nil]); first | done | rfl | (simp only [List.length_drop, List.length_take]; rfl)) ?_; (with_reducible refine (spec_GoodElection.calls k _ _ l0_0 _ _ l0_1 _ _ l0_2 true _ ?side1 ?side2 ?side3 ?side4 ?side5 ?side6 A5.out).mono ?_); (case side1 => repeat (first | exact (Kd.C_below HR0_0.out HB.out) | (with_reducible refine Kd.C_alloc ?_ _) | (with_reducible refine Kd.C_drewN ?_ _) | (with_reducible refine Kd.C_drew ?_))); (case side2 => exact HC0_0.out); (case side3 => repeat (first | exact (Kd.C_below HR0_1.out HB.out) | (with_reducible refine Kd.C_alloc ?_ _) | (with_reducible refine Kd.C_drewN ?_ _) | (with_reducible refine Kd.C_drew ?_))); (case side4 => exact HC0_1.out); (case side5 => repeat (first | exact (Kd.C_below HR0_2.out HB.out) | (with_reducible refine Kd.C_alloc ?_ _) | (with_reducible refine Kd.C_drewN ?_ _) | (with_reducible refine Kd.C_drew ?_))); (case side6 => exact HC0_2.out); rintro e w9 ⟨rfl, hb⟩; refine ⟨_, rfl, ?_⟩; have n0_ := Aside0.mk (Zl (g := gb101) (o := .cells #[.slice A0_0 l0_0.length c0_0, .slice A0_1 l0_1.length c0_1, .slice A0_2 l0_2.length c0_2] 54 (0, 0)) (by (with_reducible repeat (first | refine Zg ?_ _ | refine Zi ?_ | refine Zh ?_ _)); exact BK101.out) hb); have n1_ := Aside0.mk (Zk (by repeat (first | (with_reducible first | exact HB.out | apply Ze | apply Za | apply Zd | refine Zf ?_ GE101.out) | exact HB.out)) hb); clear BK101; clear HB; have BK101 := n0_; have HB := n1_; clear n0_ n1_; (try clear hb); have hcz10_0 : w9.cell? ⟨gb101, 0, none⟩ = some (.slice A0_0 l0_0.length c0_0) := (Zb BK101.out 0).trans rfl; have hcz10_1 : w9.cell? ⟨gb101, 1, none⟩ = some (.slice A0_1 l0_1.length c0_1) := (Zb BK101.out 1).trans rfl; have hcz10_2 : w9.cell? ⟨gb101, 2, none⟩ = some (.slice A0_2 l0_2.length c0_2) := (Zb BK101.out 2).trans rfl; have hfz10_0 := Zc BK101.out 0; have hfz10_1 := Zc BK101.out 1; have hfz10_2 := Zc BK101.out 2) | (go_at_call 84; (with_reducible refine (spec_l9There.calls _ _ l0_0 _ _ l0_1 _ _ l0_2 a1 t103 _ ?side1 ?side2 ?side3 ?side4 ?side5 ?side6 A7.out).mono ?_); (case side1 => repeat (first | exact (Kd.C_below HR0_0.out HB.out) | (with_reducible refine Kd.C_alloc ?_ _) | (with_reducible refine Kd.C_drewN ?_ _) | (with_reducible refine Kd.C_drew ?_))); (case side2 => exact HC0_0.out); (case side3 => repeat (first | exact (Kd.C_below HR0_1.out HB.out) | (with_reducible refine Kd.C_alloc ?_ _) | (with_reducible refine Kd.C_drewN ?_ _) | (with_reducible refine Kd.C_drew ?_))); (case side4 => exact HC0_1.out); (case side5 => repeat (first | exact (Kd.C_below HR0_2.out HB.out) | (with_reducible refine Kd.C_alloc ?_ _) | (with_reducible refine Kd.C_drewN ?_ _) | (with_reducible refine Kd.C_drew ?_))); (case side6 => exact HC0_2.out); rintro e w11 ⟨rfl, hb⟩; have n0_ := Aside0.mk (Zl (g := gb101) (o := .cells #[.slice A0_0 l0_0.length c0_0, .slice A0_1 l0_1.length c0_1, .slice A0_2 l0_2.length c0_2] 54 (0, 0)) (by (with_reducible repeat (first | refine Zg ?_ _ | refine Zi ?_ | refine Zh ?_ _)); exact BK101.out) hb); have n1_ := Aside0.mk (Zk (by repeat (first | (with_reducible first | exact HB.out | apply Ze | apply Za | apply Zd | refine Zf ?_ GE101.out) | exact HB.out)) hb); clear BK101; clear HB; have BK101 := n0_; have HB := n1_; clear n0_ n1_; (try clear hb)))
   go_meet
   case rel => exact ⟨_, (!t103), (by first | rfl | (simp; done) | (simp [*]; done)), H', ⟨by first | omega | exact Nat.le_refl _⟩, ⟨by (with_reducible repeat (first | refine Zg ?_ _ | refine Zi ?_ | refine Zh ?_ _)); exact BK101.out⟩, ⟨by repeat (first | (with_reducible first | exact HB.out | apply Ze | apply Za | apply Zd | refine Zf ?_ GE101.out) | exact HB.out)⟩⟩
  ·replace c6 := Bool.eq_false_iff.mpr c6
   subst c6
   rw [if_neg (show ¬ (false = true) by decide)] at H
   have H' := Aside0.mk H
   clear H
   have hcz12_0 : w4.cell? ⟨gb101, 0, none⟩ = some (.slice A0_0 l0_0.length c0_0) := (Zb BK101.out 0).trans rfl
   have hcz12_1 : w4.cell? ⟨gb101, 1, none⟩ = some (.slice A0_1 l0_1.length c0_1) := (Zb BK101.out 1).trans rfl
   have hcz12_2 : w4.cell? ⟨gb101, 2, none⟩ = some (.slice A0_2 l0_2.length c0_2) := (Zb BK101.out 2).trans rfl
   have hfz12_0 := Zc BK101.out 0
   have hfz12_1 := Zc BK101.out 1
   have hfz12_2 := Zc BK101.out 2
   go_wp2_with (first | ((with_reducible refine Zp (f := 29) rfl ?_); refine Zw (some 10) rfl rfl Try.func29 (by kernel_rfl) rfl #[.agg #[.slice A0_0 l0_0.length c0_0, .slice A0_1 l0_1.length c0_1, .slice A0_2 l0_2.length c0_2]] rfl (by (try simp only [List.map_toArray, List.map_cons, List.map_nil]); first | done | rfl | (simp only [List.length_drop, List.length_take]; rfl)) ?_; (with_reducible refine (spec_GoodElection.calls k _ _ l0_0 _ _ l0_1 _ _ l0_2 false _ ?side1 ?side2 ?side3 ?side4 ?side5 ?side6 A5.out).mono ?_); (case side1 => repeat (first | exact (Kd.C_below HR0_0.out HB.out) | (with_reducible refine Kd.C_alloc ?_ _) | (with_reducible refine Kd.C_drewN ?_ _) | (with_reducible refine Kd.C_drew ?_))); (case side2 => exact HC0_0.out); (case side3 => repeat (first | exact (Kd.C_below HR0_1.out HB.out) | (with_reducible refine Kd.C_alloc ?_ _) | (with_reducible refine Kd.C_drewN ?_ _) | (with_reducible refine Kd.C_drew ?_))); (case side4 => exact HC0_1.out); (case side5 => repeat (first | exact (Kd.C_below HR0_2.out HB.out) | (with_reducible refine Kd.C_alloc ?_ _) | (with_reducible refine Kd.C_drewN ?_ _) | (with_reducible refine Kd.C_drew ?_))); (case side6 => exact HC0_2.out); rintro e w13 ⟨rfl, hb⟩; refine ⟨_, rfl, ?_⟩; have n0_ := Aside0.mk (Zl (g := gb101) (o := .cells #[.slice A0_0 l0_0.length c0_0, .slice A0_1 l0_1.length c0_1, .slice A0_2 l0_2.length c0_2] 54 (0, 0)) (by (with_reducible repeat (first | refine Zg ?_ _ | refine Zi ?_ | refine Zh ?_ _)); exact BK101.out) hb); have n1_ := Aside0.mk (Zk (by repeat (first | (with_reducible first | exact HB.out | apply Ze | apply Za | apply Zd | refine Zf ?_ GE101.out) | exact HB.out)) hb); clear BK101; clear HB; have BK101 := n0_; have HB := n1_; clear n0_ n1_; (try clear hb)))
   go_meet
   case rel => exact ⟨_, (true), (by first | rfl | (simp; done) | (simp [*]; done)), H', ⟨by first | omega | exact Nat.le_refl _⟩, ⟨by (with_reducible repeat (first | refine Zg ?_ _ | refine Zi ?_ | refine Zh ?_ _)); exact BK101.out⟩, ⟨by repeat (first | (with_reducible first | exact HB.out | apply Ze | apply Za | apply Zd | refine Zf ?_ GE101.out) | exact HB.out)⟩⟩
 case rest =>
  clear HC3
  obtain ⟨kq, x17_2, rfl, HA, HJ2, BK101, HB⟩ := hcut
  cases kq with
  | zero => exact absurd HA.out (by simp [spec_MayLead.j0])
  | succ kj2 =>
   have H := HA.out
   clear HA
   simp only [spec_MayLead.j0] at H
   by_cases c14 : x17_2 = true
   ·subst c14
    rw [if_pos rfl] at H
    simp only [Option.some.injEq, Prod.mk.injEq] at H
    obtain ⟨rfl, rfl⟩ := H
    go_wp2
    go_ret2
    exact ⟨by first | rfl | (simp [errW_none, errW_some] <;> rfl) | (simp [*, errW_none, errW_some] <;> rfl), by repeat (first | (with_reducible first | exact HB.out | apply Ze | apply Za | apply Zd | refine Zf ?_ GE101.out) | exact HB.out)⟩
   ·replace c14 := Bool.eq_false_iff.mpr c14
    subst c14
    rw [if_neg (show ¬ (false = true) by decide)] at H
    have H' := Aside0.mk H
    clear H
    have hcz15_0 : wc.cell? ⟨gb101, 0, none⟩ = some (.slice A0_0 l0_0.length c0_0) := (Zb BK101.out 0).trans rfl
    have hcz15_1 : wc.cell? ⟨gb101, 1, none⟩ = some (.slice A0_1 l0_1.length c0_1) := (Zb BK101.out 1).trans rfl
    have hcz15_2 : wc.cell? ⟨gb101, 2, none⟩ = some (.slice A0_2 l0_2.length c0_2) := (Zb BK101.out 2).trans rfl
    have hfz15_0 := Zc BK101.out 0
    have hfz15_1 := Zc BK101.out 1
    have hfz15_2 := Zc BK101.out 2
    go_wp2
    go_loopg [6, 21] kj2 (fun kq v6 v21 w' => ∃ (x6_2 : Int) (x21_2 : Int), v6 = .int .i64 x6_2 ∧ v21 = .int .i64 x21_2 ∧ Aside0 (spec_MayLead.l0 kq a1 x6_2 l0_0 (l0_0.length : Int) x21_2 l0_0 l0_1 l0_2 = some (r1, r2)) ∧ Aside0 (kq ≤ kj2) ∧ Aside0 (w'.heap[gb101]? = some (.cells #[(.slice A0_0 l0_0.length c0_0), (.slice A0_1 l0_1.length c0_1), (.slice A0_2 l0_2.length c0_2)] 54 (0, 0))) ∧ Aside0 (Below w.heap.size w w'))
    case atStart => exact ⟨(0), (0), (by first | rfl | (simp; done) | (simp [*]; done)), (by first | rfl | (simp; done) | (simp [*]; done)), H', ⟨Nat.le_refl _⟩, ⟨by (with_reducible repeat (first | refine Zg ?_ _ | refine Zi ?_ | refine Zh ?_ _)); exact BK101.out⟩, ⟨by repeat (first | (with_reducible first | exact HB.out | apply Ze | apply Za | apply Zd | refine Zf ?_ GE101.out) | exact HB.out)⟩⟩
    case round =>
     clear H'
     try clear c14
     try clear hcz15_0
     try clear hcz15_1
     try clear hcz15_2
     try clear hfz15_0
     try clear hfz15_1
     try clear hfz15_2
     obtain ⟨x6_2, x21_2, rfl, rfl, HA, HK2, BK101, HB⟩ := hrel
     cases gk with
     | zero => exact absurd HA.out (by simp [spec_MayLead.l0])
     | succ k2 =>
      have H := HA.out
      clear HA
      simp only [spec_MayLead.l0] at H
      by_cases c16 : x21_2 < (l0_0.length : Int)
      ·rw [if_pos c16] at H
       have c16b0 : decide (x21_2 < (l0_0.length : Int)) = true := decide_eq_true c16
       clear c16
       by_cases c17 : 0 ≤ x21_2
       ·rw [if_pos c17] at H
        have c17b0 : decide (0 ≤ x21_2) = true := decide_eq_true c17
        clear c17
        by_cases c18 : x21_2 < (l0_0.length : Int)
        ·rw [if_pos c18] at H
         have c18b0 : decide (x21_2 < (l0_0.length : Int)) = true := decide_eq_true c18
         clear c18
         by_cases c19 : 0 ≤ a1
         ·rw [if_pos c19] at H
          have c19b0 : decide (0 ≤ a1) = true := decide_eq_true c19
          clear c19
          by_cases c20 : a1 < (l0_0.length : Int)
          ·rw [if_pos c20] at H
           have c20b0 : decide (a1 < (l0_0.length : Int)) = true := decide_eq_true c20
           clear c20
           replace H := Option.bind_eq_some_iff.mp H
           obtain ⟨t107, A210, H⟩ := H
           have A21 := Aside0.mk A210
           clear A210
           replace H := Option.bind_eq_some_iff.mp H
           obtain ⟨t109, A220, H⟩ := H
           have A22 := Aside0.mk A220
           clear A220
           by_cases c23 : t109 = true
           ·subst c23
            rw [if_pos rfl] at H
            have H' := Aside0.mk H
            clear H
            have p104 : 0 ≤ (x21_2 : Int) := of_decide_eq_true (by assumption)
            have q104 : x21_2 < (l0_0.length : Int) := of_decide_eq_true (by assumption)
            obtain ⟨ad104, A104_4, c104_4, A104_5, c104_5, e104, hx104_0, hx104_1, hx104_2, hx104_3, hx104_4, hx104_5, hl104_4, hi104_4, hl104_5, hi104_5⟩ := at_T108 HR0_0.out x21_2 p104 q104
            cases e104
            replace hx104_0 := (HB.out.cell (World.block_lt_of_cell? w _ hx104_0)).trans hx104_0
            replace hx104_1 := (HB.out.cell (World.block_lt_of_cell? w _ hx104_1)).trans hx104_1
            replace hx104_2 := (HB.out.cell (World.block_lt_of_cell? w _ hx104_2)).trans hx104_2
            replace hx104_3 := (HB.out.cell (World.block_lt_of_cell? w _ hx104_3)).trans hx104_3
            replace hx104_4 := (HB.out.cell (World.block_lt_of_cell? w _ hx104_4)).trans hx104_4
            replace hx104_5 := (HB.out.cell (World.block_lt_of_cell? w _ hx104_5)).trans hx104_5
            have HR104_4 := Aside0.mk hi104_4
            have HC104_4 := Aside0.mk hl104_4
            clear hi104_4 hl104_4
            have HR104_5 := Aside0.mk hi104_5
            have HC104_5 := Aside0.mk hl104_5
            clear hi104_5 hl104_5
            replace p104 := eq_true p104
            replace q104 := eq_true q104
            try go_wp2_with (first | ((with_reducible refine Zt (N := 8) rfl ?_); refine Zs ?hg (N := 8) ?hd (cs := #[.int .i64 0, .int .i64 0, .bool false, .bool false, .slice none 0 0, .slice none 0 0]) (t := 108) ?hr ?_; (case hd => rfl); (case hg => rfl); (case hr => first | (go_simp; done) | (go_simp; rfl)); intro gb105 hg w24 hbox hb; have n0_ := Aside0.mk (Zl (g := gb101) (o := .cells #[.slice (some ad104) l0_0.length c0_0, .slice A0_1 l0_1.length c0_1, .slice A0_2 l0_2.length c0_2] 54 (0, 0)) (by (with_reducible repeat (first | refine Zg ?_ _ | refine Zi ?_ | refine Zh ?_ _)); exact BK101.out) hb); have n1_ := Aside0.mk (Zk (by repeat (first | (with_reducible first | exact HB.out | apply Ze | apply Za | apply Zd | refine Zf ?_ GE101.out) | exact HB.out)) hb); have n2_ := Aside0.mk (hbox); have n3_ := Aside0.mk ((by rw [hg]; exact (Zj (by repeat (first | (with_reducible first | exact HB.out | apply Ze | apply Za | apply Zd | refine Zf ?_ GE101.out) | exact HB.out))) : w.heap.size ≤ gb105)); have n4_ := n3_; have n5_ := Aside0.mk ((by rw [hg]; exact Nat.ne_of_lt (Zu (g := gb101) (o := .cells #[.slice (some ad104) l0_0.length c0_0, .slice A0_1 l0_1.length c0_1, .slice A0_2 l0_2.length c0_2] 54 (0, 0)) (by (with_reducible repeat (first | refine Zg ?_ _ | refine Zi ?_ | refine Zh ?_ _)); exact BK101.out)) : gb101 ≠ gb105)); have n6_ := Aside0.mk n5_.out.symm; clear BK101; clear HB; have BK101 := n0_; have HB := n1_; have BK105 := n2_; have GW105 := n3_; have GE105 := n4_; have NB101_105 := n5_; have NB105_101 := n6_; clear n0_ n1_ n2_ n3_ n4_ n5_ n6_; clear hb hbox hg; have hnb25 := NB105_101.out; have hnc25 := NB101_105.out; have hcz26_0 : w24.cell? ⟨gb105, 0, none⟩ = some (.int .i64 0) := (Zb BK105.out 0).trans rfl; have hcz26_1 : w24.cell? ⟨gb105, 1, none⟩ = some (.int .i64 0) := (Zb BK105.out 1).trans rfl; have hcz26_2 : w24.cell? ⟨gb105, 2, none⟩ = some (.bool false) := (Zb BK105.out 2).trans rfl; have hcz26_3 : w24.cell? ⟨gb105, 3, none⟩ = some (.bool false) := (Zb BK105.out 3).trans rfl; have hcz26_4 : w24.cell? ⟨gb105, 4, none⟩ = some (.slice none 0 0) := (Zb BK105.out 4).trans rfl; have hcz26_5 : w24.cell? ⟨gb105, 5, none⟩ = some (.slice none 0 0) := (Zb BK105.out 5).trans rfl; have hfz26_0 := Zc BK105.out 0; have hfz26_1 := Zc BK105.out 1; have hfz26_2 := Zc BK105.out 2; have hfz26_3 := Zc BK105.out 3; have hfz26_4 := Zc BK105.out 4; have hfz26_5 := Zc BK105.out 5))
            have n0_ : Aside0 (((((((w24.setCell ⟨gb105, 0, none⟩ (.int .i64 ((rd_T108 l0_0 x21_2).f0))).setCell ⟨gb105, 1, none⟩ (.int .i64 ((rd_T108 l0_0 x21_2).f1))).setCell ⟨gb105, 2, none⟩ (.bool ((rd_T108 l0_0 x21_2).f2))).setCell ⟨gb105, 3, none⟩ (.bool ((rd_T108 l0_0 x21_2).f3))).setCell ⟨gb105, 4, none⟩ (.slice A104_4 ((rd_T108 l0_0 x21_2).f4).length c104_4)).setCell ⟨gb105, 5, none⟩ (.slice A104_5 ((rd_T108 l0_0 x21_2).f5).length c104_5)).heap[gb101]? = some (.cells #[.slice (some ad104) l0_0.length c0_0, .slice A0_1 l0_1.length c0_1, .slice A0_2 l0_2.length c0_2] 54 (0, 0))) := ⟨by (with_reducible repeat (first | refine Zg ?_ _ | refine Zi ?_ | refine Zh ?_ _)); refine Zq ?_ NB101_105.out _; (with_reducible repeat (first | refine Zg ?_ _ | refine Zi ?_ | refine Zh ?_ _)); refine Zq ?_ NB101_105.out _; (with_reducible repeat (first | refine Zg ?_ _ | refine Zi ?_ | refine Zh ?_ _)); refine Zq ?_ NB101_105.out _; (with_reducible repeat (first | refine Zg ?_ _ | refine Zi ?_ | refine Zh ?_ _)); refine Zq ?_ NB101_105.out _; (with_reducible repeat (first | refine Zg ?_ _ | refine Zi ?_ | refine Zh ?_ _)); refine Zq ?_ NB101_105.out _; (with_reducible repeat (first | refine Zg ?_ _ | refine Zi ?_ | refine Zh ?_ _)); refine Zq ?_ NB101_105.out _; (with_reducible repeat (first | refine Zg ?_ _ | refine Zi ?_ | refine Zh ?_ _)); exact BK101.out⟩
            have n1_ : Aside0 (((((((w24.setCell ⟨gb105, 0, none⟩ (.int .i64 ((rd_T108 l0_0 x21_2).f0))).setCell ⟨gb105, 1, none⟩ (.int .i64 ((rd_T108 l0_0 x21_2).f1))).setCell ⟨gb105, 2, none⟩ (.bool ((rd_T108 l0_0 x21_2).f2))).setCell ⟨gb105, 3, none⟩ (.bool ((rd_T108 l0_0 x21_2).f3))).setCell ⟨gb105, 4, none⟩ (.slice A104_4 ((rd_T108 l0_0 x21_2).f4).length c104_4)).setCell ⟨gb105, 5, none⟩ (.slice A104_5 ((rd_T108 l0_0 x21_2).f5).length c104_5)).heap[gb105]? = some (.cells #[.int .i64 ((rd_T108 l0_0 x21_2).f0), .int .i64 ((rd_T108 l0_0 x21_2).f1), .bool ((rd_T108 l0_0 x21_2).f2), .bool ((rd_T108 l0_0 x21_2).f3), .slice A104_4 ((rd_T108 l0_0 x21_2).f4).length c104_4, .slice A104_5 ((rd_T108 l0_0 x21_2).f5).length c104_5] 108 (0, 0))) := ⟨by (with_reducible repeat (first | refine Zg ?_ _ | refine Zi ?_ | refine Zh ?_ _)); refine Zv (cs := #[.int .i64 ((rd_T108 l0_0 x21_2).f0), .int .i64 ((rd_T108 l0_0 x21_2).f1), .bool ((rd_T108 l0_0 x21_2).f2), .bool ((rd_T108 l0_0 x21_2).f3), .slice A104_4 ((rd_T108 l0_0 x21_2).f4).length c104_4, .slice none 0 0]) ?_ 5 _ rfl; (with_reducible repeat (first | refine Zg ?_ _ | refine Zi ?_ | refine Zh ?_ _)); refine Zv (cs := #[.int .i64 ((rd_T108 l0_0 x21_2).f0), .int .i64 ((rd_T108 l0_0 x21_2).f1), .bool ((rd_T108 l0_0 x21_2).f2), .bool ((rd_T108 l0_0 x21_2).f3), .slice none 0 0, .slice none 0 0]) ?_ 4 _ rfl; (with_reducible repeat (first | refine Zg ?_ _ | refine Zi ?_ | refine Zh ?_ _)); refine Zv (cs := #[.int .i64 ((rd_T108 l0_0 x21_2).f0), .int .i64 ((rd_T108 l0_0 x21_2).f1), .bool ((rd_T108 l0_0 x21_2).f2), .bool false, .slice none 0 0, .slice none 0 0]) ?_ 3 _ rfl; (with_reducible repeat (first | refine Zg ?_ _ | refine Zi ?_ | refine Zh ?_ _)); refine Zv (cs := #[.int .i64 ((rd_T108 l0_0 x21_2).f0), .int .i64 ((rd_T108 l0_0 x21_2).f1), .bool false, .bool false, .slice none 0 0, .slice none 0 0]) ?_ 2 _ rfl; (with_reducible repeat (first | refine Zg ?_ _ | refine Zi ?_ | refine Zh ?_ _)); refine Zv (cs := #[.int .i64 ((rd_T108 l0_0 x21_2).f0), .int .i64 0, .bool false, .bool false, .slice none 0 0, .slice none 0 0]) ?_ 1 _ rfl; (with_reducible repeat (first | refine Zg ?_ _ | refine Zi ?_ | refine Zh ?_ _)); refine Zv (cs := #[.int .i64 0, .int .i64 0, .bool false, .bool false, .slice none 0 0, .slice none 0 0]) ?_ 0 _ rfl; (with_reducible repeat (first | refine Zg ?_ _ | refine Zi ?_ | refine Zh ?_ _)); exact BK105.out⟩
            have n2_ : Aside0 (Below w.heap.size w ((((((w24.setCell ⟨gb105, 0, none⟩ (.int .i64 ((rd_T108 l0_0 x21_2).f0))).setCell ⟨gb105, 1, none⟩ (.int .i64 ((rd_T108 l0_0 x21_2).f1))).setCell ⟨gb105, 2, none⟩ (.bool ((rd_T108 l0_0 x21_2).f2))).setCell ⟨gb105, 3, none⟩ (.bool ((rd_T108 l0_0 x21_2).f3))).setCell ⟨gb105, 4, none⟩ (.slice A104_4 ((rd_T108 l0_0 x21_2).f4).length c104_4)).setCell ⟨gb105, 5, none⟩ (.slice A104_5 ((rd_T108 l0_0 x21_2).f5).length c104_5))) := ⟨by repeat (first | (with_reducible first | exact HB.out | apply Ze | apply Za | apply Zd | refine Zf ?_ GE101.out | refine Zf ?_ GE105.out) | exact HB.out)⟩
            (try clear BK101)
            (try clear BK105)
            (try clear HB)
            generalize ((((((w24.setCell ⟨gb105, 0, none⟩ (.int .i64 ((rd_T108 l0_0 x21_2).f0))).setCell ⟨gb105, 1, none⟩ (.int .i64 ((rd_T108 l0_0 x21_2).f1))).setCell ⟨gb105, 2, none⟩ (.bool ((rd_T108 l0_0 x21_2).f2))).setCell ⟨gb105, 3, none⟩ (.bool ((rd_T108 l0_0 x21_2).f3))).setCell ⟨gb105, 4, none⟩ (.slice A104_4 ((rd_T108 l0_0 x21_2).f4).length c104_4)).setCell ⟨gb105, 5, none⟩ (.slice A104_5 ((rd_T108 l0_0 x21_2).f5).length c104_5)) = w27 at n0_ n1_ n2_ ⊢
            have BK101 := n0_
            have BK105 := n1_
            have HB := n2_
            clear n0_ n1_ n2_
            have n0_ := Aside0.mk (Zi BK101.out)
            have n1_ := Aside0.mk (Zi BK105.out)
            have n2_ := Aside0.mk (Zd HB.out)
            clear BK101
            clear BK105
            clear HB
            have BK101 := n0_
            have BK105 := n1_
            have HB := n2_
            clear n0_ n1_ n2_
            have p106 : 0 ≤ (a1 : Int) := of_decide_eq_true (by assumption)
            have q106 : a1 < (l0_0.length : Int) := of_decide_eq_true (by assumption)
            obtain ⟨ad106, A106_4, c106_4, A106_5, c106_5, e106, hx106_0, hx106_1, hx106_2, hx106_3, hx106_4, hx106_5, hl106_4, hi106_4, hl106_5, hi106_5⟩ := at_T108 HR0_0.out a1 p106 q106
            have hw106_5 := hx106_5
            have hw106_4 := hx106_4
            have hw106_3 := hx106_3
            have hw106_2 := hx106_2
            have hw106_1 := hx106_1
            have hw106_0 := hx106_0
            obtain rfl : ad104 = ad106 := (by injection e106)
            replace hx106_0 := (HB.out.cell (World.block_lt_of_cell? w _ hx106_0)).trans hx106_0
            replace hx106_1 := (HB.out.cell (World.block_lt_of_cell? w _ hx106_1)).trans hx106_1
            replace hx106_2 := (HB.out.cell (World.block_lt_of_cell? w _ hx106_2)).trans hx106_2
            replace hx106_3 := (HB.out.cell (World.block_lt_of_cell? w _ hx106_3)).trans hx106_3
            replace hx106_4 := (HB.out.cell (World.block_lt_of_cell? w _ hx106_4)).trans hx106_4
            replace hx106_5 := (HB.out.cell (World.block_lt_of_cell? w _ hx106_5)).trans hx106_5
            have HR106_4 := Aside0.mk hi106_4
            have HC106_4 := Aside0.mk hl106_4
            clear hi106_4 hl106_4
            have HR106_5 := Aside0.mk hi106_5
            have HC106_5 := Aside0.mk hl106_5
            clear hi106_5 hl106_5
            replace p106 := eq_true p106
            replace q106 := eq_true q106
            have p108 : 0 ≤ (a1 : Int) := of_decide_eq_true (by assumption)
            have q108 : a1 < (l0_0.length : Int) := of_decide_eq_true (by assumption)
            obtain ⟨ad108, A108_4, c108_4, A108_5, c108_5, e108, hx108_0, hx108_1, hx108_2, hx108_3, hx108_4, hx108_5, hl108_4, hi108_4, hl108_5, hi108_5⟩ := at_T108 HR0_0.out a1 p108 q108
            have hw108_5 := hx108_5
            have hw108_4 := hx108_4
            have hw108_3 := hx108_3
            have hw108_2 := hx108_2
            have hw108_1 := hx108_1
            have hw108_0 := hx108_0
            obtain rfl : ad104 = ad108 := (by injection e108)
            replace hx108_0 := (HB.out.cell (World.block_lt_of_cell? w _ hx108_0)).trans hx108_0
            replace hx108_1 := (HB.out.cell (World.block_lt_of_cell? w _ hx108_1)).trans hx108_1
            replace hx108_2 := (HB.out.cell (World.block_lt_of_cell? w _ hx108_2)).trans hx108_2
            replace hx108_3 := (HB.out.cell (World.block_lt_of_cell? w _ hx108_3)).trans hx108_3
            replace hx108_4 := (HB.out.cell (World.block_lt_of_cell? w _ hx108_4)).trans hx108_4
            replace hx108_5 := (HB.out.cell (World.block_lt_of_cell? w _ hx108_5)).trans hx108_5
            have HR108_4 := Aside0.mk hi108_4
            have HC108_4 := Aside0.mk hl108_4
            clear hi108_4 hl108_4
            have HR108_5 := Aside0.mk hi108_5
            have HC108_5 := Aside0.mk hl108_5
            clear hi108_5 hl108_5
            replace p108 := eq_true p108
            replace q108 := eq_true q108
            have ea_ := Option.some.inj (hx106_4.symm.trans hx108_4)
            injection ea_ with ea_ en_ ec_
            subst ea_
            subst ec_
            clear en_
            have ea_ := Option.some.inj (hx106_5.symm.trans hx108_5)
            injection ea_ with ea_ en_ ec_
            subst ea_
            subst ec_
            clear en_
            refine start_ (n := 17) (S := fun w' => w'.cell? ⟨gb101, 0, none⟩ = some (.slice (some ad104) l0_0.length c0_0) ∧ w'.cell? ⟨gb101, 1, none⟩ = some (.slice A0_1 l0_1.length c0_1) ∧ w'.cell? ⟨gb101, 2, none⟩ = some (.slice A0_2 l0_2.length c0_2) ∧ w'.cell? ⟨gb105, 0, none⟩ = some (.int .i64 ((rd_T108 l0_0 x21_2).f0)) ∧ w'.cell? ⟨gb105, 1, none⟩ = some (.int .i64 ((rd_T108 l0_0 x21_2).f1)) ∧ w'.cell? ⟨gb105, 2, none⟩ = some (.bool ((rd_T108 l0_0 x21_2).f2)) ∧ w'.cell? ⟨gb105, 3, none⟩ = some (.bool ((rd_T108 l0_0 x21_2).f3)) ∧ w'.cell? ⟨gb105, 4, none⟩ = some (.slice A104_4 ((rd_T108 l0_0 x21_2).f4).length c104_4) ∧ w'.cell? ⟨gb105, 5, none⟩ = some (.slice A104_5 ((rd_T108 l0_0 x21_2).f5).length c104_5) ∧ w'.cell? (ad104.add ((a1).toNat * 6)) = some (.int .i64 ((rd_T108 l0_0 a1).f0)) ∧ w'.cell? ⟨(ad104.add ((a1).toNat * 6)).block, (ad104.add ((a1).toNat * 6)).off + 1, none⟩ = some (.int .i64 ((rd_T108 l0_0 a1).f1)) ∧ w'.cell? ⟨(ad104.add ((a1).toNat * 6)).block, (ad104.add ((a1).toNat * 6)).off + 2, none⟩ = some (.bool ((rd_T108 l0_0 a1).f2)) ∧ w'.cell? ⟨(ad104.add ((a1).toNat * 6)).block, (ad104.add ((a1).toNat * 6)).off + 3, none⟩ = some (.bool ((rd_T108 l0_0 a1).f3)) ∧ w'.cell? ⟨(ad104.add ((a1).toNat * 6)).block, (ad104.add ((a1).toNat * 6)).off + 4, none⟩ = some (.slice A106_4 ((rd_T108 l0_0 a1).f4).length c106_4) ∧ w'.cell? ⟨(ad104.add ((a1).toNat * 6)).block, (ad104.add ((a1).toNat * 6)).off + 5, none⟩ = some (.slice A106_5 ((rd_T108 l0_0 a1).f5).length c106_5) ∧ w'.cell? (ad104.add ((a1).toNat * 6)) = some (.int .i64 ((rd_T108 l0_0 a1).f0)) ∧ w'.cell? ⟨(ad104.add ((a1).toNat * 6)).block, (ad104.add ((a1).toNat * 6)).off + 1, none⟩ = some (.int .i64 ((rd_T108 l0_0 a1).f1)) ∧ w'.cell? ⟨(ad104.add ((a1).toNat * 6)).block, (ad104.add ((a1).toNat * 6)).off + 2, none⟩ = some (.bool ((rd_T108 l0_0 a1).f2)) ∧ w'.cell? ⟨(ad104.add ((a1).toNat * 6)).block, (ad104.add ((a1).toNat * 6)).off + 3, none⟩ = some (.bool ((rd_T108 l0_0 a1).f3)) ∧ w'.cell? ⟨(ad104.add ((a1).toNat * 6)).block, (ad104.add ((a1).toNat * 6)).off + 4, none⟩ = some (.slice A106_4 ((rd_T108 l0_0 a1).f4).length c106_4) ∧ w'.cell? ⟨(ad104.add ((a1).toNat * 6)).block, (ad104.add ((a1).toNat * 6)).off + 5, none⟩ = some (.slice A106_5 ((rd_T108 l0_0 a1).f5).length c106_5)) (ds := []) #[false, false, false, false, false, false, false, false, false, false, false, false, false, false, false, false, false] (by kernel_rfl) rfl rfl ⟨(Zb BK101.out 0).trans rfl, (Zb BK101.out 1).trans rfl, (Zb BK101.out 2).trans rfl, (Zb BK105.out 0).trans rfl, (Zb BK105.out 1).trans rfl, (Zb BK105.out 2).trans rfl, (Zb BK105.out 3).trans rfl, (Zb BK105.out 4).trans rfl, (Zb BK105.out 5).trans rfl, ((HB.out.cell (World.block_lt_of_cell? w _ hw106_0)).trans hw106_0), ((HB.out.cell (World.block_lt_of_cell? w _ hw106_1)).trans hw106_1), ((HB.out.cell (World.block_lt_of_cell? w _ hw106_2)).trans hw106_2), ((HB.out.cell (World.block_lt_of_cell? w _ hw106_3)).trans hw106_3), ((HB.out.cell (World.block_lt_of_cell? w _ hw106_4)).trans hw106_4), ((HB.out.cell (World.block_lt_of_cell? w _ hw106_5)).trans hw106_5), ((HB.out.cell (World.block_lt_of_cell? w _ hw108_0)).trans hw108_0), ((HB.out.cell (World.block_lt_of_cell? w _ hw108_1)).trans hw108_1), ((HB.out.cell (World.block_lt_of_cell? w _ hw108_2)).trans hw108_2), ((HB.out.cell (World.block_lt_of_cell? w _ hw108_3)).trans hw108_3), ((HB.out.cell (World.block_lt_of_cell? w _ hw108_4)).trans hw108_4), ((HB.out.cell (World.block_lt_of_cell? w _ hw108_5)).trans hw108_5)⟩ (fun hHeld => ?_); refine with_tabW spec_MayLead.tab7 spec_MayLead.bits7 (fun HT_ HW_ => ?_)
            generalize w27.drew = w28 at BK101 BK105 HB HR106_4 HR106_5 HR108_4 HR108_5 hx106_0 hx106_1 hx106_2 hx106_3 hx106_4 hx106_5 hx108_0 hx108_1 hx108_2 hx108_3 hx108_4 hx108_5 hHeld ⊢
            refine Zr (i := 0) (N := some 25) (v := ?_) (a' := ?_) #[true, false, false, false, false, false, false, false, false, false, false, false, false, false, false, false, false] rfl rfl (Zo HT_.out (by kernel_rfl)) (fun _ _ _ h => h) (Or.inl ⟨by rfl, ?_⟩) ?_ ?_
            rotate_left
            ·intro w'
             go_simp
             with_reducible rfl
            rotate_left
            ·simp only [Act.put, List.setIfInBounds_toArray, List.set_cons_zero, List.set_cons_succ, Zm, Zn]
             rfl
            refine Zr (i := 2) (N := some 27) (v := ?_) (a' := ?_) #[true, false, true, false, false, false, false, false, false, false, false, false, false, false, false, false, false] rfl rfl (Zo HT_.out (by kernel_rfl)) (fun _ _ _ h => h) (Or.inl ⟨by rfl, ?_⟩) ?_ ?_
            rotate_left
            ·intro w'
             go_simp
             with_reducible rfl
            rotate_left
            ·simp only [Act.put, List.setIfInBounds_toArray, List.set_cons_zero, List.set_cons_succ, Zm, Zn]
             rfl
            refine Zr (i := 7) (N := some 32) (v := ?_) (a' := ?_) #[true, false, true, false, false, false, false, true, false, false, false, false, false, false, false, false, false] rfl rfl (Zo HT_.out (by kernel_rfl)) (fun _ _ _ h => h) (Or.inl ⟨by rfl, ?_⟩) ?_ ?_
            rotate_left
            ·intro w'
             go_simp
             with_reducible rfl
            rotate_left
            ·simp only [Act.put, List.setIfInBounds_toArray, List.set_cons_zero, List.set_cons_succ, Zm, Zn]
             rfl
            refine Zr (i := 9) (N := some 34) (v := ?_) (a' := ?_) #[true, false, true, false, false, false, false, true, false, true, false, false, false, false, false, false, false] rfl rfl (Zo HT_.out (by kernel_rfl)) (fun _ _ _ h => h) (Or.inl ⟨by rfl, ?_⟩) ?_ ?_
            rotate_left
            ·intro w'
             go_simp
             with_reducible rfl
            rotate_left
            ·simp only [Act.put, List.setIfInBounds_toArray, List.set_cons_zero, List.set_cons_succ, Zm, Zn]
             rfl
            refine Zr (i := 14) (N := some 39) (v := ?_) (a' := ?_) #[true, false, true, false, false, false, false, true, false, true, false, false, false, false, true, false, false] rfl rfl (Zo HT_.out (by kernel_rfl)) (fun _ _ _ h => h) (Or.inl ⟨by rfl, ?_⟩) ?_ ?_
            rotate_left
            ·intro w'
             go_simp
             with_reducible rfl
            rotate_left
            ·simp only [Act.put, List.setIfInBounds_toArray, List.set_cons_zero, List.set_cons_succ, Zm, Zn]
             rfl
            refine take_ (i := 1) (N := some 26) (v := ?_) (a' := ?_) #[true, true, true, false, false, false, false, true, false, true, false, false, false, false, true, false, false] rfl rfl (Zx HT_.out HW_.out (by kernel_rfl)) (fun _ _ _ h => h) (Or.inl ⟨by rfl, ?_⟩) hHeld ?_ ?_
            rotate_left
            ·rintro w' ⟨s0, s1, s2, s3, s4, s5, s6, s7, s8, s9, s10, s11, s12, s13, s14, s15, s16, s17, s18, s19, s20⟩
             go_simp
             with_reducible rfl
            rotate_left
            ·simp only [Act.put, List.setIfInBounds_toArray, List.set_cons_zero, List.set_cons_succ, Zm, Zn]
             rfl
            refine Zr (i := 3) (N := some 28) (v := ?_) (a' := ?_) #[true, true, true, true, false, false, false, true, false, true, false, false, false, false, true, false, false] rfl rfl (Zo HT_.out (by kernel_rfl)) (fun _ _ _ h => h) (Or.inl ⟨by rfl, ?_⟩) ?_ ?_
            rotate_left
            ·intro w'
             go_simp
             with_reducible rfl
            rotate_left
            ·simp only [Act.put, List.setIfInBounds_toArray, List.set_cons_zero, List.set_cons_succ, Zm, Zn]
             rfl
            refine Zr (i := 4) (N := some 29) (v := ?_) (a' := ?_) #[true, true, true, true, true, false, false, true, false, true, false, false, false, false, true, false, false] rfl rfl (Zo HT_.out (by kernel_rfl)) (fun _ _ _ h => h) (Or.inl ⟨by rfl, ?_⟩) ?_ ?_
            rotate_left
            ·intro w'
             go_simp
             with_reducible rfl
            rotate_left
            ·simp only [Act.put, List.setIfInBounds_toArray, List.set_cons_zero, List.set_cons_succ, Zm, Zn]
             rfl
            refine take_ (i := 5) (N := some 30) (v := ?_) (a' := ?_) #[true, true, true, true, true, true, false, true, false, true, false, false, false, false, true, false, false] rfl rfl (Zx HT_.out HW_.out (by kernel_rfl)) (fun _ _ _ h => h) (Or.inl ⟨by rfl, ?_⟩) hHeld ?_ ?_
            rotate_left
            ·rintro w' ⟨s0, s1, s2, s3, s4, s5, s6, s7, s8, s9, s10, s11, s12, s13, s14, s15, s16, s17, s18, s19, s20⟩
             go_simp
             with_reducible rfl
            rotate_left
            ·simp only [Act.put, List.setIfInBounds_toArray, List.set_cons_zero, List.set_cons_succ, Zm, Zn]
             rfl
            refine take_ (i := 8) (N := some 33) (v := ?_) (a' := ?_) #[true, true, true, true, true, true, false, true, true, true, false, false, false, false, true, false, false] rfl rfl (Zx HT_.out HW_.out (by kernel_rfl)) (fun _ _ _ h => h) (Or.inl ⟨by rfl, ?_⟩) hHeld ?_ ?_
            rotate_left
            ·rintro w' ⟨s0, s1, s2, s3, s4, s5, s6, s7, s8, s9, s10, s11, s12, s13, s14, s15, s16, s17, s18, s19, s20⟩
             go_simp
             with_reducible rfl
            rotate_left
            ·simp only [Act.put, List.setIfInBounds_toArray, List.set_cons_zero, List.set_cons_succ, Zm, Zn]
             rfl
            refine Zr (i := 10) (N := some 35) (v := ?_) (a' := ?_) #[true, true, true, true, true, true, false, true, true, true, true, false, false, false, true, false, false] rfl rfl (Zo HT_.out (by kernel_rfl)) (fun _ _ _ h => h) (Or.inl ⟨by rfl, ?_⟩) ?_ ?_
            rotate_left
            ·intro w'
             go_simp
             with_reducible rfl
            rotate_left
            ·simp only [Act.put, List.setIfInBounds_toArray, List.set_cons_zero, List.set_cons_succ, Zm, Zn]
             rfl
            refine Zr (i := 11) (N := some 36) (v := ?_) (a' := ?_) #[true, true, true, true, true, true, false, true, true, true, true, true, false, false, true, false, false] rfl rfl (Zo HT_.out (by kernel_rfl)) (fun _ _ _ h => h) (Or.inl ⟨by rfl, ?_⟩) ?_ ?_
            rotate_left
            ·intro w'
             go_simp
             with_reducible rfl
            rotate_left
            ·simp only [Act.put, List.setIfInBounds_toArray, List.set_cons_zero, List.set_cons_succ, Zm, Zn]
             rfl
            refine take_ (i := 12) (N := some 37) (v := ?_) (a' := ?_) #[true, true, true, true, true, true, false, true, true, true, true, true, true, false, true, false, false] rfl rfl (Zx HT_.out HW_.out (by kernel_rfl)) (fun _ _ _ h => h) (Or.inl ⟨by rfl, ?_⟩) hHeld ?_ ?_
            rotate_left
            ·rintro w' ⟨s0, s1, s2, s3, s4, s5, s6, s7, s8, s9, s10, s11, s12, s13, s14, s15, s16, s17, s18, s19, s20⟩
             go_simp
             with_reducible rfl
            rotate_left
            ·simp only [Act.put, List.setIfInBounds_toArray, List.set_cons_zero, List.set_cons_succ, Zm, Zn]
             rfl
            refine Zr (i := 13) (N := some 38) (v := ?_) (a' := ?_) #[true, true, true, true, true, true, false, true, true, true, true, true, true, true, true, false, false] rfl rfl (Zo HT_.out (by kernel_rfl)) (fun _ _ _ h => h) (Or.inl ⟨by rfl, ?_⟩) ?_ ?_
            rotate_left
            ·intro w'
             go_simp
             with_reducible rfl
            rotate_left
            ·simp only [Act.put, List.setIfInBounds_toArray, List.set_cons_zero, List.set_cons_succ, Zm, Zn]
             rfl
            refine take_ (i := 15) (N := some 40) (v := ?_) (a' := ?_) #[true, true, true, true, true, true, false, true, true, true, true, true, true, true, true, true, false] rfl rfl (Zx HT_.out HW_.out (by kernel_rfl)) (fun _ _ _ h => h) (Or.inl ⟨by rfl, ?_⟩) hHeld ?_ ?_
            rotate_left
            ·rintro w' ⟨s0, s1, s2, s3, s4, s5, s6, s7, s8, s9, s10, s11, s12, s13, s14, s15, s16, s17, s18, s19, s20⟩
             go_simp
             with_reducible rfl
            rotate_left
            ·simp only [Act.put, List.setIfInBounds_toArray, List.set_cons_zero, List.set_cons_succ, Zm, Zn]
             rfl
            refine one_ (i := 6) (N := some 31) #[true, true, true, true, true, true, true, true, true, true, true, true, true, true, true, true, false] rfl rfl (one_of HT_.out (by kernel_rfl)) (by decide) (fun K hK => ?_)
            refine goes_ Try.func62 (by kernel_rfl) rfl #[.slice A106_5 ((rd_T108 l0_0 a1).f5).length c106_5] (by rfl) rfl rfl (by (try simp only [List.map_toArray, List.map_cons, List.map_nil]); first | done | rfl | (simp only [List.length_drop, List.length_take]; rfl)) ?_
            with_reducible refine (spec_l9Last.calls _ _ ((rd_T108 l0_0 a1).f5) t107 _ ?side1 ?side2 A21.out).mono ?_
            (case side1 => repeat (first | exact (Kd.C_below HR106_5.out HB.out) | (with_reducible refine Kd.C_alloc ?_ _) | (with_reducible refine Kd.C_drewN ?_ _) | (with_reducible refine Kd.C_drew ?_)))
            (case side2 => exact HC106_5.out)
            rintro e w' ⟨rfl, ⟨nd, rfl⟩⟩
            refine ⟨_, rfl, ?_⟩
            refine hK.out _ _ ⟨(Zb BK101.out 0).trans rfl, (Zb BK101.out 1).trans rfl, (Zb BK101.out 2).trans rfl, (Zb BK105.out 0).trans rfl, (Zb BK105.out 1).trans rfl, (Zb BK105.out 2).trans rfl, (Zb BK105.out 3).trans rfl, (Zb BK105.out 4).trans rfl, (Zb BK105.out 5).trans rfl, ((HB.out.cell (World.block_lt_of_cell? w _ hw106_0)).trans hw106_0), ((HB.out.cell (World.block_lt_of_cell? w _ hw106_1)).trans hw106_1), ((HB.out.cell (World.block_lt_of_cell? w _ hw106_2)).trans hw106_2), ((HB.out.cell (World.block_lt_of_cell? w _ hw106_3)).trans hw106_3), ((HB.out.cell (World.block_lt_of_cell? w _ hw106_4)).trans hw106_4), ((HB.out.cell (World.block_lt_of_cell? w _ hw106_5)).trans hw106_5), ((HB.out.cell (World.block_lt_of_cell? w _ hw108_0)).trans hw108_0), ((HB.out.cell (World.block_lt_of_cell? w _ hw108_1)).trans hw108_1), ((HB.out.cell (World.block_lt_of_cell? w _ hw108_2)).trans hw108_2), ((HB.out.cell (World.block_lt_of_cell? w _ hw108_3)).trans hw108_3), ((HB.out.cell (World.block_lt_of_cell? w _ hw108_4)).trans hw108_4), ((HB.out.cell (World.block_lt_of_cell? w _ hw108_5)).trans hw108_5)⟩ (fun hHeld => ?_)
            clear hK K
            refine norm_ (a' := ?_) ?_ ?_
            rotate_left
            ·show Act.put _ (some 31) _ = _
             simp only [Act.put, List.setIfInBounds_toArray, List.set_cons_zero, List.set_cons_succ, Zm, Zn]
             rfl
            refine one_ (i := 16) (N := some 41) #[true, true, true, true, true, true, true, true, true, true, true, true, true, true, true, true, true] rfl rfl (one_of HT_.out (by kernel_rfl)) (by decide) (fun K hK => ?_)
            refine goes_ Try.func61 (by kernel_rfl) rfl #[.int .i64 t107, .int .i64 (((rd_T108 l0_0 a1).f5).length : Int), .slice A104_5 ((rd_T108 l0_0 x21_2).f5).length c104_5] (by rfl) rfl rfl (by (try simp only [List.map_toArray, List.map_cons, List.map_nil]); first | done | rfl | (simp only [List.length_drop, List.length_take]; rfl)) ?_
            with_reducible refine (spec_l9Up.calls t107 (((rd_T108 l0_0 a1).f5).length : Int) _ _ ((rd_T108 l0_0 x21_2).f5) true _ ?side1 ?side2 A22.out).mono ?_
            (case side1 => repeat (first | exact (Kd.C_below HR104_5.out (by repeat (first | (with_reducible first | exact HB.out | apply Ze | apply Za | apply Zd | refine Zf ?_ GE101.out | refine Zf ?_ GE105.out) | exact HB.out))) | (with_reducible refine Kd.C_alloc ?_ _) | (with_reducible refine Kd.C_drewN ?_ _) | (with_reducible refine Kd.C_drew ?_)))
            (case side2 => exact HC104_5.out)
            rintro e w' ⟨rfl, ⟨nd, rfl⟩⟩
            refine ⟨_, rfl, ?_⟩
            refine hK.out _ _ ⟨(Zb BK101.out 0).trans rfl, (Zb BK101.out 1).trans rfl, (Zb BK101.out 2).trans rfl, (Zb BK105.out 0).trans rfl, (Zb BK105.out 1).trans rfl, (Zb BK105.out 2).trans rfl, (Zb BK105.out 3).trans rfl, (Zb BK105.out 4).trans rfl, (Zb BK105.out 5).trans rfl, ((HB.out.cell (World.block_lt_of_cell? w _ hw106_0)).trans hw106_0), ((HB.out.cell (World.block_lt_of_cell? w _ hw106_1)).trans hw106_1), ((HB.out.cell (World.block_lt_of_cell? w _ hw106_2)).trans hw106_2), ((HB.out.cell (World.block_lt_of_cell? w _ hw106_3)).trans hw106_3), ((HB.out.cell (World.block_lt_of_cell? w _ hw106_4)).trans hw106_4), ((HB.out.cell (World.block_lt_of_cell? w _ hw106_5)).trans hw106_5), ((HB.out.cell (World.block_lt_of_cell? w _ hw108_0)).trans hw108_0), ((HB.out.cell (World.block_lt_of_cell? w _ hw108_1)).trans hw108_1), ((HB.out.cell (World.block_lt_of_cell? w _ hw108_2)).trans hw108_2), ((HB.out.cell (World.block_lt_of_cell? w _ hw108_3)).trans hw108_3), ((HB.out.cell (World.block_lt_of_cell? w _ hw108_4)).trans hw108_4), ((HB.out.cell (World.block_lt_of_cell? w _ hw108_5)).trans hw108_5)⟩ (fun hHeld => ?_)
            clear hK K
            refine norm_ (a' := ?_) ?_ ?_
            rotate_left
            ·show Act.put _ (some 41) _ = _
             simp only [Act.put, List.setIfInBounds_toArray, List.set_cons_zero, List.set_cons_succ, Zm, Zn]
             rfl
            refine done_ (done_of HT_.out (by kernel_rfl)) ?_
            try go_wp2
            go_roundg k2
            case measure => have := HJ2.out; have := HK2.out; omega
            case rel => exact ⟨(wrap64 (x6_2 + 1)), (wrap64 (x21_2 + 1)), (by first | rfl | (simp; done) | (simp [*]; done)), (by first | rfl | (simp; done) | (simp [*]; done)), H', ⟨by have := HJ2.out; have := HK2.out; omega⟩, ⟨by (with_reducible repeat (first | refine Zg ?_ _ | refine Zi ?_ | refine Zh ?_ _)); exact BK101.out⟩, ⟨by repeat (first | (with_reducible first | exact HB.out | apply Ze | apply Za | apply Zd | refine Zf ?_ GE101.out | refine Zf ?_ GE105.out) | exact HB.out)⟩⟩
           ·replace c23 := Bool.eq_false_iff.mpr c23
            subst c23
            rw [if_neg (show ¬ (false = true) by decide)] at H
            have H' := Aside0.mk H
            clear H
            have p104 : 0 ≤ (x21_2 : Int) := of_decide_eq_true (by assumption)
            have q104 : x21_2 < (l0_0.length : Int) := of_decide_eq_true (by assumption)
            obtain ⟨ad104, A104_4, c104_4, A104_5, c104_5, e104, hx104_0, hx104_1, hx104_2, hx104_3, hx104_4, hx104_5, hl104_4, hi104_4, hl104_5, hi104_5⟩ := at_T108 HR0_0.out x21_2 p104 q104
            cases e104
            replace hx104_0 := (HB.out.cell (World.block_lt_of_cell? w _ hx104_0)).trans hx104_0
            replace hx104_1 := (HB.out.cell (World.block_lt_of_cell? w _ hx104_1)).trans hx104_1
            replace hx104_2 := (HB.out.cell (World.block_lt_of_cell? w _ hx104_2)).trans hx104_2
            replace hx104_3 := (HB.out.cell (World.block_lt_of_cell? w _ hx104_3)).trans hx104_3
            replace hx104_4 := (HB.out.cell (World.block_lt_of_cell? w _ hx104_4)).trans hx104_4
            replace hx104_5 := (HB.out.cell (World.block_lt_of_cell? w _ hx104_5)).trans hx104_5
            have HR104_4 := Aside0.mk hi104_4
            have HC104_4 := Aside0.mk hl104_4
            clear hi104_4 hl104_4
            have HR104_5 := Aside0.mk hi104_5
            have HC104_5 := Aside0.mk hl104_5
            clear hi104_5 hl104_5
            replace p104 := eq_true p104
            replace q104 := eq_true q104
            try go_wp2_with (first | ((with_reducible refine Zt (N := 8) rfl ?_); refine Zs ?hg (N := 8) ?hd (cs := #[.int .i64 0, .int .i64 0, .bool false, .bool false, .slice none 0 0, .slice none 0 0]) (t := 108) ?hr ?_; (case hd => rfl); (case hg => rfl); (case hr => first | (go_simp; done) | (go_simp; rfl)); intro gb105 hg w29 hbox hb; have n0_ := Aside0.mk (Zl (g := gb101) (o := .cells #[.slice (some ad104) l0_0.length c0_0, .slice A0_1 l0_1.length c0_1, .slice A0_2 l0_2.length c0_2] 54 (0, 0)) (by (with_reducible repeat (first | refine Zg ?_ _ | refine Zi ?_ | refine Zh ?_ _)); exact BK101.out) hb); have n1_ := Aside0.mk (Zk (by repeat (first | (with_reducible first | exact HB.out | apply Ze | apply Za | apply Zd | refine Zf ?_ GE101.out) | exact HB.out)) hb); have n2_ := Aside0.mk (hbox); have n3_ := Aside0.mk ((by rw [hg]; exact (Zj (by repeat (first | (with_reducible first | exact HB.out | apply Ze | apply Za | apply Zd | refine Zf ?_ GE101.out) | exact HB.out))) : w.heap.size ≤ gb105)); have n4_ := n3_; have n5_ := Aside0.mk ((by rw [hg]; exact Nat.ne_of_lt (Zu (g := gb101) (o := .cells #[.slice (some ad104) l0_0.length c0_0, .slice A0_1 l0_1.length c0_1, .slice A0_2 l0_2.length c0_2] 54 (0, 0)) (by (with_reducible repeat (first | refine Zg ?_ _ | refine Zi ?_ | refine Zh ?_ _)); exact BK101.out)) : gb101 ≠ gb105)); have n6_ := Aside0.mk n5_.out.symm; clear BK101; clear HB; have BK101 := n0_; have HB := n1_; have BK105 := n2_; have GW105 := n3_; have GE105 := n4_; have NB101_105 := n5_; have NB105_101 := n6_; clear n0_ n1_ n2_ n3_ n4_ n5_ n6_; clear hb hbox hg; have hnb30 := NB105_101.out; have hnc30 := NB101_105.out; have hcz31_0 : w29.cell? ⟨gb105, 0, none⟩ = some (.int .i64 0) := (Zb BK105.out 0).trans rfl; have hcz31_1 : w29.cell? ⟨gb105, 1, none⟩ = some (.int .i64 0) := (Zb BK105.out 1).trans rfl; have hcz31_2 : w29.cell? ⟨gb105, 2, none⟩ = some (.bool false) := (Zb BK105.out 2).trans rfl; have hcz31_3 : w29.cell? ⟨gb105, 3, none⟩ = some (.bool false) := (Zb BK105.out 3).trans rfl; have hcz31_4 : w29.cell? ⟨gb105, 4, none⟩ = some (.slice none 0 0) := (Zb BK105.out 4).trans rfl; have hcz31_5 : w29.cell? ⟨gb105, 5, none⟩ = some (.slice none 0 0) := (Zb BK105.out 5).trans rfl; have hfz31_0 := Zc BK105.out 0; have hfz31_1 := Zc BK105.out 1; have hfz31_2 := Zc BK105.out 2; have hfz31_3 := Zc BK105.out 3; have hfz31_4 := Zc BK105.out 4; have hfz31_5 := Zc BK105.out 5))
            have n0_ : Aside0 (((((((w29.setCell ⟨gb105, 0, none⟩ (.int .i64 ((rd_T108 l0_0 x21_2).f0))).setCell ⟨gb105, 1, none⟩ (.int .i64 ((rd_T108 l0_0 x21_2).f1))).setCell ⟨gb105, 2, none⟩ (.bool ((rd_T108 l0_0 x21_2).f2))).setCell ⟨gb105, 3, none⟩ (.bool ((rd_T108 l0_0 x21_2).f3))).setCell ⟨gb105, 4, none⟩ (.slice A104_4 ((rd_T108 l0_0 x21_2).f4).length c104_4)).setCell ⟨gb105, 5, none⟩ (.slice A104_5 ((rd_T108 l0_0 x21_2).f5).length c104_5)).heap[gb101]? = some (.cells #[.slice (some ad104) l0_0.length c0_0, .slice A0_1 l0_1.length c0_1, .slice A0_2 l0_2.length c0_2] 54 (0, 0))) := ⟨by (with_reducible repeat (first | refine Zg ?_ _ | refine Zi ?_ | refine Zh ?_ _)); refine Zq ?_ NB101_105.out _; (with_reducible repeat (first | refine Zg ?_ _ | refine Zi ?_ | refine Zh ?_ _)); refine Zq ?_ NB101_105.out _; (with_reducible repeat (first | refine Zg ?_ _ | refine Zi ?_ | refine Zh ?_ _)); refine Zq ?_ NB101_105.out _; (with_reducible repeat (first | refine Zg ?_ _ | refine Zi ?_ | refine Zh ?_ _)); refine Zq ?_ NB101_105.out _; (with_reducible repeat (first | refine Zg ?_ _ | refine Zi ?_ | refine Zh ?_ _)); refine Zq ?_ NB101_105.out _; (with_reducible repeat (first | refine Zg ?_ _ | refine Zi ?_ | refine Zh ?_ _)); refine Zq ?_ NB101_105.out _; (with_reducible repeat (first | refine Zg ?_ _ | refine Zi ?_ | refine Zh ?_ _)); exact BK101.out⟩
            have n1_ : Aside0 (((((((w29.setCell ⟨gb105, 0, none⟩ (.int .i64 ((rd_T108 l0_0 x21_2).f0))).setCell ⟨gb105, 1, none⟩ (.int .i64 ((rd_T108 l0_0 x21_2).f1))).setCell ⟨gb105, 2, none⟩ (.bool ((rd_T108 l0_0 x21_2).f2))).setCell ⟨gb105, 3, none⟩ (.bool ((rd_T108 l0_0 x21_2).f3))).setCell ⟨gb105, 4, none⟩ (.slice A104_4 ((rd_T108 l0_0 x21_2).f4).length c104_4)).setCell ⟨gb105, 5, none⟩ (.slice A104_5 ((rd_T108 l0_0 x21_2).f5).length c104_5)).heap[gb105]? = some (.cells #[.int .i64 ((rd_T108 l0_0 x21_2).f0), .int .i64 ((rd_T108 l0_0 x21_2).f1), .bool ((rd_T108 l0_0 x21_2).f2), .bool ((rd_T108 l0_0 x21_2).f3), .slice A104_4 ((rd_T108 l0_0 x21_2).f4).length c104_4, .slice A104_5 ((rd_T108 l0_0 x21_2).f5).length c104_5] 108 (0, 0))) := ⟨by (with_reducible repeat (first | refine Zg ?_ _ | refine Zi ?_ | refine Zh ?_ _)); refine Zv (cs := #[.int .i64 ((rd_T108 l0_0 x21_2).f0), .int .i64 ((rd_T108 l0_0 x21_2).f1), .bool ((rd_T108 l0_0 x21_2).f2), .bool ((rd_T108 l0_0 x21_2).f3), .slice A104_4 ((rd_T108 l0_0 x21_2).f4).length c104_4, .slice none 0 0]) ?_ 5 _ rfl; (with_reducible repeat (first | refine Zg ?_ _ | refine Zi ?_ | refine Zh ?_ _)); refine Zv (cs := #[.int .i64 ((rd_T108 l0_0 x21_2).f0), .int .i64 ((rd_T108 l0_0 x21_2).f1), .bool ((rd_T108 l0_0 x21_2).f2), .bool ((rd_T108 l0_0 x21_2).f3), .slice none 0 0, .slice none 0 0]) ?_ 4 _ rfl; (with_reducible repeat (first | refine Zg ?_ _ | refine Zi ?_ | refine Zh ?_ _)); refine Zv (cs := #[.int .i64 ((rd_T108 l0_0 x21_2).f0), .int .i64 ((rd_T108 l0_0 x21_2).f1), .bool ((rd_T108 l0_0 x21_2).f2), .bool false, .slice none 0 0, .slice none 0 0]) ?_ 3 _ rfl; (with_reducible repeat (first | refine Zg ?_ _ | refine Zi ?_ | refine Zh ?_ _)); refine Zv (cs := #[.int .i64 ((rd_T108 l0_0 x21_2).f0), .int .i64 ((rd_T108 l0_0 x21_2).f1), .bool false, .bool false, .slice none 0 0, .slice none 0 0]) ?_ 2 _ rfl; (with_reducible repeat (first | refine Zg ?_ _ | refine Zi ?_ | refine Zh ?_ _)); refine Zv (cs := #[.int .i64 ((rd_T108 l0_0 x21_2).f0), .int .i64 0, .bool false, .bool false, .slice none 0 0, .slice none 0 0]) ?_ 1 _ rfl; (with_reducible repeat (first | refine Zg ?_ _ | refine Zi ?_ | refine Zh ?_ _)); refine Zv (cs := #[.int .i64 0, .int .i64 0, .bool false, .bool false, .slice none 0 0, .slice none 0 0]) ?_ 0 _ rfl; (with_reducible repeat (first | refine Zg ?_ _ | refine Zi ?_ | refine Zh ?_ _)); exact BK105.out⟩
            have n2_ : Aside0 (Below w.heap.size w ((((((w29.setCell ⟨gb105, 0, none⟩ (.int .i64 ((rd_T108 l0_0 x21_2).f0))).setCell ⟨gb105, 1, none⟩ (.int .i64 ((rd_T108 l0_0 x21_2).f1))).setCell ⟨gb105, 2, none⟩ (.bool ((rd_T108 l0_0 x21_2).f2))).setCell ⟨gb105, 3, none⟩ (.bool ((rd_T108 l0_0 x21_2).f3))).setCell ⟨gb105, 4, none⟩ (.slice A104_4 ((rd_T108 l0_0 x21_2).f4).length c104_4)).setCell ⟨gb105, 5, none⟩ (.slice A104_5 ((rd_T108 l0_0 x21_2).f5).length c104_5))) := ⟨by repeat (first | (with_reducible first | exact HB.out | apply Ze | apply Za | apply Zd | refine Zf ?_ GE101.out | refine Zf ?_ GE105.out) | exact HB.out)⟩
            (try clear BK101)
            (try clear BK105)
            (try clear HB)
            generalize ((((((w29.setCell ⟨gb105, 0, none⟩ (.int .i64 ((rd_T108 l0_0 x21_2).f0))).setCell ⟨gb105, 1, none⟩ (.int .i64 ((rd_T108 l0_0 x21_2).f1))).setCell ⟨gb105, 2, none⟩ (.bool ((rd_T108 l0_0 x21_2).f2))).setCell ⟨gb105, 3, none⟩ (.bool ((rd_T108 l0_0 x21_2).f3))).setCell ⟨gb105, 4, none⟩ (.slice A104_4 ((rd_T108 l0_0 x21_2).f4).length c104_4)).setCell ⟨gb105, 5, none⟩ (.slice A104_5 ((rd_T108 l0_0 x21_2).f5).length c104_5)) = w32 at n0_ n1_ n2_ ⊢
            have BK101 := n0_
            have BK105 := n1_
            have HB := n2_
            clear n0_ n1_ n2_
            have n0_ := Aside0.mk (Zi BK101.out)
            have n1_ := Aside0.mk (Zi BK105.out)
            have n2_ := Aside0.mk (Zd HB.out)
            clear BK101
            clear BK105
            clear HB
            have BK101 := n0_
            have BK105 := n1_
            have HB := n2_
            clear n0_ n1_ n2_
            have p106 : 0 ≤ (a1 : Int) := of_decide_eq_true (by assumption)
            have q106 : a1 < (l0_0.length : Int) := of_decide_eq_true (by assumption)
            obtain ⟨ad106, A106_4, c106_4, A106_5, c106_5, e106, hx106_0, hx106_1, hx106_2, hx106_3, hx106_4, hx106_5, hl106_4, hi106_4, hl106_5, hi106_5⟩ := at_T108 HR0_0.out a1 p106 q106
            have hw106_5 := hx106_5
            have hw106_4 := hx106_4
            have hw106_3 := hx106_3
            have hw106_2 := hx106_2
            have hw106_1 := hx106_1
            have hw106_0 := hx106_0
            obtain rfl : ad104 = ad106 := (by injection e106)
            replace hx106_0 := (HB.out.cell (World.block_lt_of_cell? w _ hx106_0)).trans hx106_0
            replace hx106_1 := (HB.out.cell (World.block_lt_of_cell? w _ hx106_1)).trans hx106_1
            replace hx106_2 := (HB.out.cell (World.block_lt_of_cell? w _ hx106_2)).trans hx106_2
            replace hx106_3 := (HB.out.cell (World.block_lt_of_cell? w _ hx106_3)).trans hx106_3
            replace hx106_4 := (HB.out.cell (World.block_lt_of_cell? w _ hx106_4)).trans hx106_4
            replace hx106_5 := (HB.out.cell (World.block_lt_of_cell? w _ hx106_5)).trans hx106_5
            have HR106_4 := Aside0.mk hi106_4
            have HC106_4 := Aside0.mk hl106_4
            clear hi106_4 hl106_4
            have HR106_5 := Aside0.mk hi106_5
            have HC106_5 := Aside0.mk hl106_5
            clear hi106_5 hl106_5
            replace p106 := eq_true p106
            replace q106 := eq_true q106
            have p108 : 0 ≤ (a1 : Int) := of_decide_eq_true (by assumption)
            have q108 : a1 < (l0_0.length : Int) := of_decide_eq_true (by assumption)
            obtain ⟨ad108, A108_4, c108_4, A108_5, c108_5, e108, hx108_0, hx108_1, hx108_2, hx108_3, hx108_4, hx108_5, hl108_4, hi108_4, hl108_5, hi108_5⟩ := at_T108 HR0_0.out a1 p108 q108
            have hw108_5 := hx108_5
            have hw108_4 := hx108_4
            have hw108_3 := hx108_3
            have hw108_2 := hx108_2
            have hw108_1 := hx108_1
            have hw108_0 := hx108_0
            obtain rfl : ad104 = ad108 := (by injection e108)
            replace hx108_0 := (HB.out.cell (World.block_lt_of_cell? w _ hx108_0)).trans hx108_0
            replace hx108_1 := (HB.out.cell (World.block_lt_of_cell? w _ hx108_1)).trans hx108_1
            replace hx108_2 := (HB.out.cell (World.block_lt_of_cell? w _ hx108_2)).trans hx108_2
            replace hx108_3 := (HB.out.cell (World.block_lt_of_cell? w _ hx108_3)).trans hx108_3
            replace hx108_4 := (HB.out.cell (World.block_lt_of_cell? w _ hx108_4)).trans hx108_4
            replace hx108_5 := (HB.out.cell (World.block_lt_of_cell? w _ hx108_5)).trans hx108_5
            have HR108_4 := Aside0.mk hi108_4
            have HC108_4 := Aside0.mk hl108_4
            clear hi108_4 hl108_4
            have HR108_5 := Aside0.mk hi108_5
            have HC108_5 := Aside0.mk hl108_5
            clear hi108_5 hl108_5
            replace p108 := eq_true p108
            replace q108 := eq_true q108
            have ea_ := Option.some.inj (hx106_4.symm.trans hx108_4)
            injection ea_ with ea_ en_ ec_
            subst ea_
            subst ec_
            clear en_
            have ea_ := Option.some.inj (hx106_5.symm.trans hx108_5)
            injection ea_ with ea_ en_ ec_
            subst ea_
            subst ec_
            clear en_
            refine start_ (n := 17) (S := fun w' => w'.cell? ⟨gb101, 0, none⟩ = some (.slice (some ad104) l0_0.length c0_0) ∧ w'.cell? ⟨gb101, 1, none⟩ = some (.slice A0_1 l0_1.length c0_1) ∧ w'.cell? ⟨gb101, 2, none⟩ = some (.slice A0_2 l0_2.length c0_2) ∧ w'.cell? ⟨gb105, 0, none⟩ = some (.int .i64 ((rd_T108 l0_0 x21_2).f0)) ∧ w'.cell? ⟨gb105, 1, none⟩ = some (.int .i64 ((rd_T108 l0_0 x21_2).f1)) ∧ w'.cell? ⟨gb105, 2, none⟩ = some (.bool ((rd_T108 l0_0 x21_2).f2)) ∧ w'.cell? ⟨gb105, 3, none⟩ = some (.bool ((rd_T108 l0_0 x21_2).f3)) ∧ w'.cell? ⟨gb105, 4, none⟩ = some (.slice A104_4 ((rd_T108 l0_0 x21_2).f4).length c104_4) ∧ w'.cell? ⟨gb105, 5, none⟩ = some (.slice A104_5 ((rd_T108 l0_0 x21_2).f5).length c104_5) ∧ w'.cell? (ad104.add ((a1).toNat * 6)) = some (.int .i64 ((rd_T108 l0_0 a1).f0)) ∧ w'.cell? ⟨(ad104.add ((a1).toNat * 6)).block, (ad104.add ((a1).toNat * 6)).off + 1, none⟩ = some (.int .i64 ((rd_T108 l0_0 a1).f1)) ∧ w'.cell? ⟨(ad104.add ((a1).toNat * 6)).block, (ad104.add ((a1).toNat * 6)).off + 2, none⟩ = some (.bool ((rd_T108 l0_0 a1).f2)) ∧ w'.cell? ⟨(ad104.add ((a1).toNat * 6)).block, (ad104.add ((a1).toNat * 6)).off + 3, none⟩ = some (.bool ((rd_T108 l0_0 a1).f3)) ∧ w'.cell? ⟨(ad104.add ((a1).toNat * 6)).block, (ad104.add ((a1).toNat * 6)).off + 4, none⟩ = some (.slice A106_4 ((rd_T108 l0_0 a1).f4).length c106_4) ∧ w'.cell? ⟨(ad104.add ((a1).toNat * 6)).block, (ad104.add ((a1).toNat * 6)).off + 5, none⟩ = some (.slice A106_5 ((rd_T108 l0_0 a1).f5).length c106_5) ∧ w'.cell? (ad104.add ((a1).toNat * 6)) = some (.int .i64 ((rd_T108 l0_0 a1).f0)) ∧ w'.cell? ⟨(ad104.add ((a1).toNat * 6)).block, (ad104.add ((a1).toNat * 6)).off + 1, none⟩ = some (.int .i64 ((rd_T108 l0_0 a1).f1)) ∧ w'.cell? ⟨(ad104.add ((a1).toNat * 6)).block, (ad104.add ((a1).toNat * 6)).off + 2, none⟩ = some (.bool ((rd_T108 l0_0 a1).f2)) ∧ w'.cell? ⟨(ad104.add ((a1).toNat * 6)).block, (ad104.add ((a1).toNat * 6)).off + 3, none⟩ = some (.bool ((rd_T108 l0_0 a1).f3)) ∧ w'.cell? ⟨(ad104.add ((a1).toNat * 6)).block, (ad104.add ((a1).toNat * 6)).off + 4, none⟩ = some (.slice A106_4 ((rd_T108 l0_0 a1).f4).length c106_4) ∧ w'.cell? ⟨(ad104.add ((a1).toNat * 6)).block, (ad104.add ((a1).toNat * 6)).off + 5, none⟩ = some (.slice A106_5 ((rd_T108 l0_0 a1).f5).length c106_5)) (ds := []) #[false, false, false, false, false, false, false, false, false, false, false, false, false, false, false, false, false] (by kernel_rfl) rfl rfl ⟨(Zb BK101.out 0).trans rfl, (Zb BK101.out 1).trans rfl, (Zb BK101.out 2).trans rfl, (Zb BK105.out 0).trans rfl, (Zb BK105.out 1).trans rfl, (Zb BK105.out 2).trans rfl, (Zb BK105.out 3).trans rfl, (Zb BK105.out 4).trans rfl, (Zb BK105.out 5).trans rfl, ((HB.out.cell (World.block_lt_of_cell? w _ hw106_0)).trans hw106_0), ((HB.out.cell (World.block_lt_of_cell? w _ hw106_1)).trans hw106_1), ((HB.out.cell (World.block_lt_of_cell? w _ hw106_2)).trans hw106_2), ((HB.out.cell (World.block_lt_of_cell? w _ hw106_3)).trans hw106_3), ((HB.out.cell (World.block_lt_of_cell? w _ hw106_4)).trans hw106_4), ((HB.out.cell (World.block_lt_of_cell? w _ hw106_5)).trans hw106_5), ((HB.out.cell (World.block_lt_of_cell? w _ hw108_0)).trans hw108_0), ((HB.out.cell (World.block_lt_of_cell? w _ hw108_1)).trans hw108_1), ((HB.out.cell (World.block_lt_of_cell? w _ hw108_2)).trans hw108_2), ((HB.out.cell (World.block_lt_of_cell? w _ hw108_3)).trans hw108_3), ((HB.out.cell (World.block_lt_of_cell? w _ hw108_4)).trans hw108_4), ((HB.out.cell (World.block_lt_of_cell? w _ hw108_5)).trans hw108_5)⟩ (fun hHeld => ?_); refine with_tabW spec_MayLead.tab7 spec_MayLead.bits7 (fun HT_ HW_ => ?_)
            generalize w32.drew = w33 at BK101 BK105 HB HR106_4 HR106_5 HR108_4 HR108_5 hx106_0 hx106_1 hx106_2 hx106_3 hx106_4 hx106_5 hx108_0 hx108_1 hx108_2 hx108_3 hx108_4 hx108_5 hHeld ⊢
            refine Zr (i := 0) (N := some 25) (v := ?_) (a' := ?_) #[true, false, false, false, false, false, false, false, false, false, false, false, false, false, false, false, false] rfl rfl (Zo HT_.out (by kernel_rfl)) (fun _ _ _ h => h) (Or.inl ⟨by rfl, ?_⟩) ?_ ?_
            rotate_left
            ·intro w'
             go_simp
             with_reducible rfl
            rotate_left
            ·simp only [Act.put, List.setIfInBounds_toArray, List.set_cons_zero, List.set_cons_succ, Zm, Zn]
             rfl
            refine Zr (i := 2) (N := some 27) (v := ?_) (a' := ?_) #[true, false, true, false, false, false, false, false, false, false, false, false, false, false, false, false, false] rfl rfl (Zo HT_.out (by kernel_rfl)) (fun _ _ _ h => h) (Or.inl ⟨by rfl, ?_⟩) ?_ ?_
            rotate_left
            ·intro w'
             go_simp
             with_reducible rfl
            rotate_left
            ·simp only [Act.put, List.setIfInBounds_toArray, List.set_cons_zero, List.set_cons_succ, Zm, Zn]
             rfl
            refine Zr (i := 7) (N := some 32) (v := ?_) (a' := ?_) #[true, false, true, false, false, false, false, true, false, false, false, false, false, false, false, false, false] rfl rfl (Zo HT_.out (by kernel_rfl)) (fun _ _ _ h => h) (Or.inl ⟨by rfl, ?_⟩) ?_ ?_
            rotate_left
            ·intro w'
             go_simp
             with_reducible rfl
            rotate_left
            ·simp only [Act.put, List.setIfInBounds_toArray, List.set_cons_zero, List.set_cons_succ, Zm, Zn]
             rfl
            refine Zr (i := 9) (N := some 34) (v := ?_) (a' := ?_) #[true, false, true, false, false, false, false, true, false, true, false, false, false, false, false, false, false] rfl rfl (Zo HT_.out (by kernel_rfl)) (fun _ _ _ h => h) (Or.inl ⟨by rfl, ?_⟩) ?_ ?_
            rotate_left
            ·intro w'
             go_simp
             with_reducible rfl
            rotate_left
            ·simp only [Act.put, List.setIfInBounds_toArray, List.set_cons_zero, List.set_cons_succ, Zm, Zn]
             rfl
            refine Zr (i := 14) (N := some 39) (v := ?_) (a' := ?_) #[true, false, true, false, false, false, false, true, false, true, false, false, false, false, true, false, false] rfl rfl (Zo HT_.out (by kernel_rfl)) (fun _ _ _ h => h) (Or.inl ⟨by rfl, ?_⟩) ?_ ?_
            rotate_left
            ·intro w'
             go_simp
             with_reducible rfl
            rotate_left
            ·simp only [Act.put, List.setIfInBounds_toArray, List.set_cons_zero, List.set_cons_succ, Zm, Zn]
             rfl
            refine take_ (i := 1) (N := some 26) (v := ?_) (a' := ?_) #[true, true, true, false, false, false, false, true, false, true, false, false, false, false, true, false, false] rfl rfl (Zx HT_.out HW_.out (by kernel_rfl)) (fun _ _ _ h => h) (Or.inl ⟨by rfl, ?_⟩) hHeld ?_ ?_
            rotate_left
            ·rintro w' ⟨s0, s1, s2, s3, s4, s5, s6, s7, s8, s9, s10, s11, s12, s13, s14, s15, s16, s17, s18, s19, s20⟩
             go_simp
             with_reducible rfl
            rotate_left
            ·simp only [Act.put, List.setIfInBounds_toArray, List.set_cons_zero, List.set_cons_succ, Zm, Zn]
             rfl
            refine Zr (i := 3) (N := some 28) (v := ?_) (a' := ?_) #[true, true, true, true, false, false, false, true, false, true, false, false, false, false, true, false, false] rfl rfl (Zo HT_.out (by kernel_rfl)) (fun _ _ _ h => h) (Or.inl ⟨by rfl, ?_⟩) ?_ ?_
            rotate_left
            ·intro w'
             go_simp
             with_reducible rfl
            rotate_left
            ·simp only [Act.put, List.setIfInBounds_toArray, List.set_cons_zero, List.set_cons_succ, Zm, Zn]
             rfl
            refine Zr (i := 4) (N := some 29) (v := ?_) (a' := ?_) #[true, true, true, true, true, false, false, true, false, true, false, false, false, false, true, false, false] rfl rfl (Zo HT_.out (by kernel_rfl)) (fun _ _ _ h => h) (Or.inl ⟨by rfl, ?_⟩) ?_ ?_
            rotate_left
            ·intro w'
             go_simp
             with_reducible rfl
            rotate_left
            ·simp only [Act.put, List.setIfInBounds_toArray, List.set_cons_zero, List.set_cons_succ, Zm, Zn]
             rfl
            refine take_ (i := 5) (N := some 30) (v := ?_) (a' := ?_) #[true, true, true, true, true, true, false, true, false, true, false, false, false, false, true, false, false] rfl rfl (Zx HT_.out HW_.out (by kernel_rfl)) (fun _ _ _ h => h) (Or.inl ⟨by rfl, ?_⟩) hHeld ?_ ?_
            rotate_left
            ·rintro w' ⟨s0, s1, s2, s3, s4, s5, s6, s7, s8, s9, s10, s11, s12, s13, s14, s15, s16, s17, s18, s19, s20⟩
             go_simp
             with_reducible rfl
            rotate_left
            ·simp only [Act.put, List.setIfInBounds_toArray, List.set_cons_zero, List.set_cons_succ, Zm, Zn]
             rfl
            refine take_ (i := 8) (N := some 33) (v := ?_) (a' := ?_) #[true, true, true, true, true, true, false, true, true, true, false, false, false, false, true, false, false] rfl rfl (Zx HT_.out HW_.out (by kernel_rfl)) (fun _ _ _ h => h) (Or.inl ⟨by rfl, ?_⟩) hHeld ?_ ?_
            rotate_left
            ·rintro w' ⟨s0, s1, s2, s3, s4, s5, s6, s7, s8, s9, s10, s11, s12, s13, s14, s15, s16, s17, s18, s19, s20⟩
             go_simp
             with_reducible rfl
            rotate_left
            ·simp only [Act.put, List.setIfInBounds_toArray, List.set_cons_zero, List.set_cons_succ, Zm, Zn]
             rfl
            refine Zr (i := 10) (N := some 35) (v := ?_) (a' := ?_) #[true, true, true, true, true, true, false, true, true, true, true, false, false, false, true, false, false] rfl rfl (Zo HT_.out (by kernel_rfl)) (fun _ _ _ h => h) (Or.inl ⟨by rfl, ?_⟩) ?_ ?_
            rotate_left
            ·intro w'
             go_simp
             with_reducible rfl
            rotate_left
            ·simp only [Act.put, List.setIfInBounds_toArray, List.set_cons_zero, List.set_cons_succ, Zm, Zn]
             rfl
            refine Zr (i := 11) (N := some 36) (v := ?_) (a' := ?_) #[true, true, true, true, true, true, false, true, true, true, true, true, false, false, true, false, false] rfl rfl (Zo HT_.out (by kernel_rfl)) (fun _ _ _ h => h) (Or.inl ⟨by rfl, ?_⟩) ?_ ?_
            rotate_left
            ·intro w'
             go_simp
             with_reducible rfl
            rotate_left
            ·simp only [Act.put, List.setIfInBounds_toArray, List.set_cons_zero, List.set_cons_succ, Zm, Zn]
             rfl
            refine take_ (i := 12) (N := some 37) (v := ?_) (a' := ?_) #[true, true, true, true, true, true, false, true, true, true, true, true, true, false, true, false, false] rfl rfl (Zx HT_.out HW_.out (by kernel_rfl)) (fun _ _ _ h => h) (Or.inl ⟨by rfl, ?_⟩) hHeld ?_ ?_
            rotate_left
            ·rintro w' ⟨s0, s1, s2, s3, s4, s5, s6, s7, s8, s9, s10, s11, s12, s13, s14, s15, s16, s17, s18, s19, s20⟩
             go_simp
             with_reducible rfl
            rotate_left
            ·simp only [Act.put, List.setIfInBounds_toArray, List.set_cons_zero, List.set_cons_succ, Zm, Zn]
             rfl
            refine Zr (i := 13) (N := some 38) (v := ?_) (a' := ?_) #[true, true, true, true, true, true, false, true, true, true, true, true, true, true, true, false, false] rfl rfl (Zo HT_.out (by kernel_rfl)) (fun _ _ _ h => h) (Or.inl ⟨by rfl, ?_⟩) ?_ ?_
            rotate_left
            ·intro w'
             go_simp
             with_reducible rfl
            rotate_left
            ·simp only [Act.put, List.setIfInBounds_toArray, List.set_cons_zero, List.set_cons_succ, Zm, Zn]
             rfl
            refine take_ (i := 15) (N := some 40) (v := ?_) (a' := ?_) #[true, true, true, true, true, true, false, true, true, true, true, true, true, true, true, true, false] rfl rfl (Zx HT_.out HW_.out (by kernel_rfl)) (fun _ _ _ h => h) (Or.inl ⟨by rfl, ?_⟩) hHeld ?_ ?_
            rotate_left
            ·rintro w' ⟨s0, s1, s2, s3, s4, s5, s6, s7, s8, s9, s10, s11, s12, s13, s14, s15, s16, s17, s18, s19, s20⟩
             go_simp
             with_reducible rfl
            rotate_left
            ·simp only [Act.put, List.setIfInBounds_toArray, List.set_cons_zero, List.set_cons_succ, Zm, Zn]
             rfl
            refine one_ (i := 6) (N := some 31) #[true, true, true, true, true, true, true, true, true, true, true, true, true, true, true, true, false] rfl rfl (one_of HT_.out (by kernel_rfl)) (by decide) (fun K hK => ?_)
            refine goes_ Try.func62 (by kernel_rfl) rfl #[.slice A106_5 ((rd_T108 l0_0 a1).f5).length c106_5] (by rfl) rfl rfl (by (try simp only [List.map_toArray, List.map_cons, List.map_nil]); first | done | rfl | (simp only [List.length_drop, List.length_take]; rfl)) ?_
            with_reducible refine (spec_l9Last.calls _ _ ((rd_T108 l0_0 a1).f5) t107 _ ?side1 ?side2 A21.out).mono ?_
            (case side1 => repeat (first | exact (Kd.C_below HR106_5.out HB.out) | (with_reducible refine Kd.C_alloc ?_ _) | (with_reducible refine Kd.C_drewN ?_ _) | (with_reducible refine Kd.C_drew ?_)))
            (case side2 => exact HC106_5.out)
            rintro e w' ⟨rfl, ⟨nd, rfl⟩⟩
            refine ⟨_, rfl, ?_⟩
            refine hK.out _ _ ⟨(Zb BK101.out 0).trans rfl, (Zb BK101.out 1).trans rfl, (Zb BK101.out 2).trans rfl, (Zb BK105.out 0).trans rfl, (Zb BK105.out 1).trans rfl, (Zb BK105.out 2).trans rfl, (Zb BK105.out 3).trans rfl, (Zb BK105.out 4).trans rfl, (Zb BK105.out 5).trans rfl, ((HB.out.cell (World.block_lt_of_cell? w _ hw106_0)).trans hw106_0), ((HB.out.cell (World.block_lt_of_cell? w _ hw106_1)).trans hw106_1), ((HB.out.cell (World.block_lt_of_cell? w _ hw106_2)).trans hw106_2), ((HB.out.cell (World.block_lt_of_cell? w _ hw106_3)).trans hw106_3), ((HB.out.cell (World.block_lt_of_cell? w _ hw106_4)).trans hw106_4), ((HB.out.cell (World.block_lt_of_cell? w _ hw106_5)).trans hw106_5), ((HB.out.cell (World.block_lt_of_cell? w _ hw108_0)).trans hw108_0), ((HB.out.cell (World.block_lt_of_cell? w _ hw108_1)).trans hw108_1), ((HB.out.cell (World.block_lt_of_cell? w _ hw108_2)).trans hw108_2), ((HB.out.cell (World.block_lt_of_cell? w _ hw108_3)).trans hw108_3), ((HB.out.cell (World.block_lt_of_cell? w _ hw108_4)).trans hw108_4), ((HB.out.cell (World.block_lt_of_cell? w _ hw108_5)).trans hw108_5)⟩ (fun hHeld => ?_)
            clear hK K
            refine norm_ (a' := ?_) ?_ ?_
            rotate_left
            ·show Act.put _ (some 31) _ = _
             simp only [Act.put, List.setIfInBounds_toArray, List.set_cons_zero, List.set_cons_succ, Zm, Zn]
             rfl
            refine one_ (i := 16) (N := some 41) #[true, true, true, true, true, true, true, true, true, true, true, true, true, true, true, true, true] rfl rfl (one_of HT_.out (by kernel_rfl)) (by decide) (fun K hK => ?_)
            refine goes_ Try.func61 (by kernel_rfl) rfl #[.int .i64 t107, .int .i64 (((rd_T108 l0_0 a1).f5).length : Int), .slice A104_5 ((rd_T108 l0_0 x21_2).f5).length c104_5] (by rfl) rfl rfl (by (try simp only [List.map_toArray, List.map_cons, List.map_nil]); first | done | rfl | (simp only [List.length_drop, List.length_take]; rfl)) ?_
            with_reducible refine (spec_l9Up.calls t107 (((rd_T108 l0_0 a1).f5).length : Int) _ _ ((rd_T108 l0_0 x21_2).f5) false _ ?side1 ?side2 A22.out).mono ?_
            (case side1 => repeat (first | exact (Kd.C_below HR104_5.out (by repeat (first | (with_reducible first | exact HB.out | apply Ze | apply Za | apply Zd | refine Zf ?_ GE101.out | refine Zf ?_ GE105.out) | exact HB.out))) | (with_reducible refine Kd.C_alloc ?_ _) | (with_reducible refine Kd.C_drewN ?_ _) | (with_reducible refine Kd.C_drew ?_)))
            (case side2 => exact HC104_5.out)
            rintro e w' ⟨rfl, ⟨nd, rfl⟩⟩
            refine ⟨_, rfl, ?_⟩
            refine hK.out _ _ ⟨(Zb BK101.out 0).trans rfl, (Zb BK101.out 1).trans rfl, (Zb BK101.out 2).trans rfl, (Zb BK105.out 0).trans rfl, (Zb BK105.out 1).trans rfl, (Zb BK105.out 2).trans rfl, (Zb BK105.out 3).trans rfl, (Zb BK105.out 4).trans rfl, (Zb BK105.out 5).trans rfl, ((HB.out.cell (World.block_lt_of_cell? w _ hw106_0)).trans hw106_0), ((HB.out.cell (World.block_lt_of_cell? w _ hw106_1)).trans hw106_1), ((HB.out.cell (World.block_lt_of_cell? w _ hw106_2)).trans hw106_2), ((HB.out.cell (World.block_lt_of_cell? w _ hw106_3)).trans hw106_3), ((HB.out.cell (World.block_lt_of_cell? w _ hw106_4)).trans hw106_4), ((HB.out.cell (World.block_lt_of_cell? w _ hw106_5)).trans hw106_5), ((HB.out.cell (World.block_lt_of_cell? w _ hw108_0)).trans hw108_0), ((HB.out.cell (World.block_lt_of_cell? w _ hw108_1)).trans hw108_1), ((HB.out.cell (World.block_lt_of_cell? w _ hw108_2)).trans hw108_2), ((HB.out.cell (World.block_lt_of_cell? w _ hw108_3)).trans hw108_3), ((HB.out.cell (World.block_lt_of_cell? w _ hw108_4)).trans hw108_4), ((HB.out.cell (World.block_lt_of_cell? w _ hw108_5)).trans hw108_5)⟩ (fun hHeld => ?_)
            clear hK K
            refine norm_ (a' := ?_) ?_ ?_
            rotate_left
            ·show Act.put _ (some 41) _ = _
             simp only [Act.put, List.setIfInBounds_toArray, List.set_cons_zero, List.set_cons_succ, Zm, Zn]
             rfl
            refine done_ (done_of HT_.out (by kernel_rfl)) ?_
            try go_wp2
            go_roundg k2
            case measure => have := HJ2.out; have := HK2.out; omega
            case rel => exact ⟨(x6_2), (wrap64 (x21_2 + 1)), (by first | rfl | (simp; done) | (simp [*]; done)), (by first | rfl | (simp; done) | (simp [*]; done)), H', ⟨by have := HJ2.out; have := HK2.out; omega⟩, ⟨by (with_reducible repeat (first | refine Zg ?_ _ | refine Zi ?_ | refine Zh ?_ _)); exact BK101.out⟩, ⟨by repeat (first | (with_reducible first | exact HB.out | apply Ze | apply Za | apply Zd | refine Zf ?_ GE101.out | refine Zf ?_ GE105.out) | exact HB.out)⟩⟩
          ·rw [if_neg c20] at H
           exact absurd H (by simp)
         ·rw [if_neg c19] at H
          exact absurd H (by simp)
        ·rw [if_neg c18] at H
         exact absurd H (by simp)
       ·rw [if_neg c17] at H
        exact absurd H (by simp)
      ·rw [if_neg c16] at H
       have c16b0 : decide (x21_2 < (l0_0.length : Int)) = false := decide_eq_false c16
       clear c16
       simp only [Option.some.injEq, Prod.mk.injEq] at H
       obtain ⟨rfl, rfl⟩ := H
       have hcz34_0 : wr.cell? ⟨gb101, 0, none⟩ = some (.slice A0_0 l0_0.length c0_0) := (Zb BK101.out 0).trans rfl
       have hcz34_1 : wr.cell? ⟨gb101, 1, none⟩ = some (.slice A0_1 l0_1.length c0_1) := (Zb BK101.out 1).trans rfl
       have hcz34_2 : wr.cell? ⟨gb101, 2, none⟩ = some (.slice A0_2 l0_2.length c0_2) := (Zb BK101.out 2).trans rfl
       have hfz34_0 := Zc BK101.out 0
       have hfz34_1 := Zc BK101.out 1
       have hfz34_2 := Zc BK101.out 2
       go_wp2
       go_ret2
       exact ⟨by first | rfl | (simp [errW_none, errW_some] <;> rfl) | (simp [*, errW_none, errW_some] <;> rfl), by repeat (first | (with_reducible first | exact HB.out | apply Ze | apply Za | apply Zd | refine Zf ?_ GE101.out) | exact HB.out)⟩
end Go.Proofs.Ytomdjipejoafgaa.P
end
