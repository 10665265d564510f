-- Written by programs of this session (wip/prune.py, wip/xp.py), out of the translation and the printed words; what the law does not reach is left out. Not trusted: Lean checks it.
import Derived.Test.YtomdjipejoafgaaZXMayLeadPx0
import Derived.Test.YtomdjipejoafgaaZXMayLeadPx1
import Derived.Test.YtomdjipejoafgaaZXMayLeadPx12
import Derived.Test.YtomdjipejoafgaaZXMayLeadPx22
section
namespace Go.Proofs.Ytomdjipejoafgaa.P
open Go.RowKit Go.Proofs.YtomdjipejoafgaaW.PrintWords Go.Proofs.YtomdjipejoafgaaW.PrintLast Go.Proofs.YtomdjipejoafgaaW.PrintMore
attribute [local go_sem] max2_int min2_int max_two min_two max_three min_three max_four min_four   -- for this text's walks alone
set_option linter.unusedVariables false
set_option linter.unusedSimpArgs false
mutual
def impl_isElection.j0 : Nat → Bool → List (S108) → List (S111) → List (S114) → Int → Option (Bool)
 | 0, _, _, _, _, _ => none
 | k + 1, x25, x102000, x102001, x102002, x103000 => if x25 = true then (some false) else (impl_isElection.l0 k x102000 (x102000.length : Int) 0 x102000 x102001 x102002 x103000)
def impl_isElection.l0 : Nat → List (S108) → Int → Int → List (S108) → List (S111) → List (S114) → Int → Option (Bool)
 | 0, _, _, _, _, _, _, _ => none
 | k + 1, x27, x28, x29, x102000, x102001, x102002, x103000 => if x29 < x28 then (if 0 ≤ x29 then (if x29 < (x27.length : Int) then ((impl_in.f ((rd_T108 x27 x29).f0) 0 100).bind fun t106 => (if t106 = true then ((impl_in.f ((rd_T108 x27 x29).f1) (-1) (wrap64 (x103000 - 1))).bind fun t107 => (if t107 = true then (if (rd_T108 x27 x29).f2 = true then (if (rd_T108 x27 x29).f3 = true then (some false) else ((impl_areMembers.f k ((rd_T108 x27 x29).f4) x103000).bind fun t108 => (if t108 = true then (if ((rd_T108 x27 x29).f2 = true) then ((impl_areEntries.f k ((rd_T108 x27 x29).f5)).bind fun t109 => (if t109 = true then (impl_isElection.l0 k x27 x28 (wrap64 (x29 + 1)) x102000 x102001 x102002 x103000) else (some false))) else (if ((rd_T108 x27 x29).f3 = true) then ((impl_areEntries.f k ((rd_T108 x27 x29).f5)).bind fun t110 => (if t110 = true then (impl_isElection.l0 k x27 x28 (wrap64 (x29 + 1)) x102000 x102001 x102002 x103000) else (some false))) else (if (((rd_T108 x27 x29).f4).length : Int) > 0 then (some false) else ((impl_areEntries.f k ((rd_T108 x27 x29).f5)).bind fun t111 => (if t111 = true then (impl_isElection.l0 k x27 x28 (wrap64 (x29 + 1)) x102000 x102001 x102002 x103000) else (some false)))))) else (some false)))) else ((impl_areMembers.f k ((rd_T108 x27 x29).f4) x103000).bind fun t112 => (if t112 = true then (if ((rd_T108 x27 x29).f2 = true) then ((impl_areEntries.f k ((rd_T108 x27 x29).f5)).bind fun t113 => (if t113 = true then (impl_isElection.l0 k x27 x28 (wrap64 (x29 + 1)) x102000 x102001 x102002 x103000) else (some false))) else (if ((rd_T108 x27 x29).f3 = true) then ((impl_areEntries.f k ((rd_T108 x27 x29).f5)).bind fun t114 => (if t114 = true then (impl_isElection.l0 k x27 x28 (wrap64 (x29 + 1)) x102000 x102001 x102002 x103000) else (some false))) else (if (((rd_T108 x27 x29).f4).length : Int) > 0 then (some false) else ((impl_areEntries.f k ((rd_T108 x27 x29).f5)).bind fun t115 => (if t115 = true then (impl_isElection.l0 k x27 x28 (wrap64 (x29 + 1)) x102000 x102001 x102002 x103000) else (some false)))))) else (some false)))) else (some false))) else (some false))) else (none)) else (none)) else (impl_isElection.l1 k x102001 (x102001.length : Int) 0 x102000 x102001 x102002 x103000)
def impl_isElection.l1 : Nat → List (S111) → Int → Int → List (S108) → List (S111) → List (S114) → Int → Option (Bool)
 | 0, _, _, _, _, _, _, _ => none
 | k + 1, x84, x85, x86, x102000, x102001, x102002, x103000 => if x86 < x85 then (if 0 ≤ x86 then (if x86 < (x84.length : Int) then ((impl_in.f ((rd_T111 x84 x86).f0) 0 (wrap64 (x103000 - 1))).bind fun t119 => (if t119 = true then ((impl_in.f ((rd_T111 x84 x86).f1) 0 (wrap64 (x103000 - 1))).bind fun t120 => (if t120 = true then (if ((rd_T111 x84 x86).f0) = ((rd_T111 x84 x86).f1) then (impl_isElection.j3 k x84 x85 x86 true x102000 x102001 x102002 x103000 ((rd_T111 x84 x86).f0) ((rd_T111 x84 x86).f1) ((rd_T111 x84 x86).f2) ((rd_T111 x84 x86).f3) ((rd_T111 x84 x86).f4) ((rd_T111 x84 x86).f5) ((rd_T111 x84 x86).f6)) else (if 0 ≤ ((rd_T111 x84 x86).f1) then (if ((rd_T111 x84 x86).f1) < (x102000.length : Int) then ((impl_in.f ((rd_T111 x84 x86).f2) 0 ((rd_T108 x102000 ((rd_T111 x84 x86).f1)).f0)).bind fun t122 => (impl_isElection.j3 k x84 x85 x86 (!t122) x102000 x102001 x102002 x103000 ((rd_T111 x84 x86).f0) ((rd_T111 x84 x86).f1) ((rd_T111 x84 x86).f2) ((rd_T111 x84 x86).f3) ((rd_T111 x84 x86).f4) ((rd_T111 x84 x86).f5) ((rd_T111 x84 x86).f6))) else (none)) else (none))) else (impl_isElection.j3 k x84 x85 x86 true x102000 x102001 x102002 x103000 ((rd_T111 x84 x86).f0) ((rd_T111 x84 x86).f1) ((rd_T111 x84 x86).f2) ((rd_T111 x84 x86).f3) ((rd_T111 x84 x86).f4) ((rd_T111 x84 x86).f5) ((rd_T111 x84 x86).f6)))) else (impl_isElection.j3 k x84 x85 x86 true x102000 x102001 x102002 x103000 ((rd_T111 x84 x86).f0) ((rd_T111 x84 x86).f1) ((rd_T111 x84 x86).f2) ((rd_T111 x84 x86).f3) ((rd_T111 x84 x86).f4) ((rd_T111 x84 x86).f5) ((rd_T111 x84 x86).f6)))) else (none)) else (none)) else ((impl_Vote_of_impl_isElection_1.f k x102002 x103000).bind fun t116 => (some (!t116)))
def impl_isElection.j3 : Nat → List (S111) → Int → Int → Bool → List (S108) → List (S111) → List (S114) → Int → Int → Int → Int → Bool → Int → Int → Bool → Option (Bool)
 | 0, _, _, _, _, _, _, _, _, _, _, _, _, _, _, _ => none
 | k + 1, x84, x85, x86, x123, x102000, x102001, x102002, x103000, x119000, x119001, x119002, x119003, x119004, x119005, x119006 => if x123 = true then (some false) else (if x119003 = true then (if x119006 = true then (some false) else ((impl_in.f x119004 (-1) 100).bind fun t123 => (if t123 = true then ((impl_in.f x119005 0 30).bind fun t124 => (if t124 = true then (impl_isElection.l1 k x84 x85 (wrap64 (x86 + 1)) x102000 x102001 x102002 x103000) else (some false))) else (some false)))) else (if x119004 = 0 then (if x119005 = 0 then (impl_isElection.l1 k x84 x85 (wrap64 (x86 + 1)) x102000 x102001 x102002 x103000) else (some false)) else (some false)))
end
def impl_isElection.f (k : Nat) (l0_0 : List (S108)) (l0_1 : List (S111)) (l0_2 : List (S114)) : Option (Bool) := (impl_in.f (l0_0.length : Int) 1 5).bind fun t103 => (if t103 = true then (if (l0_1.length : Int) > 20 then (impl_isElection.j0 k true l0_0 l0_1 l0_2 (l0_0.length : Int)) else (impl_isElection.j0 k (decide ((l0_2.length : Int) > 80)) l0_0 l0_1 l0_2 (l0_0.length : Int))) else (impl_isElection.j0 k true l0_0 l0_1 l0_2 (l0_0.length : Int)))
def impl_isElection.T13 : Bool × List (List Nat × List Nat) := (true, [([], []), ([0], [0]), ([], []), ([2], [2]), ([1, 3], [1, 3]), ([4], [4]), ([5, 4], [5]), ([6], [6]), ([7, 6], [6, 7]), ([6], [6]), ([9, 6], [6, 9]), ([8, 10, 6, 6], [6, 8, 10]), ([11, 6], [6, 11]), ([6, 12], [6, 12]), ([13, 11], [13]), ([14], [14]), ([15, 14], [14, 15]), ([14], [14]), ([17, 14], [14, 17]), ([16, 18, 14], [14, 16, 18]), ([14, 19], [14, 19]), ([20, 14], [20]), ([21], [21]), ([22, 21], [21, 22]), ([21], [21]), ([24, 21], [21, 24]), ([21], [21]), ([26, 21], [21, 26]), ([25, 27, 21], [21, 25, 27]), ([28, 21], [21, 28]), ([29, 21], [21, 29]), ([23, 30, 21, 21], [21, 23, 30]), ([31, 21], [21, 31]), ([21, 32], [21, 32])])
def impl_isElection.B13 : List Nat := [0, 1, 0, 4, 15, 31, 63, 127, 255, 127, 639, 2047, 4095, 8191, 16383, 32767, 65535, 32767, 163839, 524287, 1048575, 2097151, 4194303, 8388607, 4194303, 20971519, 4194303, 71303167, 255852543, 524287999, 1061158911, 2147483647, 4294967295, 8589934591]
theorem impl_isElection.tab13 : rtab .any (opsOf Try.f88 13) = impl_isElection.T13 := by kernel_rfl
theorem impl_isElection.bits13 : waitsOk impl_isElection.T13.2 impl_isElection.B13 = true := by kernel_rfl
set_option maxHeartbeats 8000000 in
set_option maxRecDepth 100000 in
theorem impl_isElection.calls (k : Nat) (A0_0 : Option Addr) (c0_0 : Nat) (l0_0 : List (S108)) (A0_1 : Option Addr) (c0_1 : Nat) (l0_1 : List (S111)) (A0_2 : Option Addr) (c0_2 : Nat) (l0_2 : List (S114)) (r : Bool) (w : World) (hr0_0 : Kd.C k108 w A0_0 l0_0.length l0_0) (hc0_0 : l0_0.length ≤ c0_0) (hr0_1 : Kd.C k111 w A0_1 l0_1.length l0_1) (hc0_1 : l0_1.length ≤ c0_1) (hr0_2 : Kd.C k114 w A0_2 l0_2.length l0_2) (hc0_2 : l0_2.length ≤ c0_2) (h : impl_isElection.f k l0_0 l0_1 l0_2 = some r) :
  Calls Try.prog 88 #[.agg #[.slice A0_0 l0_0.length c0_0, .slice A0_1 l0_1.length c0_1, .slice A0_2 l0_2.length c0_2]] w fun e w' => e = .returned (.bool r) ∧ Below w.heap.size w w' := by
 have hu54 := Try.underlying54
 have hu3 := Try.underlying3
 have hu108 := Try.underlying108
 have hu111 := Try.underlying111
 have HR0_0 := Aside0.mk hr0_0
 have HC0_0 := Aside0.mk hc0_0
 clear hr0_0 hc0_0
 have HR0_1 := Aside0.mk hr0_1
 have HC0_1 := Aside0.mk hc0_1
 clear hr0_1 hc0_1
 have HR0_2 := Aside0.mk hr0_2
 have HC0_2 := Aside0.mk hc0_2
 clear hr0_2 hc0_2
 have HB := Aside0.mk (Below.refl w.heap.size w)
 have H : ((impl_in.f (l0_0.length : Int) 1 5).bind fun t103 => (if t103 = true then (if (l0_1.length : Int) > 20 then (impl_isElection.j0 k true l0_0 l0_1 l0_2 (l0_0.length : Int)) else (impl_isElection.j0 k (decide ((l0_2.length : Int) > 80)) l0_0 l0_1 l0_2 (l0_0.length : Int))) else (impl_isElection.j0 k true l0_0 l0_1 l0_2 (l0_0.length : Int)))) = some r := h
 clear h
 have HC2 := Aside0.mk H
 clear H
 go_enter Try.func88, Try.ntmps88
 go_upto_region 2 with (first | ((with_reducible refine Zt (N := 1) rfl ?_); (try (refine Zy (by rfl) ?_; dsimp only)); refine Zs ?hg (N := 1) ?hd (cs := #[.slice A0_0 l0_0.length c0_0, .slice A0_1 l0_1.length c0_1, .slice A0_2 l0_2.length c0_2]) (t := 54) ?hr ?_; (case hd => rfl); (case hg => rfl); (case hr => first | (go_simp; done) | (go_simp; rfl)); intro gb101 hg w3 hbox hb; have n0_ := Aside0.mk (Zk (by repeat (first | (with_reducible first | exact HB.out | apply Ze | apply Za | apply Zd) | exact HB.out)) hb); have n1_ := Aside0.mk (hbox); have n2_ := Aside0.mk ((by rw [hg]; exact (Zj (by repeat (first | (with_reducible first | exact HB.out | apply Ze | apply Za | apply Zd) | exact HB.out))) : w.heap.size ≤ gb101)); have n3_ := n2_; clear HB; have HB := n0_; have BK101 := n1_; have GW101 := n2_; have GE101 := n3_; clear n0_ n1_ n2_ n3_; clear hb hbox hg; have hcz4_0 : w3.cell? ⟨gb101, 0, none⟩ = some (.slice A0_0 l0_0.length c0_0) := (Zb BK101.out 0).trans rfl; have hcz4_1 : w3.cell? ⟨gb101, 1, none⟩ = some (.slice A0_1 l0_1.length c0_1) := (Zb BK101.out 1).trans rfl; have hcz4_2 : w3.cell? ⟨gb101, 2, none⟩ = some (.slice A0_2 l0_2.length c0_2) := (Zb BK101.out 2).trans rfl; have hfz4_0 := Zc BK101.out 0; have hfz4_1 := Zc BK101.out 1; have hfz4_2 := Zc BK101.out 2) | ((with_reducible refine Zt (N := 3) rfl ?_); (try (refine Zy (by rfl) ?_; dsimp only)); refine Zs ?hg (N := 3) ?hd (cs := #[.int .i64 0]) (t := 3) ?hr ?_; (case hd => rfl); (case hg => rfl); (case hr => first | (go_simp; done) | (go_simp; rfl)); intro gb102 hg w5 hbox hb; have n0_ := Aside0.mk (Zl (g := gb101) (o := .cells #[.slice A0_0 l0_0.length c0_0, .slice A0_1 l0_1.length c0_1, .slice A0_2 l0_2.length c0_2] 54 (0, 0)) (by (with_reducible repeat (first | refine Zg ?_ _ | refine Zi ?_ | refine Zh ?_ _)); exact BK101.out) hb); have n1_ := Aside0.mk (Zk (by repeat (first | (with_reducible first | exact HB.out | apply Ze | apply Za | apply Zd | refine Zf ?_ GE101.out) | exact HB.out)) hb); have n2_ := Aside0.mk (hbox); have n3_ := Aside0.mk ((by rw [hg]; exact (Zj (by repeat (first | (with_reducible first | exact HB.out | apply Ze | apply Za | apply Zd | refine Zf ?_ GE101.out) | exact HB.out))) : w.heap.size ≤ gb102)); have n4_ := n3_; have n5_ := Aside0.mk ((by rw [hg]; exact Nat.ne_of_lt (Zu (g := gb101) (o := .cells #[.slice A0_0 l0_0.length c0_0, .slice A0_1 l0_1.length c0_1, .slice A0_2 l0_2.length c0_2] 54 (0, 0)) (by (with_reducible repeat (first | refine Zg ?_ _ | refine Zi ?_ | refine Zh ?_ _)); exact BK101.out)) : gb101 ≠ gb102)); have n6_ := Aside0.mk n5_.out.symm; clear BK101; clear HB; have BK101 := n0_; have HB := n1_; have BK102 := n2_; have GW102 := n3_; have GE102 := n4_; have NB101_102 := n5_; have NB102_101 := n6_; clear n0_ n1_ n2_ n3_ n4_ n5_ n6_; clear hb hbox hg; have hnb6 := NB102_101.out; have hnc6 := NB101_102.out; have hcz7_0 : w5.cell? ⟨gb102, 0, none⟩ = some (.int .i64 0) := (Zb BK102.out 0).trans rfl; have hfz7_0 := Zc BK102.out 0))
 (try simp only [Act.put, List.setIfInBounds_toArray, List.set_cons_zero, List.set_cons_succ])
 go_cut [25] (fun v25 wc => ∃ (kq : Nat) (x25_1 : Bool), v25 = .bool x25_1 ∧ Aside0 (impl_isElection.j0 kq x25_1 l0_0 l0_1 l0_2 (l0_0.length : Int) = some r) ∧ Aside0 (kq ≤ k) ∧ Aside0 (wc.heap[gb101]? = some (.cells #[(.slice A0_0 l0_0.length c0_0), (.slice A0_1 l0_1.length c0_1), (.slice A0_2 l0_2.length c0_2)] 54 (0, 0))) ∧ Aside0 (wc.heap[gb102]? = some (.cells #[.int .i64 (l0_0.length : Int)] 3 (0, 0))) ∧ Aside0 (Below w.heap.size w wc))
 case first =>
  have H := HC2.out
  clear HC2
  replace H := Option.bind_eq_some_iff.mp H
  obtain ⟨t103, A80, H⟩ := H
  have A8 := Aside0.mk A80
  clear A80
  by_cases c9 : t103 = true
  ·subst c9
   rw [if_pos rfl] at H
   by_cases c10 : (l0_1.length : Int) > 20
   ·rw [if_pos c10] at H
    have c10b0 : decide (20 < (l0_1.length : Int)) = true := decide_eq_true c10
    have c10b1 : decide (20 < l0_1.length) = true := decide_eq_true (by omega)
    clear c10
    (first | rw [c10b0] | (simp only [Zm, Zn]; rw [c10b0]) | skip)
    have H' := Aside0.mk H
    clear H
    have hnb11 := NB102_101.out
    have hnc11 := NB101_102.out
    have hcz12_0 : w5.cell? ⟨gb102, 0, none⟩ = some (.int .i64 0) := (Zb BK102.out 0).trans rfl
    have hfz12_0 := Zc BK102.out 0
    go_wp2_with (first | ((with_reducible refine Zp (f := 71) rfl ?_); refine Zw (some 12) rfl rfl Try.func71 (by kernel_rfl) rfl #[.int .i64 (l0_0.length : Int), .int .i64 1, .int .i64 5] rfl (by (try simp only [List.map_toArray, List.map_cons, List.map_nil]); first | done | rfl | (simp only [List.length_drop, List.length_take]; rfl)) ?_; (with_reducible refine (impl_in.calls (l0_0.length : Int) 1 5 true _ A8.out).mono ?_); rintro e w' ⟨rfl, ⟨nd, rfl⟩⟩; refine ⟨_, rfl, ?_⟩; have hcz13_0 : w5.cell? ⟨gb101, 0, none⟩ = some (.slice A0_0 l0_0.length c0_0) := (Zb BK101.out 0).trans rfl; have hcz13_1 : w5.cell? ⟨gb101, 1, none⟩ = some (.slice A0_1 l0_1.length c0_1) := (Zb BK101.out 1).trans rfl; have hcz13_2 : w5.cell? ⟨gb101, 2, none⟩ = some (.slice A0_2 l0_2.length c0_2) := (Zb BK101.out 2).trans rfl; have hfz13_0 := Zc BK101.out 0; have hfz13_1 := Zc BK101.out 1; have hfz13_2 := Zc BK101.out 2))
    go_meet
    case rel => exact ⟨_, (true), (by first | rfl | (simp; done) | (simp [*]; done)), H', ⟨by first | omega | exact Nat.le_refl _⟩, ⟨by (with_reducible repeat (first | refine Zg ?_ _ | refine Zi ?_ | refine Zh ?_ _)); refine Zq ?_ NB101_102.out _; (with_reducible repeat (first | refine Zg ?_ _ | refine Zi ?_ | refine Zh ?_ _)); exact BK101.out⟩, ⟨by (with_reducible repeat (first | refine Zg ?_ _ | refine Zi ?_ | refine Zh ?_ _)); refine Zv (cs := #[.int .i64 0]) ?_ 0 _ rfl; (with_reducible repeat (first | refine Zg ?_ _ | refine Zi ?_ | refine Zh ?_ _)); exact BK102.out⟩, ⟨by repeat (first | (with_reducible first | exact HB.out | apply Ze | apply Za | apply Zd | refine Zf ?_ GE101.out | refine Zf ?_ GE102.out) | exact HB.out)⟩⟩
   ·rw [if_neg c10] at H
    have c10b0 : decide (20 < (l0_1.length : Int)) = false := decide_eq_false c10
    have c10b1 : decide (20 < l0_1.length) = false := decide_eq_false (by omega)
    clear c10
    (first | rw [c10b0] | (simp only [Zm, Zn]; rw [c10b0]) | skip)
    have H' := Aside0.mk H
    clear H
    have hnb14 := NB102_101.out
    have hnc14 := NB101_102.out
    have hcz15_0 : w5.cell? ⟨gb102, 0, none⟩ = some (.int .i64 0) := (Zb BK102.out 0).trans rfl
    have hfz15_0 := Zc BK102.out 0
    go_wp2_with (first | ((with_reducible refine Zp (f := 71) rfl ?_); refine Zw (some 12) rfl rfl Try.func71 (by kernel_rfl) rfl #[.int .i64 (l0_0.length : Int), .int .i64 1, .int .i64 5] rfl (by (try simp only [List.map_toArray, List.map_cons, List.map_nil]); first | done | rfl | (simp only [List.length_drop, List.length_take]; rfl)) ?_; (with_reducible refine (impl_in.calls (l0_0.length : Int) 1 5 true _ A8.out).mono ?_); rintro e w' ⟨rfl, ⟨nd, rfl⟩⟩; refine ⟨_, rfl, ?_⟩; have hcz16_0 : w5.cell? ⟨gb101, 0, none⟩ = some (.slice A0_0 l0_0.length c0_0) := (Zb BK101.out 0).trans rfl; have hcz16_1 : w5.cell? ⟨gb101, 1, none⟩ = some (.slice A0_1 l0_1.length c0_1) := (Zb BK101.out 1).trans rfl; have hcz16_2 : w5.cell? ⟨gb101, 2, none⟩ = some (.slice A0_2 l0_2.length c0_2) := (Zb BK101.out 2).trans rfl; have hfz16_0 := Zc BK101.out 0; have hfz16_1 := Zc BK101.out 1; have hfz16_2 := Zc BK101.out 2))
    go_meet
    case rel => exact ⟨_, (decide ((l0_2.length : Int) > 80)), (by first | rfl | (simp; done) | (simp [*]; done)), H', ⟨by first | omega | exact Nat.le_refl _⟩, ⟨by (with_reducible repeat (first | refine Zg ?_ _ | refine Zi ?_ | refine Zh ?_ _)); refine Zq ?_ NB101_102.out _; (with_reducible repeat (first | refine Zg ?_ _ | refine Zi ?_ | refine Zh ?_ _)); exact BK101.out⟩, ⟨by (with_reducible repeat (first | refine Zg ?_ _ | refine Zi ?_ | refine Zh ?_ _)); refine Zv (cs := #[.int .i64 0]) ?_ 0 _ rfl; (with_reducible repeat (first | refine Zg ?_ _ | refine Zi ?_ | refine Zh ?_ _)); exact BK102.out⟩, ⟨by repeat (first | (with_reducible first | exact HB.out | apply Ze | apply Za | apply Zd | refine Zf ?_ GE101.out | refine Zf ?_ GE102.out) | exact HB.out)⟩⟩
  ·replace c9 := Bool.eq_false_iff.mpr c9
   subst c9
   rw [if_neg (show ¬ (false = true) by decide)] at H
   have H' := Aside0.mk H
   clear H
   have hnb17 := NB102_101.out
   have hnc17 := NB101_102.out
   have hcz18_0 : w5.cell? ⟨gb102, 0, none⟩ = some (.int .i64 0) := (Zb BK102.out 0).trans rfl
   have hfz18_0 := Zc BK102.out 0
   go_wp2_with (first | ((with_reducible refine Zp (f := 71) rfl ?_); refine Zw (some 12) rfl rfl Try.func71 (by kernel_rfl) rfl #[.int .i64 (l0_0.length : Int), .int .i64 1, .int .i64 5] rfl (by (try simp only [List.map_toArray, List.map_cons, List.map_nil]); first | done | rfl | (simp only [List.length_drop, List.length_take]; rfl)) ?_; (with_reducible refine (impl_in.calls (l0_0.length : Int) 1 5 false _ A8.out).mono ?_); rintro e w' ⟨rfl, ⟨nd, rfl⟩⟩; refine ⟨_, rfl, ?_⟩))
   go_meet
   case rel => exact ⟨_, (true), (by first | rfl | (simp; done) | (simp [*]; done)), H', ⟨by first | omega | exact Nat.le_refl _⟩, ⟨by (with_reducible repeat (first | refine Zg ?_ _ | refine Zi ?_ | refine Zh ?_ _)); refine Zq ?_ NB101_102.out _; (with_reducible repeat (first | refine Zg ?_ _ | refine Zi ?_ | refine Zh ?_ _)); exact BK101.out⟩, ⟨by (with_reducible repeat (first | refine Zg ?_ _ | refine Zi ?_ | refine Zh ?_ _)); refine Zv (cs := #[.int .i64 0]) ?_ 0 _ rfl; (with_reducible repeat (first | refine Zg ?_ _ | refine Zi ?_ | refine Zh ?_ _)); exact BK102.out⟩, ⟨by repeat (first | (with_reducible first | exact HB.out | apply Ze | apply Za | apply Zd | refine Zf ?_ GE101.out | refine Zf ?_ GE102.out) | exact HB.out)⟩⟩
 case rest =>
  clear HC2
  try clear hcz4_0
  try clear hcz4_1
  try clear hcz4_2
  try clear hcz7_0
  try clear hfz4_0
  try clear hfz4_1
  try clear hfz4_2
  try clear hfz7_0
  obtain ⟨kq, x25_1, rfl, HA, HJ1, BK101, BK102, HB⟩ := hcut
  cases kq with
  | zero => exact absurd HA.out (by simp [impl_isElection.j0])
  | succ kj1 =>
   have H := HA.out
   clear HA
   simp only [impl_isElection.j0] at H
   by_cases c19 : x25_1 = true
   ·subst c19
    rw [if_pos rfl] at H
    obtain rfl := Option.some.inj H
    go_wp2
    go_ret
    exact ⟨by first | rfl | (simp [errW_none, errW_some] <;> rfl) | (simp [*, errW_none, errW_some] <;> rfl), by repeat (first | (with_reducible first | exact HB.out | apply Ze | apply Za | apply Zd | refine Zf ?_ GE101.out | refine Zf ?_ GE102.out) | exact HB.out)⟩
   ·replace c19 := Bool.eq_false_iff.mpr c19
    subst c19
    rw [if_neg (show ¬ (false = true) by decide)] at H
    have H' := Aside0.mk H
    clear H
    have hnb20 := NB101_102.out
    have hnc20 := NB102_101.out
    have hcz21_0 : wc.cell? ⟨gb101, 0, none⟩ = some (.slice A0_0 l0_0.length c0_0) := (Zb BK101.out 0).trans rfl
    have hcz21_1 : wc.cell? ⟨gb101, 1, none⟩ = some (.slice A0_1 l0_1.length c0_1) := (Zb BK101.out 1).trans rfl
    have hcz21_2 : wc.cell? ⟨gb101, 2, none⟩ = some (.slice A0_2 l0_2.length c0_2) := (Zb BK101.out 2).trans rfl
    have hfz21_0 := Zc BK101.out 0
    have hfz21_1 := Zc BK101.out 1
    have hfz21_2 := Zc BK101.out 2
    go_wp2
    go_loopg [29] kj1 (fun kq v29 w' => ∃ (x29_2 : Int), v29 = .int .i64 x29_2 ∧ Aside0 (impl_isElection.l0 kq l0_0 (l0_0.length : Int) x29_2 l0_0 l0_1 l0_2 (l0_0.length : Int) = some r) ∧ Aside0 (kq ≤ kj1) ∧ Aside0 (w'.heap[gb101]? = some (.cells #[(.slice A0_0 l0_0.length c0_0), (.slice A0_1 l0_1.length c0_1), (.slice A0_2 l0_2.length c0_2)] 54 (0, 0))) ∧ Aside0 (w'.heap[gb102]? = some (.cells #[.int .i64 (l0_0.length : Int)] 3 (0, 0))) ∧ Aside0 (Below w.heap.size w w'))
    case atStart => exact ⟨(0), (by first | rfl | (simp; done) | (simp [*]; done)), H', ⟨Nat.le_refl _⟩, ⟨by (with_reducible repeat (first | refine Zg ?_ _ | refine Zi ?_ | refine Zh ?_ _)); exact BK101.out⟩, ⟨by (with_reducible repeat (first | refine Zg ?_ _ | refine Zi ?_ | refine Zh ?_ _)); exact BK102.out⟩, ⟨by repeat (first | (with_reducible first | exact HB.out | apply Ze | apply Za | apply Zd | refine Zf ?_ GE101.out | refine Zf ?_ GE102.out) | exact HB.out)⟩⟩
    case round =>
     clear H'
     try clear c19
     try clear hcz21_0
     try clear hcz21_1
     try clear hcz21_2
     try clear hcz4_0
     try clear hcz4_1
     try clear hcz4_2
     try clear hcz7_0
     try clear hfz21_0
     try clear hfz21_1
     try clear hfz21_2
     try clear hfz4_0
     try clear hfz4_1
     try clear hfz4_2
     try clear hfz7_0
     obtain ⟨x29_2, rfl, HA, HK2, BK101, BK102, HB⟩ := hrel
     cases gk with
     | zero => exact absurd HA.out (by simp [impl_isElection.l0])
     | succ k2 =>
      have H := HA.out
      clear HA
      simp only [impl_isElection.l0] at H
      by_cases c22 : x29_2 < (l0_0.length : Int)
      ·rw [if_pos c22] at H
       have c22b0 : decide (x29_2 < (l0_0.length : Int)) = true := decide_eq_true c22
       clear c22
       by_cases c23 : 0 ≤ x29_2
       ·rw [if_pos c23] at H
        have c23b0 : decide (0 ≤ x29_2) = true := decide_eq_true c23
        clear c23
        by_cases c24 : x29_2 < (l0_0.length : Int)
        ·rw [if_pos c24] at H
         have c24b0 : decide (x29_2 < (l0_0.length : Int)) = true := decide_eq_true c24
         clear c24
         replace H := Option.bind_eq_some_iff.mp H
         obtain ⟨t106, A250, H⟩ := H
         have A25 := Aside0.mk A250
         clear A250
         by_cases c26 : t106 = true
         ·subst c26
          rw [if_pos rfl] at H
          replace H := Option.bind_eq_some_iff.mp H
          obtain ⟨t107, A270, H⟩ := H
          have A27 := Aside0.mk A270
          clear A270
          by_cases c28 : t107 = true
          ·subst c28
           rw [if_pos rfl] at H
           obtain ⟨bq29, hbq29⟩ : ∃ b_ : Bool, b_ = ((rd_T108 l0_0 x29_2).f2) := ⟨_, rfl⟩
           replace H : (if bq29 = true then (if (rd_T108 l0_0 x29_2).f3 = true then (some false) else ((impl_areMembers.f k2 ((rd_T108 l0_0 x29_2).f4) (l0_0.length : Int)).bind fun t108 => (if t108 = true then (if (bq29 = true) then ((impl_areEntries.f k2 ((rd_T108 l0_0 x29_2).f5)).bind fun t109 => (if t109 = true then (impl_isElection.l0 k2 l0_0 (l0_0.length : Int) (wrap64 (x29_2 + 1)) l0_0 l0_1 l0_2 (l0_0.length : Int)) else (some false))) else (if ((rd_T108 l0_0 x29_2).f3 = true) then ((impl_areEntries.f k2 ((rd_T108 l0_0 x29_2).f5)).bind fun t110 => (if t110 = true then (impl_isElection.l0 k2 l0_0 (l0_0.length : Int) (wrap64 (x29_2 + 1)) l0_0 l0_1 l0_2 (l0_0.length : Int)) else (some false))) else (if (((rd_T108 l0_0 x29_2).f4).length : Int) > 0 then (some false) else ((impl_areEntries.f k2 ((rd_T108 l0_0 x29_2).f5)).bind fun t111 => (if t111 = true then (impl_isElection.l0 k2 l0_0 (l0_0.length : Int) (wrap64 (x29_2 + 1)) l0_0 l0_1 l0_2 (l0_0.length : Int)) else (some false)))))) else (some false)))) else ((impl_areMembers.f k2 ((rd_T108 l0_0 x29_2).f4) (l0_0.length : Int)).bind fun t112 => (if t112 = true then (if (bq29 = true) then ((impl_areEntries.f k2 ((rd_T108 l0_0 x29_2).f5)).bind fun t113 => (if t113 = true then (impl_isElection.l0 k2 l0_0 (l0_0.length : Int) (wrap64 (x29_2 + 1)) l0_0 l0_1 l0_2 (l0_0.length : Int)) else (some false))) else (if ((rd_T108 l0_0 x29_2).f3 = true) then ((impl_areEntries.f k2 ((rd_T108 l0_0 x29_2).f5)).bind fun t114 => (if t114 = true then (impl_isElection.l0 k2 l0_0 (l0_0.length : Int) (wrap64 (x29_2 + 1)) l0_0 l0_1 l0_2 (l0_0.length : Int)) else (some false))) else (if (((rd_T108 l0_0 x29_2).f4).length : Int) > 0 then (some false) else ((impl_areEntries.f k2 ((rd_T108 l0_0 x29_2).f5)).bind fun t115 => (if t115 = true then (impl_isElection.l0 k2 l0_0 (l0_0.length : Int) (wrap64 (x29_2 + 1)) l0_0 l0_1 l0_2 (l0_0.length : Int)) else (some false)))))) else (some false)))) = some r := by rw [← hbq29] at H; exact H
           have Nbq29 := Aside0.mk hbq29
           clear hbq29
           by_cases c30 : bq29 = true
           ·subst c30
            rw [if_pos rfl] at H
            obtain ⟨bq31, hbq31⟩ : ∃ b_ : Bool, b_ = ((rd_T108 l0_0 x29_2).f3) := ⟨_, rfl⟩
            replace H : (if bq31 = true then (some false) else ((impl_areMembers.f k2 ((rd_T108 l0_0 x29_2).f4) (l0_0.length : Int)).bind fun t108 => (if t108 = true then (if (true = true) then ((impl_areEntries.f k2 ((rd_T108 l0_0 x29_2).f5)).bind fun t109 => (if t109 = true then (impl_isElection.l0 k2 l0_0 (l0_0.length : Int) (wrap64 (x29_2 + 1)) l0_0 l0_1 l0_2 (l0_0.length : Int)) else (some false))) else (if (bq31 = true) then ((impl_areEntries.f k2 ((rd_T108 l0_0 x29_2).f5)).bind fun t110 => (if t110 = true then (impl_isElection.l0 k2 l0_0 (l0_0.length : Int) (wrap64 (x29_2 + 1)) l0_0 l0_1 l0_2 (l0_0.length : Int)) else (some false))) else (if (((rd_T108 l0_0 x29_2).f4).length : Int) > 0 then (some false) else ((impl_areEntries.f k2 ((rd_T108 l0_0 x29_2).f5)).bind fun t111 => (if t111 = true then (impl_isElection.l0 k2 l0_0 (l0_0.length : Int) (wrap64 (x29_2 + 1)) l0_0 l0_1 l0_2 (l0_0.length : Int)) else (some false)))))) else (some false)))) = some r := by rw [← hbq31] at H; exact H
            have Nbq31 := Aside0.mk hbq31
            clear hbq31
            by_cases c32 : bq31 = true
            ·subst c32
             rw [if_pos rfl] at H
             obtain rfl := Option.some.inj H
             have p104 : 0 ≤ (x29_2 : Int) := of_decide_eq_true (by assumption)
             have q104 : x29_2 < (l0_0.length : Int) := of_decide_eq_true (by assumption)
             obtain ⟨ad104, A104_4, c104_4, A104_5, c104_5, e104, hx104_0, hx104_1, hx104_2, hx104_3, hx104_4, hx104_5, hl104_4, hi104_4, hl104_5, hi104_5⟩ := at_T108 HR0_0.out x29_2 p104 q104
             (try rw [← Nbq29.out] at hx104_2)
             (try rw [← Nbq31.out] at hx104_2)
             (try rw [← Nbq29.out] at hx104_3)
             (try rw [← Nbq31.out] at hx104_3)
             cases e104
             replace hx104_0 := (HB.out.cell (World.block_lt_of_cell? w _ hx104_0)).trans hx104_0
             replace hx104_1 := (HB.out.cell (World.block_lt_of_cell? w _ hx104_1)).trans hx104_1
             replace hx104_2 := (HB.out.cell (World.block_lt_of_cell? w _ hx104_2)).trans hx104_2
             replace hx104_3 := (HB.out.cell (World.block_lt_of_cell? w _ hx104_3)).trans hx104_3
             replace hx104_4 := (HB.out.cell (World.block_lt_of_cell? w _ hx104_4)).trans hx104_4
             replace hx104_5 := (HB.out.cell (World.block_lt_of_cell? w _ hx104_5)).trans hx104_5
             have HR104_4 := Aside0.mk hi104_4
             have HC104_4 := Aside0.mk hl104_4
             clear hi104_4 hl104_4
             have HR104_5 := Aside0.mk hi104_5
             have HC104_5 := Aside0.mk hl104_5
             clear hi104_5 hl104_5
             replace p104 := eq_true p104
             replace q104 := eq_true q104
             go_wp2_with (first | ((with_reducible refine Zt (N := 5) rfl ?_); (try (refine Zy (by rfl) ?_; dsimp only)); refine Zs ?hg (N := 5) ?hd (cs := #[.int .i64 0, .int .i64 0, .bool false, .bool false, .slice none 0 0, .slice none 0 0]) (t := 108) ?hr ?_; (case hd => rfl); (case hg => rfl); (case hr => first | (go_simp; done) | (go_simp; rfl)); intro gb105 hg w33 hbox hb; have n0_ := Aside0.mk (Zl (g := gb101) (o := .cells #[.slice (some ad104) l0_0.length c0_0, .slice A0_1 l0_1.length c0_1, .slice A0_2 l0_2.length c0_2] 54 (0, 0)) (by (with_reducible repeat (first | refine Zg ?_ _ | refine Zi ?_ | refine Zh ?_ _)); exact BK101.out) hb); have n1_ := Aside0.mk (Zl (g := gb102) (o := .cells #[.int .i64 (l0_0.length : Int)] 3 (0, 0)) (by (with_reducible repeat (first | refine Zg ?_ _ | refine Zi ?_ | refine Zh ?_ _)); exact BK102.out) hb); have n2_ := Aside0.mk (Zk (by repeat (first | (with_reducible first | exact HB.out | apply Ze | apply Za | apply Zd | refine Zf ?_ GE101.out | refine Zf ?_ GE102.out) | exact HB.out)) hb); have n3_ := Aside0.mk (hbox); have n4_ := Aside0.mk ((by rw [hg]; exact (Zj (by repeat (first | (with_reducible first | exact HB.out | apply Ze | apply Za | apply Zd | refine Zf ?_ GE101.out | refine Zf ?_ GE102.out) | exact HB.out))) : w.heap.size ≤ gb105)); have n5_ := n4_; have n6_ := Aside0.mk ((by rw [hg]; exact Nat.ne_of_lt (Zu (g := gb101) (o := .cells #[.slice (some ad104) l0_0.length c0_0, .slice A0_1 l0_1.length c0_1, .slice A0_2 l0_2.length c0_2] 54 (0, 0)) (by (with_reducible repeat (first | refine Zg ?_ _ | refine Zi ?_ | refine Zh ?_ _)); exact BK101.out)) : gb101 ≠ gb105)); have n7_ := Aside0.mk n6_.out.symm; have n8_ := Aside0.mk ((by rw [hg]; exact Nat.ne_of_lt (Zu (g := gb102) (o := .cells #[.int .i64 (l0_0.length : Int)] 3 (0, 0)) (by (with_reducible repeat (first | refine Zg ?_ _ | refine Zi ?_ | refine Zh ?_ _)); exact BK102.out)) : gb102 ≠ gb105)); have n9_ := Aside0.mk n8_.out.symm; clear BK101; clear BK102; clear HB; have BK101 := n0_; have BK102 := n1_; have HB := n2_; have BK105 := n3_; have GW105 := n4_; have GE105 := n5_; have NB101_105 := n6_; have NB105_101 := n7_; have NB102_105 := n8_; have NB105_102 := n9_; clear n0_ n1_ n2_ n3_ n4_ n5_ n6_ n7_ n8_ n9_; clear hb hbox hg; have hnb34 := NB105_101.out; have hnc34 := NB101_105.out; have hnb35 := NB105_102.out; have hnc35 := NB102_105.out; have hcz36_0 : w33.cell? ⟨gb105, 0, none⟩ = some (.int .i64 0) := (Zb BK105.out 0).trans rfl; have hcz36_1 : w33.cell? ⟨gb105, 1, none⟩ = some (.int .i64 0) := (Zb BK105.out 1).trans rfl; have hcz36_2 : w33.cell? ⟨gb105, 2, none⟩ = some (.bool false) := (Zb BK105.out 2).trans rfl; have hcz36_3 : w33.cell? ⟨gb105, 3, none⟩ = some (.bool false) := (Zb BK105.out 3).trans rfl; have hcz36_4 : w33.cell? ⟨gb105, 4, none⟩ = some (.slice none 0 0) := (Zb BK105.out 4).trans rfl; have hcz36_5 : w33.cell? ⟨gb105, 5, none⟩ = some (.slice none 0 0) := (Zb BK105.out 5).trans rfl; have hfz36_0 := Zc BK105.out 0; have hfz36_1 := Zc BK105.out 1; have hfz36_2 := Zc BK105.out 2; have hfz36_3 := Zc BK105.out 3; have hfz36_4 := Zc BK105.out 4; have hfz36_5 := Zc BK105.out 5) | ((with_reducible refine Zp (f := 71) rfl ?_); refine Zw (some 35) rfl rfl Try.func71 (by kernel_rfl) rfl #[.int .i64 ((rd_T108 l0_0 x29_2).f0), .int .i64 0, .int .i64 100] rfl (by (try simp only [List.map_toArray, List.map_cons, List.map_nil]); first | done | rfl | (simp only [List.length_drop, List.length_take]; rfl)) ?_; (with_reducible refine (impl_in.calls ((rd_T108 l0_0 x29_2).f0) 0 100 true _ A25.out).mono ?_); rintro e w' ⟨rfl, ⟨nd, rfl⟩⟩; refine ⟨_, rfl, ?_⟩; have hnb37 := NB102_101.out; have hnc37 := NB101_102.out; have hcz38_0 : w33.cell? ⟨gb102, 0, none⟩ = some (.int .i64 (l0_0.length : Int)) := (Zb BK102.out 0).trans rfl; have hfz38_0 := Zc BK102.out 0) | (go_at_call 71; (with_reducible refine (impl_in.calls ((rd_T108 l0_0 x29_2).f1) (-1) (wrap64 ((l0_0.length : Int) - 1)) true _ A27.out).mono ?_); rintro e w' ⟨rfl, ⟨nd, rfl⟩⟩))
             go_ret
             exact ⟨by first | rfl | (simp [errW_none, errW_some] <;> rfl) | (simp [*, errW_none, errW_some] <;> rfl), by repeat (first | (with_reducible first | exact HB.out | apply Ze | apply Za | apply Zd | refine Zf ?_ GE101.out | refine Zf ?_ GE102.out | refine Zf ?_ GE105.out) | exact HB.out)⟩
            ·replace c32 := Bool.eq_false_iff.mpr c32
             subst c32
             rw [if_neg (show ¬ (false = true) by decide)] at H
             replace H := Option.bind_eq_some_iff.mp H
             obtain ⟨t108, A390, H⟩ := H
             have A39 := Aside0.mk A390
             clear A390
             by_cases c40 : t108 = true
             ·subst c40
              rw [if_pos rfl] at H
              by_cases c41 : (true = true)
              ·clear c41
               rw [if_pos rfl] at H
               replace H := Option.bind_eq_some_iff.mp H
               obtain ⟨t109, A420, H⟩ := H
               have A42 := Aside0.mk A420
               clear A420
               by_cases c43 : t109 = true
               ·subst c43
                rw [if_pos rfl] at H
                have H' := Aside0.mk H
                clear H
                have p104 : 0 ≤ (x29_2 : Int) := of_decide_eq_true (by assumption)
                have q104 : x29_2 < (l0_0.length : Int) := of_decide_eq_true (by assumption)
                obtain ⟨ad104, A104_4, c104_4, A104_5, c104_5, e104, hx104_0, hx104_1, hx104_2, hx104_3, hx104_4, hx104_5, hl104_4, hi104_4, hl104_5, hi104_5⟩ := at_T108 HR0_0.out x29_2 p104 q104
                (try rw [← Nbq29.out] at hx104_2)
                (try rw [← Nbq31.out] at hx104_2)
                (try rw [← Nbq29.out] at hx104_3)
                (try rw [← Nbq31.out] at hx104_3)
                cases e104
                replace hx104_0 := (HB.out.cell (World.block_lt_of_cell? w _ hx104_0)).trans hx104_0
                replace hx104_1 := (HB.out.cell (World.block_lt_of_cell? w _ hx104_1)).trans hx104_1
                replace hx104_2 := (HB.out.cell (World.block_lt_of_cell? w _ hx104_2)).trans hx104_2
                replace hx104_3 := (HB.out.cell (World.block_lt_of_cell? w _ hx104_3)).trans hx104_3
                replace hx104_4 := (HB.out.cell (World.block_lt_of_cell? w _ hx104_4)).trans hx104_4
                replace hx104_5 := (HB.out.cell (World.block_lt_of_cell? w _ hx104_5)).trans hx104_5
                have HR104_4 := Aside0.mk hi104_4
                have HC104_4 := Aside0.mk hl104_4
                clear hi104_4 hl104_4
                have HR104_5 := Aside0.mk hi104_5
                have HC104_5 := Aside0.mk hl104_5
                clear hi104_5 hl104_5
                replace p104 := eq_true p104
                replace q104 := eq_true q104
                go_wp2_with (first | ((with_reducible refine Zt (N := 5) rfl ?_); (try (refine Zy (by rfl) ?_; dsimp only)); refine Zs ?hg (N := 5) ?hd (cs := #[.int .i64 0, .int .i64 0, .bool false, .bool false, .slice none 0 0, .slice none 0 0]) (t := 108) ?hr ?_; (case hd => rfl); (case hg => rfl); (case hr => first | (go_simp; done) | (go_simp; rfl)); intro gb105 hg w44 hbox hb; have n0_ := Aside0.mk (Zl (g := gb101) (o := .cells #[.slice (some ad104) l0_0.length c0_0, .slice A0_1 l0_1.length c0_1, .slice A0_2 l0_2.length c0_2] 54 (0, 0)) (by (with_reducible repeat (first | refine Zg ?_ _ | refine Zi ?_ | refine Zh ?_ _)); exact BK101.out) hb); have n1_ := Aside0.mk (Zl (g := gb102) (o := .cells #[.int .i64 (l0_0.length : Int)] 3 (0, 0)) (by (with_reducible repeat (first | refine Zg ?_ _ | refine Zi ?_ | refine Zh ?_ _)); exact BK102.out) hb); have n2_ := Aside0.mk (Zk (by repeat (first | (with_reducible first | exact HB.out | apply Ze | apply Za | apply Zd | refine Zf ?_ GE101.out | refine Zf ?_ GE102.out) | exact HB.out)) hb); have n3_ := Aside0.mk (hbox); have n4_ := Aside0.mk ((by rw [hg]; exact (Zj (by repeat (first | (with_reducible first | exact HB.out | apply Ze | apply Za | apply Zd | refine Zf ?_ GE101.out | refine Zf ?_ GE102.out) | exact HB.out))) : w.heap.size ≤ gb105)); have n5_ := n4_; have n6_ := Aside0.mk ((by rw [hg]; exact Nat.ne_of_lt (Zu (g := gb101) (o := .cells #[.slice (some ad104) l0_0.length c0_0, .slice A0_1 l0_1.length c0_1, .slice A0_2 l0_2.length c0_2] 54 (0, 0)) (by (with_reducible repeat (first | refine Zg ?_ _ | refine Zi ?_ | refine Zh ?_ _)); exact BK101.out)) : gb101 ≠ gb105)); have n7_ := Aside0.mk n6_.out.symm; have n8_ := Aside0.mk ((by rw [hg]; exact Nat.ne_of_lt (Zu (g := gb102) (o := .cells #[.int .i64 (l0_0.length : Int)] 3 (0, 0)) (by (with_reducible repeat (first | refine Zg ?_ _ | refine Zi ?_ | refine Zh ?_ _)); exact BK102.out)) : gb102 ≠ gb105)); have n9_ := Aside0.mk n8_.out.symm; clear BK101; clear BK102; clear HB; have BK101 := n0_; have BK102 := n1_; have HB := n2_; have BK105 := n3_; have GW105 := n4_; have GE105 := n5_; have NB101_105 := n6_; have NB105_101 := n7_; have NB102_105 := n8_; have NB105_102 := n9_; clear n0_ n1_ n2_ n3_ n4_ n5_ n6_ n7_ n8_ n9_; clear hb hbox hg; have hnb45 := NB105_101.out; have hnc45 := NB101_105.out; have hnb46 := NB105_102.out; have hnc46 := NB102_105.out; have hcz47_0 : w44.cell? ⟨gb105, 0, none⟩ = some (.int .i64 0) := (Zb BK105.out 0).trans rfl; have hcz47_1 : w44.cell? ⟨gb105, 1, none⟩ = some (.int .i64 0) := (Zb BK105.out 1).trans rfl; have hcz47_2 : w44.cell? ⟨gb105, 2, none⟩ = some (.bool false) := (Zb BK105.out 2).trans rfl; have hcz47_3 : w44.cell? ⟨gb105, 3, none⟩ = some (.bool false) := (Zb BK105.out 3).trans rfl; have hcz47_4 : w44.cell? ⟨gb105, 4, none⟩ = some (.slice none 0 0) := (Zb BK105.out 4).trans rfl; have hcz47_5 : w44.cell? ⟨gb105, 5, none⟩ = some (.slice none 0 0) := (Zb BK105.out 5).trans rfl; have hfz47_0 := Zc BK105.out 0; have hfz47_1 := Zc BK105.out 1; have hfz47_2 := Zc BK105.out 2; have hfz47_3 := Zc BK105.out 3; have hfz47_4 := Zc BK105.out 4; have hfz47_5 := Zc BK105.out 5) | ((with_reducible refine Zp (f := 71) rfl ?_); refine Zw (some 35) rfl rfl Try.func71 (by kernel_rfl) rfl #[.int .i64 ((rd_T108 l0_0 x29_2).f0), .int .i64 0, .int .i64 100] rfl (by (try simp only [List.map_toArray, List.map_cons, List.map_nil]); first | done | rfl | (simp only [List.length_drop, List.length_take]; rfl)) ?_; (with_reducible refine (impl_in.calls ((rd_T108 l0_0 x29_2).f0) 0 100 true _ A25.out).mono ?_); rintro e w' ⟨rfl, ⟨nd, rfl⟩⟩; refine ⟨_, rfl, ?_⟩; have hnb48 := NB102_101.out; have hnc48 := NB101_102.out; have hcz49_0 : w44.cell? ⟨gb102, 0, none⟩ = some (.int .i64 (l0_0.length : Int)) := (Zb BK102.out 0).trans rfl; have hfz49_0 := Zc BK102.out 0) | (go_at_call 71; (with_reducible refine (impl_in.calls ((rd_T108 l0_0 x29_2).f1) (-1) (wrap64 ((l0_0.length : Int) - 1)) true _ A27.out).mono ?_); rintro e w' ⟨rfl, ⟨nd, rfl⟩⟩) | (go_at_call 117; (with_reducible refine (impl_areMembers.calls k2 _ _ ((rd_T108 l0_0 x29_2).f4) (l0_0.length : Int) true _ ?side1 ?side2 A39.out).mono ?_); (case side1 => exact Kd.C_below HR104_4.out (by repeat (first | (with_reducible first | exact HB.out | apply Ze | apply Za | apply Zd | refine Zf ?_ GE101.out | refine Zf ?_ GE102.out | refine Zf ?_ GE105.out) | exact HB.out))); (case side2 => exact HC104_4.out); rintro e w' ⟨rfl, ⟨nd, rfl⟩⟩) | (go_at_call 63; (with_reducible refine (impl_areEntries.calls k2 _ _ ((rd_T108 l0_0 x29_2).f5) true _ ?side1 ?side2 A42.out).mono ?_); (case side1 => exact Kd.C_below HR104_5.out (by repeat (first | (with_reducible first | exact HB.out | apply Ze | apply Za | apply Zd | refine Zf ?_ GE101.out | refine Zf ?_ GE102.out | refine Zf ?_ GE105.out) | exact HB.out))); (case side2 => exact HC104_5.out); rintro e w' ⟨rfl, ⟨nd, rfl⟩⟩))
                go_roundg k2
                case measure => have := HJ1.out; have := HK2.out; omega
                case rel => (try simp only [← Nbq29.out]); (try simp only [← Nbq31.out]); exact ⟨(wrap64 (x29_2 + 1)), (by first | rfl | (simp; done) | (simp [*]; done)), H', ⟨by have := HJ1.out; have := HK2.out; omega⟩, ⟨by (with_reducible repeat (first | refine Zg ?_ _ | refine Zi ?_ | refine Zh ?_ _)); refine Zq ?_ NB101_105.out _; (with_reducible repeat (first | refine Zg ?_ _ | refine Zi ?_ | refine Zh ?_ _)); refine Zq ?_ NB101_105.out _; (with_reducible repeat (first | refine Zg ?_ _ | refine Zi ?_ | refine Zh ?_ _)); refine Zq ?_ NB101_105.out _; (with_reducible repeat (first | refine Zg ?_ _ | refine Zi ?_ | refine Zh ?_ _)); refine Zq ?_ NB101_105.out _; (with_reducible repeat (first | refine Zg ?_ _ | refine Zi ?_ | refine Zh ?_ _)); refine Zq ?_ NB101_105.out _; (with_reducible repeat (first | refine Zg ?_ _ | refine Zi ?_ | refine Zh ?_ _)); refine Zq ?_ NB101_105.out _; (with_reducible repeat (first | refine Zg ?_ _ | refine Zi ?_ | refine Zh ?_ _)); exact BK101.out⟩, ⟨by (with_reducible repeat (first | refine Zg ?_ _ | refine Zi ?_ | refine Zh ?_ _)); refine Zq ?_ NB102_105.out _; (with_reducible repeat (first | refine Zg ?_ _ | refine Zi ?_ | refine Zh ?_ _)); refine Zq ?_ NB102_105.out _; (with_reducible repeat (first | refine Zg ?_ _ | refine Zi ?_ | refine Zh ?_ _)); refine Zq ?_ NB102_105.out _; (with_reducible repeat (first | refine Zg ?_ _ | refine Zi ?_ | refine Zh ?_ _)); refine Zq ?_ NB102_105.out _; (with_reducible repeat (first | refine Zg ?_ _ | refine Zi ?_ | refine Zh ?_ _)); refine Zq ?_ NB102_105.out _; (with_reducible repeat (first | refine Zg ?_ _ | refine Zi ?_ | refine Zh ?_ _)); refine Zq ?_ NB102_105.out _; (with_reducible repeat (first | refine Zg ?_ _ | refine Zi ?_ | refine Zh ?_ _)); exact BK102.out⟩, ⟨by repeat (first | (with_reducible first | exact HB.out | apply Ze | apply Za | apply Zd | refine Zf ?_ GE101.out | refine Zf ?_ GE102.out | refine Zf ?_ GE105.out) | exact HB.out)⟩⟩
               ·replace c43 := Bool.eq_false_iff.mpr c43
                subst c43
                rw [if_neg (show ¬ (false = true) by decide)] at H
                obtain rfl := Option.some.inj H
                have p104 : 0 ≤ (x29_2 : Int) := of_decide_eq_true (by assumption)
                have q104 : x29_2 < (l0_0.length : Int) := of_decide_eq_true (by assumption)
                obtain ⟨ad104, A104_4, c104_4, A104_5, c104_5, e104, hx104_0, hx104_1, hx104_2, hx104_3, hx104_4, hx104_5, hl104_4, hi104_4, hl104_5, hi104_5⟩ := at_T108 HR0_0.out x29_2 p104 q104
                (try rw [← Nbq29.out] at hx104_2)
                (try rw [← Nbq31.out] at hx104_2)
                (try rw [← Nbq29.out] at hx104_3)
                (try rw [← Nbq31.out] at hx104_3)
                cases e104
                replace hx104_0 := (HB.out.cell (World.block_lt_of_cell? w _ hx104_0)).trans hx104_0
                replace hx104_1 := (HB.out.cell (World.block_lt_of_cell? w _ hx104_1)).trans hx104_1
                replace hx104_2 := (HB.out.cell (World.block_lt_of_cell? w _ hx104_2)).trans hx104_2
                replace hx104_3 := (HB.out.cell (World.block_lt_of_cell? w _ hx104_3)).trans hx104_3
                replace hx104_4 := (HB.out.cell (World.block_lt_of_cell? w _ hx104_4)).trans hx104_4
                replace hx104_5 := (HB.out.cell (World.block_lt_of_cell? w _ hx104_5)).trans hx104_5
                have HR104_4 := Aside0.mk hi104_4
                have HC104_4 := Aside0.mk hl104_4
                clear hi104_4 hl104_4
                have HR104_5 := Aside0.mk hi104_5
                have HC104_5 := Aside0.mk hl104_5
                clear hi104_5 hl104_5
                replace p104 := eq_true p104
                replace q104 := eq_true q104
                go_wp2_with (first | ((with_reducible refine Zt (N := 5) rfl ?_); (try (refine Zy (by rfl) ?_; dsimp only)); refine Zs ?hg (N := 5) ?hd (cs := #[.int .i64 0, .int .i64 0, .bool false, .bool false, .slice none 0 0, .slice none 0 0]) (t := 108) ?hr ?_; (case hd => rfl); (case hg => rfl); (case hr => first | (go_simp; done) | (go_simp; rfl)); intro gb105 hg w50 hbox hb; have n0_ := Aside0.mk (Zl (g := gb101) (o := .cells #[.slice (some ad104) l0_0.length c0_0, .slice A0_1 l0_1.length c0_1, .slice A0_2 l0_2.length c0_2] 54 (0, 0)) (by (with_reducible repeat (first | refine Zg ?_ _ | refine Zi ?_ | refine Zh ?_ _)); exact BK101.out) hb); have n1_ := Aside0.mk (Zl (g := gb102) (o := .cells #[.int .i64 (l0_0.length : Int)] 3 (0, 0)) (by (with_reducible repeat (first | refine Zg ?_ _ | refine Zi ?_ | refine Zh ?_ _)); exact BK102.out) hb); have n2_ := Aside0.mk (Zk (by repeat (first | (with_reducible first | exact HB.out | apply Ze | apply Za | apply Zd | refine Zf ?_ GE101.out | refine Zf ?_ GE102.out) | exact HB.out)) hb); have n3_ := Aside0.mk (hbox); have n4_ := Aside0.mk ((by rw [hg]; exact (Zj (by repeat (first | (with_reducible first | exact HB.out | apply Ze | apply Za | apply Zd | refine Zf ?_ GE101.out | refine Zf ?_ GE102.out) | exact HB.out))) : w.heap.size ≤ gb105)); have n5_ := n4_; have n6_ := Aside0.mk ((by rw [hg]; exact Nat.ne_of_lt (Zu (g := gb101) (o := .cells #[.slice (some ad104) l0_0.length c0_0, .slice A0_1 l0_1.length c0_1, .slice A0_2 l0_2.length c0_2] 54 (0, 0)) (by (with_reducible repeat (first | refine Zg ?_ _ | refine Zi ?_ | refine Zh ?_ _)); exact BK101.out)) : gb101 ≠ gb105)); have n7_ := Aside0.mk n6_.out.symm; have n8_ := Aside0.mk ((by rw [hg]; exact Nat.ne_of_lt (Zu (g := gb102) (o := .cells #[.int .i64 (l0_0.length : Int)] 3 (0, 0)) (by (with_reducible repeat (first | refine Zg ?_ _ | refine Zi ?_ | refine Zh ?_ _)); exact BK102.out)) : gb102 ≠ gb105)); have n9_ := Aside0.mk n8_.out.symm; clear BK101; clear BK102; clear HB; have BK101 := n0_; have BK102 := n1_; have HB := n2_; have BK105 := n3_; have GW105 := n4_; have GE105 := n5_; have NB101_105 := n6_; have NB105_101 := n7_; have NB102_105 := n8_; have NB105_102 := n9_; clear n0_ n1_ n2_ n3_ n4_ n5_ n6_ n7_ n8_ n9_; clear hb hbox hg; have hnb51 := NB105_101.out; have hnc51 := NB101_105.out; have hnb52 := NB105_102.out; have hnc52 := NB102_105.out; have hcz53_0 : w50.cell? ⟨gb105, 0, none⟩ = some (.int .i64 0) := (Zb BK105.out 0).trans rfl; have hcz53_1 : w50.cell? ⟨gb105, 1, none⟩ = some (.int .i64 0) := (Zb BK105.out 1).trans rfl; have hcz53_2 : w50.cell? ⟨gb105, 2, none⟩ = some (.bool false) := (Zb BK105.out 2).trans rfl; have hcz53_3 : w50.cell? ⟨gb105, 3, none⟩ = some (.bool false) := (Zb BK105.out 3).trans rfl; have hcz53_4 : w50.cell? ⟨gb105, 4, none⟩ = some (.slice none 0 0) := (Zb BK105.out 4).trans rfl; have hcz53_5 : w50.cell? ⟨gb105, 5, none⟩ = some (.slice none 0 0) := (Zb BK105.out 5).trans rfl; have hfz53_0 := Zc BK105.out 0; have hfz53_1 := Zc BK105.out 1; have hfz53_2 := Zc BK105.out 2; have hfz53_3 := Zc BK105.out 3; have hfz53_4 := Zc BK105.out 4; have hfz53_5 := Zc BK105.out 5) | ((with_reducible refine Zp (f := 71) rfl ?_); refine Zw (some 35) rfl rfl Try.func71 (by kernel_rfl) rfl #[.int .i64 ((rd_T108 l0_0 x29_2).f0), .int .i64 0, .int .i64 100] rfl (by (try simp only [List.map_toArray, List.map_cons, List.map_nil]); first | done | rfl | (simp only [List.length_drop, List.length_take]; rfl)) ?_; (with_reducible refine (impl_in.calls ((rd_T108 l0_0 x29_2).f0) 0 100 true _ A25.out).mono ?_); rintro e w' ⟨rfl, ⟨nd, rfl⟩⟩; refine ⟨_, rfl, ?_⟩; have hnb54 := NB102_101.out; have hnc54 := NB101_102.out; have hcz55_0 : w50.cell? ⟨gb102, 0, none⟩ = some (.int .i64 (l0_0.length : Int)) := (Zb BK102.out 0).trans rfl; have hfz55_0 := Zc BK102.out 0) | (go_at_call 71; (with_reducible refine (impl_in.calls ((rd_T108 l0_0 x29_2).f1) (-1) (wrap64 ((l0_0.length : Int) - 1)) true _ A27.out).mono ?_); rintro e w' ⟨rfl, ⟨nd, rfl⟩⟩) | (go_at_call 117; (with_reducible refine (impl_areMembers.calls k2 _ _ ((rd_T108 l0_0 x29_2).f4) (l0_0.length : Int) true _ ?side1 ?side2 A39.out).mono ?_); (case side1 => exact Kd.C_below HR104_4.out (by repeat (first | (with_reducible first | exact HB.out | apply Ze | apply Za | apply Zd | refine Zf ?_ GE101.out | refine Zf ?_ GE102.out | refine Zf ?_ GE105.out) | exact HB.out))); (case side2 => exact HC104_4.out); rintro e w' ⟨rfl, ⟨nd, rfl⟩⟩) | (go_at_call 63; (with_reducible refine (impl_areEntries.calls k2 _ _ ((rd_T108 l0_0 x29_2).f5) false _ ?side1 ?side2 A42.out).mono ?_); (case side1 => exact Kd.C_below HR104_5.out (by repeat (first | (with_reducible first | exact HB.out | apply Ze | apply Za | apply Zd | refine Zf ?_ GE101.out | refine Zf ?_ GE102.out | refine Zf ?_ GE105.out) | exact HB.out))); (case side2 => exact HC104_5.out); rintro e w' ⟨rfl, ⟨nd, rfl⟩⟩))
                go_ret
                exact ⟨by first | rfl | (simp [errW_none, errW_some] <;> rfl) | (simp [*, errW_none, errW_some] <;> rfl), by repeat (first | (with_reducible first | exact HB.out | apply Ze | apply Za | apply Zd | refine Zf ?_ GE101.out | refine Zf ?_ GE102.out | refine Zf ?_ GE105.out) | exact HB.out)⟩
              · exact absurd rfl c41
             ·replace c40 := Bool.eq_false_iff.mpr c40
              subst c40
              rw [if_neg (show ¬ (false = true) by decide)] at H
              obtain rfl := Option.some.inj H
              have p104 : 0 ≤ (x29_2 : Int) := of_decide_eq_true (by assumption)
              have q104 : x29_2 < (l0_0.length : Int) := of_decide_eq_true (by assumption)
              obtain ⟨ad104, A104_4, c104_4, A104_5, c104_5, e104, hx104_0, hx104_1, hx104_2, hx104_3, hx104_4, hx104_5, hl104_4, hi104_4, hl104_5, hi104_5⟩ := at_T108 HR0_0.out x29_2 p104 q104
              (try rw [← Nbq29.out] at hx104_2)
              (try rw [← Nbq31.out] at hx104_2)
              (try rw [← Nbq29.out] at hx104_3)
              (try rw [← Nbq31.out] at hx104_3)
              cases e104
              replace hx104_0 := (HB.out.cell (World.block_lt_of_cell? w _ hx104_0)).trans hx104_0
              replace hx104_1 := (HB.out.cell (World.block_lt_of_cell? w _ hx104_1)).trans hx104_1
              replace hx104_2 := (HB.out.cell (World.block_lt_of_cell? w _ hx104_2)).trans hx104_2
              replace hx104_3 := (HB.out.cell (World.block_lt_of_cell? w _ hx104_3)).trans hx104_3
              replace hx104_4 := (HB.out.cell (World.block_lt_of_cell? w _ hx104_4)).trans hx104_4
              replace hx104_5 := (HB.out.cell (World.block_lt_of_cell? w _ hx104_5)).trans hx104_5
              have HR104_4 := Aside0.mk hi104_4
              have HC104_4 := Aside0.mk hl104_4
              clear hi104_4 hl104_4
              have HR104_5 := Aside0.mk hi104_5
              have HC104_5 := Aside0.mk hl104_5
              clear hi104_5 hl104_5
              replace p104 := eq_true p104
              replace q104 := eq_true q104
              go_wp2_with (first | ((with_reducible refine Zt (N := 5) rfl ?_); (try (refine Zy (by rfl) ?_; dsimp only)); refine Zs ?hg (N := 5) ?hd (cs := #[.int .i64 0, .int .i64 0, .bool false, .bool false, .slice none 0 0, .slice none 0 0]) (t := 108) ?hr ?_; (case hd => rfl); (case hg => rfl); (case hr => first | (go_simp; done) | (go_simp; rfl)); intro gb105 hg w92 hbox hb; have n0_ := Aside0.mk (Zl (g := gb101) (o := .cells #[.slice (some ad104) l0_0.length c0_0, .slice A0_1 l0_1.length c0_1, .slice A0_2 l0_2.length c0_2] 54 (0, 0)) (by (with_reducible repeat (first | refine Zg ?_ _ | refine Zi ?_ | refine Zh ?_ _)); exact BK101.out) hb); have n1_ := Aside0.mk (Zl (g := gb102) (o := .cells #[.int .i64 (l0_0.length : Int)] 3 (0, 0)) (by (with_reducible repeat (first | refine Zg ?_ _ | refine Zi ?_ | refine Zh ?_ _)); exact BK102.out) hb); have n2_ := Aside0.mk (Zk (by repeat (first | (with_reducible first | exact HB.out | apply Ze | apply Za | apply Zd | refine Zf ?_ GE101.out | refine Zf ?_ GE102.out) | exact HB.out)) hb); have n3_ := Aside0.mk (hbox); have n4_ := Aside0.mk ((by rw [hg]; exact (Zj (by repeat (first | (with_reducible first | exact HB.out | apply Ze | apply Za | apply Zd | refine Zf ?_ GE101.out | refine Zf ?_ GE102.out) | exact HB.out))) : w.heap.size ≤ gb105)); have n5_ := n4_; have n6_ := Aside0.mk ((by rw [hg]; exact Nat.ne_of_lt (Zu (g := gb101) (o := .cells #[.slice (some ad104) l0_0.length c0_0, .slice A0_1 l0_1.length c0_1, .slice A0_2 l0_2.length c0_2] 54 (0, 0)) (by (with_reducible repeat (first | refine Zg ?_ _ | refine Zi ?_ | refine Zh ?_ _)); exact BK101.out)) : gb101 ≠ gb105)); have n7_ := Aside0.mk n6_.out.symm; have n8_ := Aside0.mk ((by rw [hg]; exact Nat.ne_of_lt (Zu (g := gb102) (o := .cells #[.int .i64 (l0_0.length : Int)] 3 (0, 0)) (by (with_reducible repeat (first | refine Zg ?_ _ | refine Zi ?_ | refine Zh ?_ _)); exact BK102.out)) : gb102 ≠ gb105)); have n9_ := Aside0.mk n8_.out.symm; clear BK101; clear BK102; clear HB; have BK101 := n0_; have BK102 := n1_; have HB := n2_; have BK105 := n3_; have GW105 := n4_; have GE105 := n5_; have NB101_105 := n6_; have NB105_101 := n7_; have NB102_105 := n8_; have NB105_102 := n9_; clear n0_ n1_ n2_ n3_ n4_ n5_ n6_ n7_ n8_ n9_; clear hb hbox hg; have hnb93 := NB105_101.out; have hnc93 := NB101_105.out; have hnb94 := NB105_102.out; have hnc94 := NB102_105.out; have hcz95_0 : w92.cell? ⟨gb105, 0, none⟩ = some (.int .i64 0) := (Zb BK105.out 0).trans rfl; have hcz95_1 : w92.cell? ⟨gb105, 1, none⟩ = some (.int .i64 0) := (Zb BK105.out 1).trans rfl; have hcz95_2 : w92.cell? ⟨gb105, 2, none⟩ = some (.bool false) := (Zb BK105.out 2).trans rfl; have hcz95_3 : w92.cell? ⟨gb105, 3, none⟩ = some (.bool false) := (Zb BK105.out 3).trans rfl; have hcz95_4 : w92.cell? ⟨gb105, 4, none⟩ = some (.slice none 0 0) := (Zb BK105.out 4).trans rfl; have hcz95_5 : w92.cell? ⟨gb105, 5, none⟩ = some (.slice none 0 0) := (Zb BK105.out 5).trans rfl; have hfz95_0 := Zc BK105.out 0; have hfz95_1 := Zc BK105.out 1; have hfz95_2 := Zc BK105.out 2; have hfz95_3 := Zc BK105.out 3; have hfz95_4 := Zc BK105.out 4; have hfz95_5 := Zc BK105.out 5) | ((with_reducible refine Zp (f := 71) rfl ?_); refine Zw (some 35) rfl rfl Try.func71 (by kernel_rfl) rfl #[.int .i64 ((rd_T108 l0_0 x29_2).f0), .int .i64 0, .int .i64 100] rfl (by (try simp only [List.map_toArray, List.map_cons, List.map_nil]); first | done | rfl | (simp only [List.length_drop, List.length_take]; rfl)) ?_; (with_reducible refine (impl_in.calls ((rd_T108 l0_0 x29_2).f0) 0 100 true _ A25.out).mono ?_); rintro e w' ⟨rfl, ⟨nd, rfl⟩⟩; refine ⟨_, rfl, ?_⟩; have hnb96 := NB102_101.out; have hnc96 := NB101_102.out; have hcz97_0 : w92.cell? ⟨gb102, 0, none⟩ = some (.int .i64 (l0_0.length : Int)) := (Zb BK102.out 0).trans rfl; have hfz97_0 := Zc BK102.out 0) | (go_at_call 71; (with_reducible refine (impl_in.calls ((rd_T108 l0_0 x29_2).f1) (-1) (wrap64 ((l0_0.length : Int) - 1)) true _ A27.out).mono ?_); rintro e w' ⟨rfl, ⟨nd, rfl⟩⟩) | (go_at_call 117; (with_reducible refine (impl_areMembers.calls k2 _ _ ((rd_T108 l0_0 x29_2).f4) (l0_0.length : Int) false _ ?side1 ?side2 A39.out).mono ?_); (case side1 => exact Kd.C_below HR104_4.out (by repeat (first | (with_reducible first | exact HB.out | apply Ze | apply Za | apply Zd | refine Zf ?_ GE101.out | refine Zf ?_ GE102.out | refine Zf ?_ GE105.out) | exact HB.out))); (case side2 => exact HC104_4.out); rintro e w' ⟨rfl, ⟨nd, rfl⟩⟩))
              go_ret
              exact ⟨by first | rfl | (simp [errW_none, errW_some] <;> rfl) | (simp [*, errW_none, errW_some] <;> rfl), by repeat (first | (with_reducible first | exact HB.out | apply Ze | apply Za | apply Zd | refine Zf ?_ GE101.out | refine Zf ?_ GE102.out | refine Zf ?_ GE105.out) | exact HB.out)⟩
           ·replace c30 := Bool.eq_false_iff.mpr c30
            subst c30
            rw [if_neg (show ¬ (false = true) by decide)] at H
            replace H := Option.bind_eq_some_iff.mp H
            obtain ⟨t112, A980, H⟩ := H
            have A98 := Aside0.mk A980
            clear A980
            by_cases c99 : t112 = true
            ·subst c99
             rw [if_pos rfl] at H
             by_cases c100 : (false = true)
             · exact absurd (show false = true from c100) (by decide)
             ·clear c100
              rw [if_neg (show ¬ (false = true) by decide)] at H
              obtain ⟨bq115, hbq115⟩ : ∃ b_ : Bool, b_ = ((rd_T108 l0_0 x29_2).f3) := ⟨_, rfl⟩
              replace H : (if (bq115 = true) then ((impl_areEntries.f k2 ((rd_T108 l0_0 x29_2).f5)).bind fun t114 => (if t114 = true then (impl_isElection.l0 k2 l0_0 (l0_0.length : Int) (wrap64 (x29_2 + 1)) l0_0 l0_1 l0_2 (l0_0.length : Int)) else (some false))) else (if (((rd_T108 l0_0 x29_2).f4).length : Int) > 0 then (some false) else ((impl_areEntries.f k2 ((rd_T108 l0_0 x29_2).f5)).bind fun t115 => (if t115 = true then (impl_isElection.l0 k2 l0_0 (l0_0.length : Int) (wrap64 (x29_2 + 1)) l0_0 l0_1 l0_2 (l0_0.length : Int)) else (some false))))) = some r := by rw [← hbq115] at H; exact H
              have Nbq115 := Aside0.mk hbq115
              clear hbq115
              by_cases c116 : (bq115 = true)
              ·subst c116
               rw [if_pos rfl] at H
               replace H := Option.bind_eq_some_iff.mp H
               obtain ⟨t114, A1170, H⟩ := H
               have A117 := Aside0.mk A1170
               clear A1170
               by_cases c118 : t114 = true
               ·subst c118
                rw [if_pos rfl] at H
                have H' := Aside0.mk H
                clear H
                have p104 : 0 ≤ (x29_2 : Int) := of_decide_eq_true (by assumption)
                have q104 : x29_2 < (l0_0.length : Int) := of_decide_eq_true (by assumption)
                obtain ⟨ad104, A104_4, c104_4, A104_5, c104_5, e104, hx104_0, hx104_1, hx104_2, hx104_3, hx104_4, hx104_5, hl104_4, hi104_4, hl104_5, hi104_5⟩ := at_T108 HR0_0.out x29_2 p104 q104
                (try rw [← Nbq29.out] at hx104_2)
                (try rw [← Nbq115.out] at hx104_2)
                (try rw [← Nbq29.out] at hx104_3)
                (try rw [← Nbq115.out] at hx104_3)
                cases e104
                replace hx104_0 := (HB.out.cell (World.block_lt_of_cell? w _ hx104_0)).trans hx104_0
                replace hx104_1 := (HB.out.cell (World.block_lt_of_cell? w _ hx104_1)).trans hx104_1
                replace hx104_2 := (HB.out.cell (World.block_lt_of_cell? w _ hx104_2)).trans hx104_2
                replace hx104_3 := (HB.out.cell (World.block_lt_of_cell? w _ hx104_3)).trans hx104_3
                replace hx104_4 := (HB.out.cell (World.block_lt_of_cell? w _ hx104_4)).trans hx104_4
                replace hx104_5 := (HB.out.cell (World.block_lt_of_cell? w _ hx104_5)).trans hx104_5
                have HR104_4 := Aside0.mk hi104_4
                have HC104_4 := Aside0.mk hl104_4
                clear hi104_4 hl104_4
                have HR104_5 := Aside0.mk hi104_5
                have HC104_5 := Aside0.mk hl104_5
                clear hi104_5 hl104_5
                replace p104 := eq_true p104
                replace q104 := eq_true q104
                go_wp2_with (first | ((with_reducible refine Zt (N := 5) rfl ?_); (try (refine Zy (by rfl) ?_; dsimp only)); refine Zs ?hg (N := 5) ?hd (cs := #[.int .i64 0, .int .i64 0, .bool false, .bool false, .slice none 0 0, .slice none 0 0]) (t := 108) ?hr ?_; (case hd => rfl); (case hg => rfl); (case hr => first | (go_simp; done) | (go_simp; rfl)); intro gb105 hg w119 hbox hb; have n0_ := Aside0.mk (Zl (g := gb101) (o := .cells #[.slice (some ad104) l0_0.length c0_0, .slice A0_1 l0_1.length c0_1, .slice A0_2 l0_2.length c0_2] 54 (0, 0)) (by (with_reducible repeat (first | refine Zg ?_ _ | refine Zi ?_ | refine Zh ?_ _)); exact BK101.out) hb); have n1_ := Aside0.mk (Zl (g := gb102) (o := .cells #[.int .i64 (l0_0.length : Int)] 3 (0, 0)) (by (with_reducible repeat (first | refine Zg ?_ _ | refine Zi ?_ | refine Zh ?_ _)); exact BK102.out) hb); have n2_ := Aside0.mk (Zk (by repeat (first | (with_reducible first | exact HB.out | apply Ze | apply Za | apply Zd | refine Zf ?_ GE101.out | refine Zf ?_ GE102.out) | exact HB.out)) hb); have n3_ := Aside0.mk (hbox); have n4_ := Aside0.mk ((by rw [hg]; exact (Zj (by repeat (first | (with_reducible first | exact HB.out | apply Ze | apply Za | apply Zd | refine Zf ?_ GE101.out | refine Zf ?_ GE102.out) | exact HB.out))) : w.heap.size ≤ gb105)); have n5_ := n4_; have n6_ := Aside0.mk ((by rw [hg]; exact Nat.ne_of_lt (Zu (g := gb101) (o := .cells #[.slice (some ad104) l0_0.length c0_0, .slice A0_1 l0_1.length c0_1, .slice A0_2 l0_2.length c0_2] 54 (0, 0)) (by (with_reducible repeat (first | refine Zg ?_ _ | refine Zi ?_ | refine Zh ?_ _)); exact BK101.out)) : gb101 ≠ gb105)); have n7_ := Aside0.mk n6_.out.symm; have n8_ := Aside0.mk ((by rw [hg]; exact Nat.ne_of_lt (Zu (g := gb102) (o := .cells #[.int .i64 (l0_0.length : Int)] 3 (0, 0)) (by (with_reducible repeat (first | refine Zg ?_ _ | refine Zi ?_ | refine Zh ?_ _)); exact BK102.out)) : gb102 ≠ gb105)); have n9_ := Aside0.mk n8_.out.symm; clear BK101; clear BK102; clear HB; have BK101 := n0_; have BK102 := n1_; have HB := n2_; have BK105 := n3_; have GW105 := n4_; have GE105 := n5_; have NB101_105 := n6_; have NB105_101 := n7_; have NB102_105 := n8_; have NB105_102 := n9_; clear n0_ n1_ n2_ n3_ n4_ n5_ n6_ n7_ n8_ n9_; clear hb hbox hg; have hnb120 := NB105_101.out; have hnc120 := NB101_105.out; have hnb121 := NB105_102.out; have hnc121 := NB102_105.out; have hcz122_0 : w119.cell? ⟨gb105, 0, none⟩ = some (.int .i64 0) := (Zb BK105.out 0).trans rfl; have hcz122_1 : w119.cell? ⟨gb105, 1, none⟩ = some (.int .i64 0) := (Zb BK105.out 1).trans rfl; have hcz122_2 : w119.cell? ⟨gb105, 2, none⟩ = some (.bool false) := (Zb BK105.out 2).trans rfl; have hcz122_3 : w119.cell? ⟨gb105, 3, none⟩ = some (.bool false) := (Zb BK105.out 3).trans rfl; have hcz122_4 : w119.cell? ⟨gb105, 4, none⟩ = some (.slice none 0 0) := (Zb BK105.out 4).trans rfl; have hcz122_5 : w119.cell? ⟨gb105, 5, none⟩ = some (.slice none 0 0) := (Zb BK105.out 5).trans rfl; have hfz122_0 := Zc BK105.out 0; have hfz122_1 := Zc BK105.out 1; have hfz122_2 := Zc BK105.out 2; have hfz122_3 := Zc BK105.out 3; have hfz122_4 := Zc BK105.out 4; have hfz122_5 := Zc BK105.out 5) | ((with_reducible refine Zp (f := 71) rfl ?_); refine Zw (some 35) rfl rfl Try.func71 (by kernel_rfl) rfl #[.int .i64 ((rd_T108 l0_0 x29_2).f0), .int .i64 0, .int .i64 100] rfl (by (try simp only [List.map_toArray, List.map_cons, List.map_nil]); first | done | rfl | (simp only [List.length_drop, List.length_take]; rfl)) ?_; (with_reducible refine (impl_in.calls ((rd_T108 l0_0 x29_2).f0) 0 100 true _ A25.out).mono ?_); rintro e w' ⟨rfl, ⟨nd, rfl⟩⟩; refine ⟨_, rfl, ?_⟩; have hnb123 := NB102_101.out; have hnc123 := NB101_102.out; have hcz124_0 : w119.cell? ⟨gb102, 0, none⟩ = some (.int .i64 (l0_0.length : Int)) := (Zb BK102.out 0).trans rfl; have hfz124_0 := Zc BK102.out 0) | (go_at_call 71; (with_reducible refine (impl_in.calls ((rd_T108 l0_0 x29_2).f1) (-1) (wrap64 ((l0_0.length : Int) - 1)) true _ A27.out).mono ?_); rintro e w' ⟨rfl, ⟨nd, rfl⟩⟩) | (go_at_call 117; (with_reducible refine (impl_areMembers.calls k2 _ _ ((rd_T108 l0_0 x29_2).f4) (l0_0.length : Int) true _ ?side1 ?side2 A98.out).mono ?_); (case side1 => exact Kd.C_below HR104_4.out (by repeat (first | (with_reducible first | exact HB.out | apply Ze | apply Za | apply Zd | refine Zf ?_ GE101.out | refine Zf ?_ GE102.out | refine Zf ?_ GE105.out) | exact HB.out))); (case side2 => exact HC104_4.out); rintro e w' ⟨rfl, ⟨nd, rfl⟩⟩) | (go_at_call 63; (with_reducible refine (impl_areEntries.calls k2 _ _ ((rd_T108 l0_0 x29_2).f5) true _ ?side1 ?side2 A117.out).mono ?_); (case side1 => exact Kd.C_below HR104_5.out (by repeat (first | (with_reducible first | exact HB.out | apply Ze | apply Za | apply Zd | refine Zf ?_ GE101.out | refine Zf ?_ GE102.out | refine Zf ?_ GE105.out) | exact HB.out))); (case side2 => exact HC104_5.out); rintro e w' ⟨rfl, ⟨nd, rfl⟩⟩))
                go_roundg k2
                case measure => have := HJ1.out; have := HK2.out; omega
                case rel => (try simp only [← Nbq29.out]); (try simp only [← Nbq115.out]); exact ⟨(wrap64 (x29_2 + 1)), (by first | rfl | (simp; done) | (simp [*]; done)), H', ⟨by have := HJ1.out; have := HK2.out; omega⟩, ⟨by (with_reducible repeat (first | refine Zg ?_ _ | refine Zi ?_ | refine Zh ?_ _)); refine Zq ?_ NB101_105.out _; (with_reducible repeat (first | refine Zg ?_ _ | refine Zi ?_ | refine Zh ?_ _)); refine Zq ?_ NB101_105.out _; (with_reducible repeat (first | refine Zg ?_ _ | refine Zi ?_ | refine Zh ?_ _)); refine Zq ?_ NB101_105.out _; (with_reducible repeat (first | refine Zg ?_ _ | refine Zi ?_ | refine Zh ?_ _)); refine Zq ?_ NB101_105.out _; (with_reducible repeat (first | refine Zg ?_ _ | refine Zi ?_ | refine Zh ?_ _)); refine Zq ?_ NB101_105.out _; (with_reducible repeat (first | refine Zg ?_ _ | refine Zi ?_ | refine Zh ?_ _)); refine Zq ?_ NB101_105.out _; (with_reducible repeat (first | refine Zg ?_ _ | refine Zi ?_ | refine Zh ?_ _)); exact BK101.out⟩, ⟨by (with_reducible repeat (first | refine Zg ?_ _ | refine Zi ?_ | refine Zh ?_ _)); refine Zq ?_ NB102_105.out _; (with_reducible repeat (first | refine Zg ?_ _ | refine Zi ?_ | refine Zh ?_ _)); refine Zq ?_ NB102_105.out _; (with_reducible repeat (first | refine Zg ?_ _ | refine Zi ?_ | refine Zh ?_ _)); refine Zq ?_ NB102_105.out _; (with_reducible repeat (first | refine Zg ?_ _ | refine Zi ?_ | refine Zh ?_ _)); refine Zq ?_ NB102_105.out _; (with_reducible repeat (first | refine Zg ?_ _ | refine Zi ?_ | refine Zh ?_ _)); refine Zq ?_ NB102_105.out _; (with_reducible repeat (first | refine Zg ?_ _ | refine Zi ?_ | refine Zh ?_ _)); refine Zq ?_ NB102_105.out _; (with_reducible repeat (first | refine Zg ?_ _ | refine Zi ?_ | refine Zh ?_ _)); exact BK102.out⟩, ⟨by repeat (first | (with_reducible first | exact HB.out | apply Ze | apply Za | apply Zd | refine Zf ?_ GE101.out | refine Zf ?_ GE102.out | refine Zf ?_ GE105.out) | exact HB.out)⟩⟩
               ·replace c118 := Bool.eq_false_iff.mpr c118
                subst c118
                rw [if_neg (show ¬ (false = true) by decide)] at H
                obtain rfl := Option.some.inj H
                have p104 : 0 ≤ (x29_2 : Int) := of_decide_eq_true (by assumption)
                have q104 : x29_2 < (l0_0.length : Int) := of_decide_eq_true (by assumption)
                obtain ⟨ad104, A104_4, c104_4, A104_5, c104_5, e104, hx104_0, hx104_1, hx104_2, hx104_3, hx104_4, hx104_5, hl104_4, hi104_4, hl104_5, hi104_5⟩ := at_T108 HR0_0.out x29_2 p104 q104
                (try rw [← Nbq29.out] at hx104_2)
                (try rw [← Nbq115.out] at hx104_2)
                (try rw [← Nbq29.out] at hx104_3)
                (try rw [← Nbq115.out] at hx104_3)
                cases e104
                replace hx104_0 := (HB.out.cell (World.block_lt_of_cell? w _ hx104_0)).trans hx104_0
                replace hx104_1 := (HB.out.cell (World.block_lt_of_cell? w _ hx104_1)).trans hx104_1
                replace hx104_2 := (HB.out.cell (World.block_lt_of_cell? w _ hx104_2)).trans hx104_2
                replace hx104_3 := (HB.out.cell (World.block_lt_of_cell? w _ hx104_3)).trans hx104_3
                replace hx104_4 := (HB.out.cell (World.block_lt_of_cell? w _ hx104_4)).trans hx104_4
                replace hx104_5 := (HB.out.cell (World.block_lt_of_cell? w _ hx104_5)).trans hx104_5
                have HR104_4 := Aside0.mk hi104_4
                have HC104_4 := Aside0.mk hl104_4
                clear hi104_4 hl104_4
                have HR104_5 := Aside0.mk hi104_5
                have HC104_5 := Aside0.mk hl104_5
                clear hi104_5 hl104_5
                replace p104 := eq_true p104
                replace q104 := eq_true q104
                go_wp2_with (first | ((with_reducible refine Zt (N := 5) rfl ?_); (try (refine Zy (by rfl) ?_; dsimp only)); refine Zs ?hg (N := 5) ?hd (cs := #[.int .i64 0, .int .i64 0, .bool false, .bool false, .slice none 0 0, .slice none 0 0]) (t := 108) ?hr ?_; (case hd => rfl); (case hg => rfl); (case hr => first | (go_simp; done) | (go_simp; rfl)); intro gb105 hg w125 hbox hb; have n0_ := Aside0.mk (Zl (g := gb101) (o := .cells #[.slice (some ad104) l0_0.length c0_0, .slice A0_1 l0_1.length c0_1, .slice A0_2 l0_2.length c0_2] 54 (0, 0)) (by (with_reducible repeat (first | refine Zg ?_ _ | refine Zi ?_ | refine Zh ?_ _)); exact BK101.out) hb); have n1_ := Aside0.mk (Zl (g := gb102) (o := .cells #[.int .i64 (l0_0.length : Int)] 3 (0, 0)) (by (with_reducible repeat (first | refine Zg ?_ _ | refine Zi ?_ | refine Zh ?_ _)); exact BK102.out) hb); have n2_ := Aside0.mk (Zk (by repeat (first | (with_reducible first | exact HB.out | apply Ze | apply Za | apply Zd | refine Zf ?_ GE101.out | refine Zf ?_ GE102.out) | exact HB.out)) hb); have n3_ := Aside0.mk (hbox); have n4_ := Aside0.mk ((by rw [hg]; exact (Zj (by repeat (first | (with_reducible first | exact HB.out | apply Ze | apply Za | apply Zd | refine Zf ?_ GE101.out | refine Zf ?_ GE102.out) | exact HB.out))) : w.heap.size ≤ gb105)); have n5_ := n4_; have n6_ := Aside0.mk ((by rw [hg]; exact Nat.ne_of_lt (Zu (g := gb101) (o := .cells #[.slice (some ad104) l0_0.length c0_0, .slice A0_1 l0_1.length c0_1, .slice A0_2 l0_2.length c0_2] 54 (0, 0)) (by (with_reducible repeat (first | refine Zg ?_ _ | refine Zi ?_ | refine Zh ?_ _)); exact BK101.out)) : gb101 ≠ gb105)); have n7_ := Aside0.mk n6_.out.symm; have n8_ := Aside0.mk ((by rw [hg]; exact Nat.ne_of_lt (Zu (g := gb102) (o := .cells #[.int .i64 (l0_0.length : Int)] 3 (0, 0)) (by (with_reducible repeat (first | refine Zg ?_ _ | refine Zi ?_ | refine Zh ?_ _)); exact BK102.out)) : gb102 ≠ gb105)); have n9_ := Aside0.mk n8_.out.symm; clear BK101; clear BK102; clear HB; have BK101 := n0_; have BK102 := n1_; have HB := n2_; have BK105 := n3_; have GW105 := n4_; have GE105 := n5_; have NB101_105 := n6_; have NB105_101 := n7_; have NB102_105 := n8_; have NB105_102 := n9_; clear n0_ n1_ n2_ n3_ n4_ n5_ n6_ n7_ n8_ n9_; clear hb hbox hg; have hnb126 := NB105_101.out; have hnc126 := NB101_105.out; have hnb127 := NB105_102.out; have hnc127 := NB102_105.out; have hcz128_0 : w125.cell? ⟨gb105, 0, none⟩ = some (.int .i64 0) := (Zb BK105.out 0).trans rfl; have hcz128_1 : w125.cell? ⟨gb105, 1, none⟩ = some (.int .i64 0) := (Zb BK105.out 1).trans rfl; have hcz128_2 : w125.cell? ⟨gb105, 2, none⟩ = some (.bool false) := (Zb BK105.out 2).trans rfl; have hcz128_3 : w125.cell? ⟨gb105, 3, none⟩ = some (.bool false) := (Zb BK105.out 3).trans rfl; have hcz128_4 : w125.cell? ⟨gb105, 4, none⟩ = some (.slice none 0 0) := (Zb BK105.out 4).trans rfl; have hcz128_5 : w125.cell? ⟨gb105, 5, none⟩ = some (.slice none 0 0) := (Zb BK105.out 5).trans rfl; have hfz128_0 := Zc BK105.out 0; have hfz128_1 := Zc BK105.out 1; have hfz128_2 := Zc BK105.out 2; have hfz128_3 := Zc BK105.out 3; have hfz128_4 := Zc BK105.out 4; have hfz128_5 := Zc BK105.out 5) | ((with_reducible refine Zp (f := 71) rfl ?_); refine Zw (some 35) rfl rfl Try.func71 (by kernel_rfl) rfl #[.int .i64 ((rd_T108 l0_0 x29_2).f0), .int .i64 0, .int .i64 100] rfl (by (try simp only [List.map_toArray, List.map_cons, List.map_nil]); first | done | rfl | (simp only [List.length_drop, List.length_take]; rfl)) ?_; (with_reducible refine (impl_in.calls ((rd_T108 l0_0 x29_2).f0) 0 100 true _ A25.out).mono ?_); rintro e w' ⟨rfl, ⟨nd, rfl⟩⟩; refine ⟨_, rfl, ?_⟩; have hnb129 := NB102_101.out; have hnc129 := NB101_102.out; have hcz130_0 : w125.cell? ⟨gb102, 0, none⟩ = some (.int .i64 (l0_0.length : Int)) := (Zb BK102.out 0).trans rfl; have hfz130_0 := Zc BK102.out 0) | (go_at_call 71; (with_reducible refine (impl_in.calls ((rd_T108 l0_0 x29_2).f1) (-1) (wrap64 ((l0_0.length : Int) - 1)) true _ A27.out).mono ?_); rintro e w' ⟨rfl, ⟨nd, rfl⟩⟩) | (go_at_call 117; (with_reducible refine (impl_areMembers.calls k2 _ _ ((rd_T108 l0_0 x29_2).f4) (l0_0.length : Int) true _ ?side1 ?side2 A98.out).mono ?_); (case side1 => exact Kd.C_below HR104_4.out (by repeat (first | (with_reducible first | exact HB.out | apply Ze | apply Za | apply Zd | refine Zf ?_ GE101.out | refine Zf ?_ GE102.out | refine Zf ?_ GE105.out) | exact HB.out))); (case side2 => exact HC104_4.out); rintro e w' ⟨rfl, ⟨nd, rfl⟩⟩) | (go_at_call 63; (with_reducible refine (impl_areEntries.calls k2 _ _ ((rd_T108 l0_0 x29_2).f5) false _ ?side1 ?side2 A117.out).mono ?_); (case side1 => exact Kd.C_below HR104_5.out (by repeat (first | (with_reducible first | exact HB.out | apply Ze | apply Za | apply Zd | refine Zf ?_ GE101.out | refine Zf ?_ GE102.out | refine Zf ?_ GE105.out) | exact HB.out))); (case side2 => exact HC104_5.out); rintro e w' ⟨rfl, ⟨nd, rfl⟩⟩))
                go_ret
                exact ⟨by first | rfl | (simp [errW_none, errW_some] <;> rfl) | (simp [*, errW_none, errW_some] <;> rfl), by repeat (first | (with_reducible first | exact HB.out | apply Ze | apply Za | apply Zd | refine Zf ?_ GE101.out | refine Zf ?_ GE102.out | refine Zf ?_ GE105.out) | exact HB.out)⟩
              ·replace c116 := Bool.eq_false_iff.mpr c116
               subst c116
               rw [if_neg (show ¬ (false = true) by decide)] at H
               by_cases c131 : (((rd_T108 l0_0 x29_2).f4).length : Int) > 0
               ·rw [if_pos c131] at H
                have c131b0 : decide (0 < (((rd_T108 l0_0 x29_2).f4).length : Int)) = true := decide_eq_true c131
                have c131b1 : decide (0 < ((rd_T108 l0_0 x29_2).f4).length) = true := decide_eq_true (by omega)
                clear c131
                obtain rfl := Option.some.inj H
                have p104 : 0 ≤ (x29_2 : Int) := of_decide_eq_true (by assumption)
                have q104 : x29_2 < (l0_0.length : Int) := of_decide_eq_true (by assumption)
                obtain ⟨ad104, A104_4, c104_4, A104_5, c104_5, e104, hx104_0, hx104_1, hx104_2, hx104_3, hx104_4, hx104_5, hl104_4, hi104_4, hl104_5, hi104_5⟩ := at_T108 HR0_0.out x29_2 p104 q104
                (try rw [← Nbq29.out] at hx104_2)
                (try rw [← Nbq115.out] at hx104_2)
                (try rw [← Nbq29.out] at hx104_3)
                (try rw [← Nbq115.out] at hx104_3)
                cases e104
                replace hx104_0 := (HB.out.cell (World.block_lt_of_cell? w _ hx104_0)).trans hx104_0
                replace hx104_1 := (HB.out.cell (World.block_lt_of_cell? w _ hx104_1)).trans hx104_1
                replace hx104_2 := (HB.out.cell (World.block_lt_of_cell? w _ hx104_2)).trans hx104_2
                replace hx104_3 := (HB.out.cell (World.block_lt_of_cell? w _ hx104_3)).trans hx104_3
                replace hx104_4 := (HB.out.cell (World.block_lt_of_cell? w _ hx104_4)).trans hx104_4
                replace hx104_5 := (HB.out.cell (World.block_lt_of_cell? w _ hx104_5)).trans hx104_5
                have HR104_4 := Aside0.mk hi104_4
                have HC104_4 := Aside0.mk hl104_4
                clear hi104_4 hl104_4
                have HR104_5 := Aside0.mk hi104_5
                have HC104_5 := Aside0.mk hl104_5
                clear hi104_5 hl104_5
                replace p104 := eq_true p104
                replace q104 := eq_true q104
                go_wp2_with (first | ((with_reducible refine Zt (N := 5) rfl ?_); (try (refine Zy (by rfl) ?_; dsimp only)); refine Zs ?hg (N := 5) ?hd (cs := #[.int .i64 0, .int .i64 0, .bool false, .bool false, .slice none 0 0, .slice none 0 0]) (t := 108) ?hr ?_; (case hd => rfl); (case hg => rfl); (case hr => first | (go_simp; done) | (go_simp; rfl)); intro gb105 hg w132 hbox hb; have n0_ := Aside0.mk (Zl (g := gb101) (o := .cells #[.slice (some ad104) l0_0.length c0_0, .slice A0_1 l0_1.length c0_1, .slice A0_2 l0_2.length c0_2] 54 (0, 0)) (by (with_reducible repeat (first | refine Zg ?_ _ | refine Zi ?_ | refine Zh ?_ _)); exact BK101.out) hb); have n1_ := Aside0.mk (Zl (g := gb102) (o := .cells #[.int .i64 (l0_0.length : Int)] 3 (0, 0)) (by (with_reducible repeat (first | refine Zg ?_ _ | refine Zi ?_ | refine Zh ?_ _)); exact BK102.out) hb); have n2_ := Aside0.mk (Zk (by repeat (first | (with_reducible first | exact HB.out | apply Ze | apply Za | apply Zd | refine Zf ?_ GE101.out | refine Zf ?_ GE102.out) | exact HB.out)) hb); have n3_ := Aside0.mk (hbox); have n4_ := Aside0.mk ((by rw [hg]; exact (Zj (by repeat (first | (with_reducible first | exact HB.out | apply Ze | apply Za | apply Zd | refine Zf ?_ GE101.out | refine Zf ?_ GE102.out) | exact HB.out))) : w.heap.size ≤ gb105)); have n5_ := n4_; have n6_ := Aside0.mk ((by rw [hg]; exact Nat.ne_of_lt (Zu (g := gb101) (o := .cells #[.slice (some ad104) l0_0.length c0_0, .slice A0_1 l0_1.length c0_1, .slice A0_2 l0_2.length c0_2] 54 (0, 0)) (by (with_reducible repeat (first | refine Zg ?_ _ | refine Zi ?_ | refine Zh ?_ _)); exact BK101.out)) : gb101 ≠ gb105)); have n7_ := Aside0.mk n6_.out.symm; have n8_ := Aside0.mk ((by rw [hg]; exact Nat.ne_of_lt (Zu (g := gb102) (o := .cells #[.int .i64 (l0_0.length : Int)] 3 (0, 0)) (by (with_reducible repeat (first | refine Zg ?_ _ | refine Zi ?_ | refine Zh ?_ _)); exact BK102.out)) : gb102 ≠ gb105)); have n9_ := Aside0.mk n8_.out.symm; clear BK101; clear BK102; clear HB; have BK101 := n0_; have BK102 := n1_; have HB := n2_; have BK105 := n3_; have GW105 := n4_; have GE105 := n5_; have NB101_105 := n6_; have NB105_101 := n7_; have NB102_105 := n8_; have NB105_102 := n9_; clear n0_ n1_ n2_ n3_ n4_ n5_ n6_ n7_ n8_ n9_; clear hb hbox hg; have hnb133 := NB105_101.out; have hnc133 := NB101_105.out; have hnb134 := NB105_102.out; have hnc134 := NB102_105.out; have hcz135_0 : w132.cell? ⟨gb105, 0, none⟩ = some (.int .i64 0) := (Zb BK105.out 0).trans rfl; have hcz135_1 : w132.cell? ⟨gb105, 1, none⟩ = some (.int .i64 0) := (Zb BK105.out 1).trans rfl; have hcz135_2 : w132.cell? ⟨gb105, 2, none⟩ = some (.bool false) := (Zb BK105.out 2).trans rfl; have hcz135_3 : w132.cell? ⟨gb105, 3, none⟩ = some (.bool false) := (Zb BK105.out 3).trans rfl; have hcz135_4 : w132.cell? ⟨gb105, 4, none⟩ = some (.slice none 0 0) := (Zb BK105.out 4).trans rfl; have hcz135_5 : w132.cell? ⟨gb105, 5, none⟩ = some (.slice none 0 0) := (Zb BK105.out 5).trans rfl; have hfz135_0 := Zc BK105.out 0; have hfz135_1 := Zc BK105.out 1; have hfz135_2 := Zc BK105.out 2; have hfz135_3 := Zc BK105.out 3; have hfz135_4 := Zc BK105.out 4; have hfz135_5 := Zc BK105.out 5) | ((with_reducible refine Zp (f := 71) rfl ?_); refine Zw (some 35) rfl rfl Try.func71 (by kernel_rfl) rfl #[.int .i64 ((rd_T108 l0_0 x29_2).f0), .int .i64 0, .int .i64 100] rfl (by (try simp only [List.map_toArray, List.map_cons, List.map_nil]); first | done | rfl | (simp only [List.length_drop, List.length_take]; rfl)) ?_; (with_reducible refine (impl_in.calls ((rd_T108 l0_0 x29_2).f0) 0 100 true _ A25.out).mono ?_); rintro e w' ⟨rfl, ⟨nd, rfl⟩⟩; refine ⟨_, rfl, ?_⟩; have hnb136 := NB102_101.out; have hnc136 := NB101_102.out; have hcz137_0 : w132.cell? ⟨gb102, 0, none⟩ = some (.int .i64 (l0_0.length : Int)) := (Zb BK102.out 0).trans rfl; have hfz137_0 := Zc BK102.out 0) | (go_at_call 71; (with_reducible refine (impl_in.calls ((rd_T108 l0_0 x29_2).f1) (-1) (wrap64 ((l0_0.length : Int) - 1)) true _ A27.out).mono ?_); rintro e w' ⟨rfl, ⟨nd, rfl⟩⟩) | (go_at_call 117; (with_reducible refine (impl_areMembers.calls k2 _ _ ((rd_T108 l0_0 x29_2).f4) (l0_0.length : Int) true _ ?side1 ?side2 A98.out).mono ?_); (case side1 => exact Kd.C_below HR104_4.out (by repeat (first | (with_reducible first | exact HB.out | apply Ze | apply Za | apply Zd | refine Zf ?_ GE101.out | refine Zf ?_ GE102.out | refine Zf ?_ GE105.out) | exact HB.out))); (case side2 => exact HC104_4.out); rintro e w' ⟨rfl, ⟨nd, rfl⟩⟩))
                go_ret
                exact ⟨by first | rfl | (simp [errW_none, errW_some] <;> rfl) | (simp [*, errW_none, errW_some] <;> rfl), by repeat (first | (with_reducible first | exact HB.out | apply Ze | apply Za | apply Zd | refine Zf ?_ GE101.out | refine Zf ?_ GE102.out | refine Zf ?_ GE105.out) | exact HB.out)⟩
               ·rw [if_neg c131] at H
                have c131b0 : decide (0 < (((rd_T108 l0_0 x29_2).f4).length : Int)) = false := decide_eq_false c131
                have c131b1 : decide (0 < ((rd_T108 l0_0 x29_2).f4).length) = false := decide_eq_false (by omega)
                clear c131
                replace H := Option.bind_eq_some_iff.mp H
                obtain ⟨t115, A1380, H⟩ := H
                have A138 := Aside0.mk A1380
                clear A1380
                by_cases c139 : t115 = true
                ·subst c139
                 rw [if_pos rfl] at H
                 have H' := Aside0.mk H
                 clear H
                 have p104 : 0 ≤ (x29_2 : Int) := of_decide_eq_true (by assumption)
                 have q104 : x29_2 < (l0_0.length : Int) := of_decide_eq_true (by assumption)
                 obtain ⟨ad104, A104_4, c104_4, A104_5, c104_5, e104, hx104_0, hx104_1, hx104_2, hx104_3, hx104_4, hx104_5, hl104_4, hi104_4, hl104_5, hi104_5⟩ := at_T108 HR0_0.out x29_2 p104 q104
                 (try rw [← Nbq29.out] at hx104_2)
                 (try rw [← Nbq115.out] at hx104_2)
                 (try rw [← Nbq29.out] at hx104_3)
                 (try rw [← Nbq115.out] at hx104_3)
                 cases e104
                 replace hx104_0 := (HB.out.cell (World.block_lt_of_cell? w _ hx104_0)).trans hx104_0
                 replace hx104_1 := (HB.out.cell (World.block_lt_of_cell? w _ hx104_1)).trans hx104_1
                 replace hx104_2 := (HB.out.cell (World.block_lt_of_cell? w _ hx104_2)).trans hx104_2
                 replace hx104_3 := (HB.out.cell (World.block_lt_of_cell? w _ hx104_3)).trans hx104_3
                 replace hx104_4 := (HB.out.cell (World.block_lt_of_cell? w _ hx104_4)).trans hx104_4
                 replace hx104_5 := (HB.out.cell (World.block_lt_of_cell? w _ hx104_5)).trans hx104_5
                 have HR104_4 := Aside0.mk hi104_4
                 have HC104_4 := Aside0.mk hl104_4
                 clear hi104_4 hl104_4
                 have HR104_5 := Aside0.mk hi104_5
                 have HC104_5 := Aside0.mk hl104_5
                 clear hi104_5 hl104_5
                 replace p104 := eq_true p104
                 replace q104 := eq_true q104
                 go_wp2_with (first | ((with_reducible refine Zt (N := 5) rfl ?_); (try (refine Zy (by rfl) ?_; dsimp only)); refine Zs ?hg (N := 5) ?hd (cs := #[.int .i64 0, .int .i64 0, .bool false, .bool false, .slice none 0 0, .slice none 0 0]) (t := 108) ?hr ?_; (case hd => rfl); (case hg => rfl); (case hr => first | (go_simp; done) | (go_simp; rfl)); intro gb105 hg w140 hbox hb; have n0_ := Aside0.mk (Zl (g := gb101) (o := .cells #[.slice (some ad104) l0_0.length c0_0, .slice A0_1 l0_1.length c0_1, .slice A0_2 l0_2.length c0_2] 54 (0, 0)) (by (with_reducible repeat (first | refine Zg ?_ _ | refine Zi ?_ | refine Zh ?_ _)); exact BK101.out) hb); have n1_ := Aside0.mk (Zl (g := gb102) (o := .cells #[.int .i64 (l0_0.length : Int)] 3 (0, 0)) (by (with_reducible repeat (first | refine Zg ?_ _ | refine Zi ?_ | refine Zh ?_ _)); exact BK102.out) hb); have n2_ := Aside0.mk (Zk (by repeat (first | (with_reducible first | exact HB.out | apply Ze | apply Za | apply Zd | refine Zf ?_ GE101.out | refine Zf ?_ GE102.out) | exact HB.out)) hb); have n3_ := Aside0.mk (hbox); have n4_ := Aside0.mk ((by rw [hg]; exact (Zj (by repeat (first | (with_reducible first | exact HB.out | apply Ze | apply Za | apply Zd | refine Zf ?_ GE101.out | refine Zf ?_ GE102.out) | exact HB.out))) : w.heap.size ≤ gb105)); have n5_ := n4_; have n6_ := Aside0.mk ((by rw [hg]; exact Nat.ne_of_lt (Zu (g := gb101) (o := .cells #[.slice (some ad104) l0_0.length c0_0, .slice A0_1 l0_1.length c0_1, .slice A0_2 l0_2.length c0_2] 54 (0, 0)) (by (with_reducible repeat (first | refine Zg ?_ _ | refine Zi ?_ | refine Zh ?_ _)); exact BK101.out)) : gb101 ≠ gb105)); have n7_ := Aside0.mk n6_.out.symm; have n8_ := Aside0.mk ((by rw [hg]; exact Nat.ne_of_lt (Zu (g := gb102) (o := .cells #[.int .i64 (l0_0.length : Int)] 3 (0, 0)) (by (with_reducible repeat (first | refine Zg ?_ _ | refine Zi ?_ | refine Zh ?_ _)); exact BK102.out)) : gb102 ≠ gb105)); have n9_ := Aside0.mk n8_.out.symm; clear BK101; clear BK102; clear HB; have BK101 := n0_; have BK102 := n1_; have HB := n2_; have BK105 := n3_; have GW105 := n4_; have GE105 := n5_; have NB101_105 := n6_; have NB105_101 := n7_; have NB102_105 := n8_; have NB105_102 := n9_; clear n0_ n1_ n2_ n3_ n4_ n5_ n6_ n7_ n8_ n9_; clear hb hbox hg; have hnb141 := NB105_101.out; have hnc141 := NB101_105.out; have hnb142 := NB105_102.out; have hnc142 := NB102_105.out; have hcz143_0 : w140.cell? ⟨gb105, 0, none⟩ = some (.int .i64 0) := (Zb BK105.out 0).trans rfl; have hcz143_1 : w140.cell? ⟨gb105, 1, none⟩ = some (.int .i64 0) := (Zb BK105.out 1).trans rfl; have hcz143_2 : w140.cell? ⟨gb105, 2, none⟩ = some (.bool false) := (Zb BK105.out 2).trans rfl; have hcz143_3 : w140.cell? ⟨gb105, 3, none⟩ = some (.bool false) := (Zb BK105.out 3).trans rfl; have hcz143_4 : w140.cell? ⟨gb105, 4, none⟩ = some (.slice none 0 0) := (Zb BK105.out 4).trans rfl; have hcz143_5 : w140.cell? ⟨gb105, 5, none⟩ = some (.slice none 0 0) := (Zb BK105.out 5).trans rfl; have hfz143_0 := Zc BK105.out 0; have hfz143_1 := Zc BK105.out 1; have hfz143_2 := Zc BK105.out 2; have hfz143_3 := Zc BK105.out 3; have hfz143_4 := Zc BK105.out 4; have hfz143_5 := Zc BK105.out 5) | ((with_reducible refine Zp (f := 71) rfl ?_); refine Zw (some 35) rfl rfl Try.func71 (by kernel_rfl) rfl #[.int .i64 ((rd_T108 l0_0 x29_2).f0), .int .i64 0, .int .i64 100] rfl (by (try simp only [List.map_toArray, List.map_cons, List.map_nil]); first | done | rfl | (simp only [List.length_drop, List.length_take]; rfl)) ?_; (with_reducible refine (impl_in.calls ((rd_T108 l0_0 x29_2).f0) 0 100 true _ A25.out).mono ?_); rintro e w' ⟨rfl, ⟨nd, rfl⟩⟩; refine ⟨_, rfl, ?_⟩; have hnb144 := NB102_101.out; have hnc144 := NB101_102.out; have hcz145_0 : w140.cell? ⟨gb102, 0, none⟩ = some (.int .i64 (l0_0.length : Int)) := (Zb BK102.out 0).trans rfl; have hfz145_0 := Zc BK102.out 0) | (go_at_call 71; (with_reducible refine (impl_in.calls ((rd_T108 l0_0 x29_2).f1) (-1) (wrap64 ((l0_0.length : Int) - 1)) true _ A27.out).mono ?_); rintro e w' ⟨rfl, ⟨nd, rfl⟩⟩) | (go_at_call 117; (with_reducible refine (impl_areMembers.calls k2 _ _ ((rd_T108 l0_0 x29_2).f4) (l0_0.length : Int) true _ ?side1 ?side2 A98.out).mono ?_); (case side1 => exact Kd.C_below HR104_4.out (by repeat (first | (with_reducible first | exact HB.out | apply Ze | apply Za | apply Zd | refine Zf ?_ GE101.out | refine Zf ?_ GE102.out | refine Zf ?_ GE105.out) | exact HB.out))); (case side2 => exact HC104_4.out); rintro e w' ⟨rfl, ⟨nd, rfl⟩⟩) | (go_at_call 63; (with_reducible refine (impl_areEntries.calls k2 _ _ ((rd_T108 l0_0 x29_2).f5) true _ ?side1 ?side2 A138.out).mono ?_); (case side1 => exact Kd.C_below HR104_5.out (by repeat (first | (with_reducible first | exact HB.out | apply Ze | apply Za | apply Zd | refine Zf ?_ GE101.out | refine Zf ?_ GE102.out | refine Zf ?_ GE105.out) | exact HB.out))); (case side2 => exact HC104_5.out); rintro e w' ⟨rfl, ⟨nd, rfl⟩⟩))
                 go_roundg k2
                 case measure => have := HJ1.out; have := HK2.out; omega
                 case rel => (try simp only [← Nbq29.out]); (try simp only [← Nbq115.out]); exact ⟨(wrap64 (x29_2 + 1)), (by first | rfl | (simp; done) | (simp [*]; done)), H', ⟨by have := HJ1.out; have := HK2.out; omega⟩, ⟨by (with_reducible repeat (first | refine Zg ?_ _ | refine Zi ?_ | refine Zh ?_ _)); refine Zq ?_ NB101_105.out _; (with_reducible repeat (first | refine Zg ?_ _ | refine Zi ?_ | refine Zh ?_ _)); refine Zq ?_ NB101_105.out _; (with_reducible repeat (first | refine Zg ?_ _ | refine Zi ?_ | refine Zh ?_ _)); refine Zq ?_ NB101_105.out _; (with_reducible repeat (first | refine Zg ?_ _ | refine Zi ?_ | refine Zh ?_ _)); refine Zq ?_ NB101_105.out _; (with_reducible repeat (first | refine Zg ?_ _ | refine Zi ?_ | refine Zh ?_ _)); refine Zq ?_ NB101_105.out _; (with_reducible repeat (first | refine Zg ?_ _ | refine Zi ?_ | refine Zh ?_ _)); refine Zq ?_ NB101_105.out _; (with_reducible repeat (first | refine Zg ?_ _ | refine Zi ?_ | refine Zh ?_ _)); exact BK101.out⟩, ⟨by (with_reducible repeat (first | refine Zg ?_ _ | refine Zi ?_ | refine Zh ?_ _)); refine Zq ?_ NB102_105.out _; (with_reducible repeat (first | refine Zg ?_ _ | refine Zi ?_ | refine Zh ?_ _)); refine Zq ?_ NB102_105.out _; (with_reducible repeat (first | refine Zg ?_ _ | refine Zi ?_ | refine Zh ?_ _)); refine Zq ?_ NB102_105.out _; (with_reducible repeat (first | refine Zg ?_ _ | refine Zi ?_ | refine Zh ?_ _)); refine Zq ?_ NB102_105.out _; (with_reducible repeat (first | refine Zg ?_ _ | refine Zi ?_ | refine Zh ?_ _)); refine Zq ?_ NB102_105.out _; (with_reducible repeat (first | refine Zg ?_ _ | refine Zi ?_ | refine Zh ?_ _)); refine Zq ?_ NB102_105.out _; (with_reducible repeat (first | refine Zg ?_ _ | refine Zi ?_ | refine Zh ?_ _)); exact BK102.out⟩, ⟨by repeat (first | (with_reducible first | exact HB.out | apply Ze | apply Za | apply Zd | refine Zf ?_ GE101.out | refine Zf ?_ GE102.out | refine Zf ?_ GE105.out) | exact HB.out)⟩⟩
                ·replace c139 := Bool.eq_false_iff.mpr c139
                 subst c139
                 rw [if_neg (show ¬ (false = true) by decide)] at H
                 obtain rfl := Option.some.inj H
                 have p104 : 0 ≤ (x29_2 : Int) := of_decide_eq_true (by assumption)
                 have q104 : x29_2 < (l0_0.length : Int) := of_decide_eq_true (by assumption)
                 obtain ⟨ad104, A104_4, c104_4, A104_5, c104_5, e104, hx104_0, hx104_1, hx104_2, hx104_3, hx104_4, hx104_5, hl104_4, hi104_4, hl104_5, hi104_5⟩ := at_T108 HR0_0.out x29_2 p104 q104
                 (try rw [← Nbq29.out] at hx104_2)
                 (try rw [← Nbq115.out] at hx104_2)
                 (try rw [← Nbq29.out] at hx104_3)
                 (try rw [← Nbq115.out] at hx104_3)
                 cases e104
                 replace hx104_0 := (HB.out.cell (World.block_lt_of_cell? w _ hx104_0)).trans hx104_0
                 replace hx104_1 := (HB.out.cell (World.block_lt_of_cell? w _ hx104_1)).trans hx104_1
                 replace hx104_2 := (HB.out.cell (World.block_lt_of_cell? w _ hx104_2)).trans hx104_2
                 replace hx104_3 := (HB.out.cell (World.block_lt_of_cell? w _ hx104_3)).trans hx104_3
                 replace hx104_4 := (HB.out.cell (World.block_lt_of_cell? w _ hx104_4)).trans hx104_4
                 replace hx104_5 := (HB.out.cell (World.block_lt_of_cell? w _ hx104_5)).trans hx104_5
                 have HR104_4 := Aside0.mk hi104_4
                 have HC104_4 := Aside0.mk hl104_4
                 clear hi104_4 hl104_4
                 have HR104_5 := Aside0.mk hi104_5
                 have HC104_5 := Aside0.mk hl104_5
                 clear hi104_5 hl104_5
                 replace p104 := eq_true p104
                 replace q104 := eq_true q104
                 go_wp2_with (first | ((with_reducible refine Zt (N := 5) rfl ?_); (try (refine Zy (by rfl) ?_; dsimp only)); refine Zs ?hg (N := 5) ?hd (cs := #[.int .i64 0, .int .i64 0, .bool false, .bool false, .slice none 0 0, .slice none 0 0]) (t := 108) ?hr ?_; (case hd => rfl); (case hg => rfl); (case hr => first | (go_simp; done) | (go_simp; rfl)); intro gb105 hg w146 hbox hb; have n0_ := Aside0.mk (Zl (g := gb101) (o := .cells #[.slice (some ad104) l0_0.length c0_0, .slice A0_1 l0_1.length c0_1, .slice A0_2 l0_2.length c0_2] 54 (0, 0)) (by (with_reducible repeat (first | refine Zg ?_ _ | refine Zi ?_ | refine Zh ?_ _)); exact BK101.out) hb); have n1_ := Aside0.mk (Zl (g := gb102) (o := .cells #[.int .i64 (l0_0.length : Int)] 3 (0, 0)) (by (with_reducible repeat (first | refine Zg ?_ _ | refine Zi ?_ | refine Zh ?_ _)); exact BK102.out) hb); have n2_ := Aside0.mk (Zk (by repeat (first | (with_reducible first | exact HB.out | apply Ze | apply Za | apply Zd | refine Zf ?_ GE101.out | refine Zf ?_ GE102.out) | exact HB.out)) hb); have n3_ := Aside0.mk (hbox); have n4_ := Aside0.mk ((by rw [hg]; exact (Zj (by repeat (first | (with_reducible first | exact HB.out | apply Ze | apply Za | apply Zd | refine Zf ?_ GE101.out | refine Zf ?_ GE102.out) | exact HB.out))) : w.heap.size ≤ gb105)); have n5_ := n4_; have n6_ := Aside0.mk ((by rw [hg]; exact Nat.ne_of_lt (Zu (g := gb101) (o := .cells #[.slice (some ad104) l0_0.length c0_0, .slice A0_1 l0_1.length c0_1, .slice A0_2 l0_2.length c0_2] 54 (0, 0)) (by (with_reducible repeat (first | refine Zg ?_ _ | refine Zi ?_ | refine Zh ?_ _)); exact BK101.out)) : gb101 ≠ gb105)); have n7_ := Aside0.mk n6_.out.symm; have n8_ := Aside0.mk ((by rw [hg]; exact Nat.ne_of_lt (Zu (g := gb102) (o := .cells #[.int .i64 (l0_0.length : Int)] 3 (0, 0)) (by (with_reducible repeat (first | refine Zg ?_ _ | refine Zi ?_ | refine Zh ?_ _)); exact BK102.out)) : gb102 ≠ gb105)); have n9_ := Aside0.mk n8_.out.symm; clear BK101; clear BK102; clear HB; have BK101 := n0_; have BK102 := n1_; have HB := n2_; have BK105 := n3_; have GW105 := n4_; have GE105 := n5_; have NB101_105 := n6_; have NB105_101 := n7_; have NB102_105 := n8_; have NB105_102 := n9_; clear n0_ n1_ n2_ n3_ n4_ n5_ n6_ n7_ n8_ n9_; clear hb hbox hg; have hnb147 := NB105_101.out; have hnc147 := NB101_105.out; have hnb148 := NB105_102.out; have hnc148 := NB102_105.out; have hcz149_0 : w146.cell? ⟨gb105, 0, none⟩ = some (.int .i64 0) := (Zb BK105.out 0).trans rfl; have hcz149_1 : w146.cell? ⟨gb105, 1, none⟩ = some (.int .i64 0) := (Zb BK105.out 1).trans rfl; have hcz149_2 : w146.cell? ⟨gb105, 2, none⟩ = some (.bool false) := (Zb BK105.out 2).trans rfl; have hcz149_3 : w146.cell? ⟨gb105, 3, none⟩ = some (.bool false) := (Zb BK105.out 3).trans rfl; have hcz149_4 : w146.cell? ⟨gb105, 4, none⟩ = some (.slice none 0 0) := (Zb BK105.out 4).trans rfl; have hcz149_5 : w146.cell? ⟨gb105, 5, none⟩ = some (.slice none 0 0) := (Zb BK105.out 5).trans rfl; have hfz149_0 := Zc BK105.out 0; have hfz149_1 := Zc BK105.out 1; have hfz149_2 := Zc BK105.out 2; have hfz149_3 := Zc BK105.out 3; have hfz149_4 := Zc BK105.out 4; have hfz149_5 := Zc BK105.out 5) | ((with_reducible refine Zp (f := 71) rfl ?_); refine Zw (some 35) rfl rfl Try.func71 (by kernel_rfl) rfl #[.int .i64 ((rd_T108 l0_0 x29_2).f0), .int .i64 0, .int .i64 100] rfl (by (try simp only [List.map_toArray, List.map_cons, List.map_nil]); first | done | rfl | (simp only [List.length_drop, List.length_take]; rfl)) ?_; (with_reducible refine (impl_in.calls ((rd_T108 l0_0 x29_2).f0) 0 100 true _ A25.out).mono ?_); rintro e w' ⟨rfl, ⟨nd, rfl⟩⟩; refine ⟨_, rfl, ?_⟩; have hnb150 := NB102_101.out; have hnc150 := NB101_102.out; have hcz151_0 : w146.cell? ⟨gb102, 0, none⟩ = some (.int .i64 (l0_0.length : Int)) := (Zb BK102.out 0).trans rfl; have hfz151_0 := Zc BK102.out 0) | (go_at_call 71; (with_reducible refine (impl_in.calls ((rd_T108 l0_0 x29_2).f1) (-1) (wrap64 ((l0_0.length : Int) - 1)) true _ A27.out).mono ?_); rintro e w' ⟨rfl, ⟨nd, rfl⟩⟩) | (go_at_call 117; (with_reducible refine (impl_areMembers.calls k2 _ _ ((rd_T108 l0_0 x29_2).f4) (l0_0.length : Int) true _ ?side1 ?side2 A98.out).mono ?_); (case side1 => exact Kd.C_below HR104_4.out (by repeat (first | (with_reducible first | exact HB.out | apply Ze | apply Za | apply Zd | refine Zf ?_ GE101.out | refine Zf ?_ GE102.out | refine Zf ?_ GE105.out) | exact HB.out))); (case side2 => exact HC104_4.out); rintro e w' ⟨rfl, ⟨nd, rfl⟩⟩) | (go_at_call 63; (with_reducible refine (impl_areEntries.calls k2 _ _ ((rd_T108 l0_0 x29_2).f5) false _ ?side1 ?side2 A138.out).mono ?_); (case side1 => exact Kd.C_below HR104_5.out (by repeat (first | (with_reducible first | exact HB.out | apply Ze | apply Za | apply Zd | refine Zf ?_ GE101.out | refine Zf ?_ GE102.out | refine Zf ?_ GE105.out) | exact HB.out))); (case side2 => exact HC104_5.out); rintro e w' ⟨rfl, ⟨nd, rfl⟩⟩))
                 go_ret
                 exact ⟨by first | rfl | (simp [errW_none, errW_some] <;> rfl) | (simp [*, errW_none, errW_some] <;> rfl), by repeat (first | (with_reducible first | exact HB.out | apply Ze | apply Za | apply Zd | refine Zf ?_ GE101.out | refine Zf ?_ GE102.out | refine Zf ?_ GE105.out) | exact HB.out)⟩
            ·replace c99 := Bool.eq_false_iff.mpr c99
             subst c99
             rw [if_neg (show ¬ (false = true) by decide)] at H
             obtain rfl := Option.some.inj H
             have p104 : 0 ≤ (x29_2 : Int) := of_decide_eq_true (by assumption)
             have q104 : x29_2 < (l0_0.length : Int) := of_decide_eq_true (by assumption)
             obtain ⟨ad104, A104_4, c104_4, A104_5, c104_5, e104, hx104_0, hx104_1, hx104_2, hx104_3, hx104_4, hx104_5, hl104_4, hi104_4, hl104_5, hi104_5⟩ := at_T108 HR0_0.out x29_2 p104 q104
             (try rw [← Nbq29.out] at hx104_2)
             (try rw [← Nbq29.out] at hx104_3)
             cases e104
             replace hx104_0 := (HB.out.cell (World.block_lt_of_cell? w _ hx104_0)).trans hx104_0
             replace hx104_1 := (HB.out.cell (World.block_lt_of_cell? w _ hx104_1)).trans hx104_1
             replace hx104_2 := (HB.out.cell (World.block_lt_of_cell? w _ hx104_2)).trans hx104_2
             replace hx104_3 := (HB.out.cell (World.block_lt_of_cell? w _ hx104_3)).trans hx104_3
             replace hx104_4 := (HB.out.cell (World.block_lt_of_cell? w _ hx104_4)).trans hx104_4
             replace hx104_5 := (HB.out.cell (World.block_lt_of_cell? w _ hx104_5)).trans hx104_5
             have HR104_4 := Aside0.mk hi104_4
             have HC104_4 := Aside0.mk hl104_4
             clear hi104_4 hl104_4
             have HR104_5 := Aside0.mk hi104_5
             have HC104_5 := Aside0.mk hl104_5
             clear hi104_5 hl104_5
             replace p104 := eq_true p104
             replace q104 := eq_true q104
             go_wp2_with (first | ((with_reducible refine Zt (N := 5) rfl ?_); (try (refine Zy (by rfl) ?_; dsimp only)); refine Zs ?hg (N := 5) ?hd (cs := #[.int .i64 0, .int .i64 0, .bool false, .bool false, .slice none 0 0, .slice none 0 0]) (t := 108) ?hr ?_; (case hd => rfl); (case hg => rfl); (case hr => first | (go_simp; done) | (go_simp; rfl)); intro gb105 hg w152 hbox hb; have n0_ := Aside0.mk (Zl (g := gb101) (o := .cells #[.slice (some ad104) l0_0.length c0_0, .slice A0_1 l0_1.length c0_1, .slice A0_2 l0_2.length c0_2] 54 (0, 0)) (by (with_reducible repeat (first | refine Zg ?_ _ | refine Zi ?_ | refine Zh ?_ _)); exact BK101.out) hb); have n1_ := Aside0.mk (Zl (g := gb102) (o := .cells #[.int .i64 (l0_0.length : Int)] 3 (0, 0)) (by (with_reducible repeat (first | refine Zg ?_ _ | refine Zi ?_ | refine Zh ?_ _)); exact BK102.out) hb); have n2_ := Aside0.mk (Zk (by repeat (first | (with_reducible first | exact HB.out | apply Ze | apply Za | apply Zd | refine Zf ?_ GE101.out | refine Zf ?_ GE102.out) | exact HB.out)) hb); have n3_ := Aside0.mk (hbox); have n4_ := Aside0.mk ((by rw [hg]; exact (Zj (by repeat (first | (with_reducible first | exact HB.out | apply Ze | apply Za | apply Zd | refine Zf ?_ GE101.out | refine Zf ?_ GE102.out) | exact HB.out))) : w.heap.size ≤ gb105)); have n5_ := n4_; have n6_ := Aside0.mk ((by rw [hg]; exact Nat.ne_of_lt (Zu (g := gb101) (o := .cells #[.slice (some ad104) l0_0.length c0_0, .slice A0_1 l0_1.length c0_1, .slice A0_2 l0_2.length c0_2] 54 (0, 0)) (by (with_reducible repeat (first | refine Zg ?_ _ | refine Zi ?_ | refine Zh ?_ _)); exact BK101.out)) : gb101 ≠ gb105)); have n7_ := Aside0.mk n6_.out.symm; have n8_ := Aside0.mk ((by rw [hg]; exact Nat.ne_of_lt (Zu (g := gb102) (o := .cells #[.int .i64 (l0_0.length : Int)] 3 (0, 0)) (by (with_reducible repeat (first | refine Zg ?_ _ | refine Zi ?_ | refine Zh ?_ _)); exact BK102.out)) : gb102 ≠ gb105)); have n9_ := Aside0.mk n8_.out.symm; clear BK101; clear BK102; clear HB; have BK101 := n0_; have BK102 := n1_; have HB := n2_; have BK105 := n3_; have GW105 := n4_; have GE105 := n5_; have NB101_105 := n6_; have NB105_101 := n7_; have NB102_105 := n8_; have NB105_102 := n9_; clear n0_ n1_ n2_ n3_ n4_ n5_ n6_ n7_ n8_ n9_; clear hb hbox hg; have hnb153 := NB105_101.out; have hnc153 := NB101_105.out; have hnb154 := NB105_102.out; have hnc154 := NB102_105.out; have hcz155_0 : w152.cell? ⟨gb105, 0, none⟩ = some (.int .i64 0) := (Zb BK105.out 0).trans rfl; have hcz155_1 : w152.cell? ⟨gb105, 1, none⟩ = some (.int .i64 0) := (Zb BK105.out 1).trans rfl; have hcz155_2 : w152.cell? ⟨gb105, 2, none⟩ = some (.bool false) := (Zb BK105.out 2).trans rfl; have hcz155_3 : w152.cell? ⟨gb105, 3, none⟩ = some (.bool false) := (Zb BK105.out 3).trans rfl; have hcz155_4 : w152.cell? ⟨gb105, 4, none⟩ = some (.slice none 0 0) := (Zb BK105.out 4).trans rfl; have hcz155_5 : w152.cell? ⟨gb105, 5, none⟩ = some (.slice none 0 0) := (Zb BK105.out 5).trans rfl; have hfz155_0 := Zc BK105.out 0; have hfz155_1 := Zc BK105.out 1; have hfz155_2 := Zc BK105.out 2; have hfz155_3 := Zc BK105.out 3; have hfz155_4 := Zc BK105.out 4; have hfz155_5 := Zc BK105.out 5) | ((with_reducible refine Zp (f := 71) rfl ?_); refine Zw (some 35) rfl rfl Try.func71 (by kernel_rfl) rfl #[.int .i64 ((rd_T108 l0_0 x29_2).f0), .int .i64 0, .int .i64 100] rfl (by (try simp only [List.map_toArray, List.map_cons, List.map_nil]); first | done | rfl | (simp only [List.length_drop, List.length_take]; rfl)) ?_; (with_reducible refine (impl_in.calls ((rd_T108 l0_0 x29_2).f0) 0 100 true _ A25.out).mono ?_); rintro e w' ⟨rfl, ⟨nd, rfl⟩⟩; refine ⟨_, rfl, ?_⟩; have hnb156 := NB102_101.out; have hnc156 := NB101_102.out; have hcz157_0 : w152.cell? ⟨gb102, 0, none⟩ = some (.int .i64 (l0_0.length : Int)) := (Zb BK102.out 0).trans rfl; have hfz157_0 := Zc BK102.out 0) | (go_at_call 71; (with_reducible refine (impl_in.calls ((rd_T108 l0_0 x29_2).f1) (-1) (wrap64 ((l0_0.length : Int) - 1)) true _ A27.out).mono ?_); rintro e w' ⟨rfl, ⟨nd, rfl⟩⟩) | (go_at_call 117; (with_reducible refine (impl_areMembers.calls k2 _ _ ((rd_T108 l0_0 x29_2).f4) (l0_0.length : Int) false _ ?side1 ?side2 A98.out).mono ?_); (case side1 => exact Kd.C_below HR104_4.out (by repeat (first | (with_reducible first | exact HB.out | apply Ze | apply Za | apply Zd | refine Zf ?_ GE101.out | refine Zf ?_ GE102.out | refine Zf ?_ GE105.out) | exact HB.out))); (case side2 => exact HC104_4.out); rintro e w' ⟨rfl, ⟨nd, rfl⟩⟩))
             go_ret
             exact ⟨by first | rfl | (simp [errW_none, errW_some] <;> rfl) | (simp [*, errW_none, errW_some] <;> rfl), by repeat (first | (with_reducible first | exact HB.out | apply Ze | apply Za | apply Zd | refine Zf ?_ GE101.out | refine Zf ?_ GE102.out | refine Zf ?_ GE105.out) | exact HB.out)⟩
          ·replace c28 := Bool.eq_false_iff.mpr c28
           subst c28
           rw [if_neg (show ¬ (false = true) by decide)] at H
           obtain rfl := Option.some.inj H
           have p104 : 0 ≤ (x29_2 : Int) := of_decide_eq_true (by assumption)
           have q104 : x29_2 < (l0_0.length : Int) := of_decide_eq_true (by assumption)
           obtain ⟨ad104, A104_4, c104_4, A104_5, c104_5, e104, hx104_0, hx104_1, hx104_2, hx104_3, hx104_4, hx104_5, hl104_4, hi104_4, hl104_5, hi104_5⟩ := at_T108 HR0_0.out x29_2 p104 q104
           cases e104
           replace hx104_0 := (HB.out.cell (World.block_lt_of_cell? w _ hx104_0)).trans hx104_0
           replace hx104_1 := (HB.out.cell (World.block_lt_of_cell? w _ hx104_1)).trans hx104_1
           replace hx104_2 := (HB.out.cell (World.block_lt_of_cell? w _ hx104_2)).trans hx104_2
           replace hx104_3 := (HB.out.cell (World.block_lt_of_cell? w _ hx104_3)).trans hx104_3
           replace hx104_4 := (HB.out.cell (World.block_lt_of_cell? w _ hx104_4)).trans hx104_4
           replace hx104_5 := (HB.out.cell (World.block_lt_of_cell? w _ hx104_5)).trans hx104_5
           have HR104_4 := Aside0.mk hi104_4
           have HC104_4 := Aside0.mk hl104_4
           clear hi104_4 hl104_4
           have HR104_5 := Aside0.mk hi104_5
           have HC104_5 := Aside0.mk hl104_5
           clear hi104_5 hl104_5
           replace p104 := eq_true p104
           replace q104 := eq_true q104
           go_wp2_with (first | ((with_reducible refine Zt (N := 5) rfl ?_); (try (refine Zy (by rfl) ?_; dsimp only)); refine Zs ?hg (N := 5) ?hd (cs := #[.int .i64 0, .int .i64 0, .bool false, .bool false, .slice none 0 0, .slice none 0 0]) (t := 108) ?hr ?_; (case hd => rfl); (case hg => rfl); (case hr => first | (go_simp; done) | (go_simp; rfl)); intro gb105 hg w158 hbox hb; have n0_ := Aside0.mk (Zl (g := gb101) (o := .cells #[.slice (some ad104) l0_0.length c0_0, .slice A0_1 l0_1.length c0_1, .slice A0_2 l0_2.length c0_2] 54 (0, 0)) (by (with_reducible repeat (first | refine Zg ?_ _ | refine Zi ?_ | refine Zh ?_ _)); exact BK101.out) hb); have n1_ := Aside0.mk (Zl (g := gb102) (o := .cells #[.int .i64 (l0_0.length : Int)] 3 (0, 0)) (by (with_reducible repeat (first | refine Zg ?_ _ | refine Zi ?_ | refine Zh ?_ _)); exact BK102.out) hb); have n2_ := Aside0.mk (Zk (by repeat (first | (with_reducible first | exact HB.out | apply Ze | apply Za | apply Zd | refine Zf ?_ GE101.out | refine Zf ?_ GE102.out) | exact HB.out)) hb); have n3_ := Aside0.mk (hbox); have n4_ := Aside0.mk ((by rw [hg]; exact (Zj (by repeat (first | (with_reducible first | exact HB.out | apply Ze | apply Za | apply Zd | refine Zf ?_ GE101.out | refine Zf ?_ GE102.out) | exact HB.out))) : w.heap.size ≤ gb105)); have n5_ := n4_; have n6_ := Aside0.mk ((by rw [hg]; exact Nat.ne_of_lt (Zu (g := gb101) (o := .cells #[.slice (some ad104) l0_0.length c0_0, .slice A0_1 l0_1.length c0_1, .slice A0_2 l0_2.length c0_2] 54 (0, 0)) (by (with_reducible repeat (first | refine Zg ?_ _ | refine Zi ?_ | refine Zh ?_ _)); exact BK101.out)) : gb101 ≠ gb105)); have n7_ := Aside0.mk n6_.out.symm; have n8_ := Aside0.mk ((by rw [hg]; exact Nat.ne_of_lt (Zu (g := gb102) (o := .cells #[.int .i64 (l0_0.length : Int)] 3 (0, 0)) (by (with_reducible repeat (first | refine Zg ?_ _ | refine Zi ?_ | refine Zh ?_ _)); exact BK102.out)) : gb102 ≠ gb105)); have n9_ := Aside0.mk n8_.out.symm; clear BK101; clear BK102; clear HB; have BK101 := n0_; have BK102 := n1_; have HB := n2_; have BK105 := n3_; have GW105 := n4_; have GE105 := n5_; have NB101_105 := n6_; have NB105_101 := n7_; have NB102_105 := n8_; have NB105_102 := n9_; clear n0_ n1_ n2_ n3_ n4_ n5_ n6_ n7_ n8_ n9_; clear hb hbox hg; have hnb159 := NB105_101.out; have hnc159 := NB101_105.out; have hnb160 := NB105_102.out; have hnc160 := NB102_105.out; have hcz161_0 : w158.cell? ⟨gb105, 0, none⟩ = some (.int .i64 0) := (Zb BK105.out 0).trans rfl; have hcz161_1 : w158.cell? ⟨gb105, 1, none⟩ = some (.int .i64 0) := (Zb BK105.out 1).trans rfl; have hcz161_2 : w158.cell? ⟨gb105, 2, none⟩ = some (.bool false) := (Zb BK105.out 2).trans rfl; have hcz161_3 : w158.cell? ⟨gb105, 3, none⟩ = some (.bool false) := (Zb BK105.out 3).trans rfl; have hcz161_4 : w158.cell? ⟨gb105, 4, none⟩ = some (.slice none 0 0) := (Zb BK105.out 4).trans rfl; have hcz161_5 : w158.cell? ⟨gb105, 5, none⟩ = some (.slice none 0 0) := (Zb BK105.out 5).trans rfl; have hfz161_0 := Zc BK105.out 0; have hfz161_1 := Zc BK105.out 1; have hfz161_2 := Zc BK105.out 2; have hfz161_3 := Zc BK105.out 3; have hfz161_4 := Zc BK105.out 4; have hfz161_5 := Zc BK105.out 5) | ((with_reducible refine Zp (f := 71) rfl ?_); refine Zw (some 35) rfl rfl Try.func71 (by kernel_rfl) rfl #[.int .i64 ((rd_T108 l0_0 x29_2).f0), .int .i64 0, .int .i64 100] rfl (by (try simp only [List.map_toArray, List.map_cons, List.map_nil]); first | done | rfl | (simp only [List.length_drop, List.length_take]; rfl)) ?_; (with_reducible refine (impl_in.calls ((rd_T108 l0_0 x29_2).f0) 0 100 true _ A25.out).mono ?_); rintro e w' ⟨rfl, ⟨nd, rfl⟩⟩; refine ⟨_, rfl, ?_⟩; have hnb162 := NB102_101.out; have hnc162 := NB101_102.out; have hcz163_0 : w158.cell? ⟨gb102, 0, none⟩ = some (.int .i64 (l0_0.length : Int)) := (Zb BK102.out 0).trans rfl; have hfz163_0 := Zc BK102.out 0) | (go_at_call 71; (with_reducible refine (impl_in.calls ((rd_T108 l0_0 x29_2).f1) (-1) (wrap64 ((l0_0.length : Int) - 1)) false _ A27.out).mono ?_); rintro e w' ⟨rfl, ⟨nd, rfl⟩⟩))
           go_ret
           exact ⟨by first | rfl | (simp [errW_none, errW_some] <;> rfl) | (simp [*, errW_none, errW_some] <;> rfl), by repeat (first | (with_reducible first | exact HB.out | apply Ze | apply Za | apply Zd | refine Zf ?_ GE101.out | refine Zf ?_ GE102.out | refine Zf ?_ GE105.out) | exact HB.out)⟩
         ·replace c26 := Bool.eq_false_iff.mpr c26
          subst c26
          rw [if_neg (show ¬ (false = true) by decide)] at H
          obtain rfl := Option.some.inj H
          have p104 : 0 ≤ (x29_2 : Int) := of_decide_eq_true (by assumption)
          have q104 : x29_2 < (l0_0.length : Int) := of_decide_eq_true (by assumption)
          obtain ⟨ad104, A104_4, c104_4, A104_5, c104_5, e104, hx104_0, hx104_1, hx104_2, hx104_3, hx104_4, hx104_5, hl104_4, hi104_4, hl104_5, hi104_5⟩ := at_T108 HR0_0.out x29_2 p104 q104
          cases e104
          replace hx104_0 := (HB.out.cell (World.block_lt_of_cell? w _ hx104_0)).trans hx104_0
          replace hx104_1 := (HB.out.cell (World.block_lt_of_cell? w _ hx104_1)).trans hx104_1
          replace hx104_2 := (HB.out.cell (World.block_lt_of_cell? w _ hx104_2)).trans hx104_2
          replace hx104_3 := (HB.out.cell (World.block_lt_of_cell? w _ hx104_3)).trans hx104_3
          replace hx104_4 := (HB.out.cell (World.block_lt_of_cell? w _ hx104_4)).trans hx104_4
          replace hx104_5 := (HB.out.cell (World.block_lt_of_cell? w _ hx104_5)).trans hx104_5
          have HR104_4 := Aside0.mk hi104_4
          have HC104_4 := Aside0.mk hl104_4
          clear hi104_4 hl104_4
          have HR104_5 := Aside0.mk hi104_5
          have HC104_5 := Aside0.mk hl104_5
          clear hi104_5 hl104_5
          replace p104 := eq_true p104
          replace q104 := eq_true q104
          go_wp2_with (first | ((with_reducible refine Zt (N := 5) rfl ?_); (try (refine Zy (by rfl) ?_; dsimp only)); refine Zs ?hg (N := 5) ?hd (cs := #[.int .i64 0, .int .i64 0, .bool false, .bool false, .slice none 0 0, .slice none 0 0]) (t := 108) ?hr ?_; (case hd => rfl); (case hg => rfl); (case hr => first | (go_simp; done) | (go_simp; rfl)); intro gb105 hg w164 hbox hb; have n0_ := Aside0.mk (Zl (g := gb101) (o := .cells #[.slice (some ad104) l0_0.length c0_0, .slice A0_1 l0_1.length c0_1, .slice A0_2 l0_2.length c0_2] 54 (0, 0)) (by (with_reducible repeat (first | refine Zg ?_ _ | refine Zi ?_ | refine Zh ?_ _)); exact BK101.out) hb); have n1_ := Aside0.mk (Zl (g := gb102) (o := .cells #[.int .i64 (l0_0.length : Int)] 3 (0, 0)) (by (with_reducible repeat (first | refine Zg ?_ _ | refine Zi ?_ | refine Zh ?_ _)); exact BK102.out) hb); have n2_ := Aside0.mk (Zk (by repeat (first | (with_reducible first | exact HB.out | apply Ze | apply Za | apply Zd | refine Zf ?_ GE101.out | refine Zf ?_ GE102.out) | exact HB.out)) hb); have n3_ := Aside0.mk (hbox); have n4_ := Aside0.mk ((by rw [hg]; exact (Zj (by repeat (first | (with_reducible first | exact HB.out | apply Ze | apply Za | apply Zd | refine Zf ?_ GE101.out | refine Zf ?_ GE102.out) | exact HB.out))) : w.heap.size ≤ gb105)); have n5_ := n4_; have n6_ := Aside0.mk ((by rw [hg]; exact Nat.ne_of_lt (Zu (g := gb101) (o := .cells #[.slice (some ad104) l0_0.length c0_0, .slice A0_1 l0_1.length c0_1, .slice A0_2 l0_2.length c0_2] 54 (0, 0)) (by (with_reducible repeat (first | refine Zg ?_ _ | refine Zi ?_ | refine Zh ?_ _)); exact BK101.out)) : gb101 ≠ gb105)); have n7_ := Aside0.mk n6_.out.symm; have n8_ := Aside0.mk ((by rw [hg]; exact Nat.ne_of_lt (Zu (g := gb102) (o := .cells #[.int .i64 (l0_0.length : Int)] 3 (0, 0)) (by (with_reducible repeat (first | refine Zg ?_ _ | refine Zi ?_ | refine Zh ?_ _)); exact BK102.out)) : gb102 ≠ gb105)); have n9_ := Aside0.mk n8_.out.symm; clear BK101; clear BK102; clear HB; have BK101 := n0_; have BK102 := n1_; have HB := n2_; have BK105 := n3_; have GW105 := n4_; have GE105 := n5_; have NB101_105 := n6_; have NB105_101 := n7_; have NB102_105 := n8_; have NB105_102 := n9_; clear n0_ n1_ n2_ n3_ n4_ n5_ n6_ n7_ n8_ n9_; clear hb hbox hg; have hnb165 := NB105_101.out; have hnc165 := NB101_105.out; have hnb166 := NB105_102.out; have hnc166 := NB102_105.out; have hcz167_0 : w164.cell? ⟨gb105, 0, none⟩ = some (.int .i64 0) := (Zb BK105.out 0).trans rfl; have hcz167_1 : w164.cell? ⟨gb105, 1, none⟩ = some (.int .i64 0) := (Zb BK105.out 1).trans rfl; have hcz167_2 : w164.cell? ⟨gb105, 2, none⟩ = some (.bool false) := (Zb BK105.out 2).trans rfl; have hcz167_3 : w164.cell? ⟨gb105, 3, none⟩ = some (.bool false) := (Zb BK105.out 3).trans rfl; have hcz167_4 : w164.cell? ⟨gb105, 4, none⟩ = some (.slice none 0 0) := (Zb BK105.out 4).trans rfl; have hcz167_5 : w164.cell? ⟨gb105, 5, none⟩ = some (.slice none 0 0) := (Zb BK105.out 5).trans rfl; have hfz167_0 := Zc BK105.out 0; have hfz167_1 := Zc BK105.out 1; have hfz167_2 := Zc BK105.out 2; have hfz167_3 := Zc BK105.out 3; have hfz167_4 := Zc BK105.out 4; have hfz167_5 := Zc BK105.out 5) | ((with_reducible refine Zp (f := 71) rfl ?_); refine Zw (some 35) rfl rfl Try.func71 (by kernel_rfl) rfl #[.int .i64 ((rd_T108 l0_0 x29_2).f0), .int .i64 0, .int .i64 100] rfl (by (try simp only [List.map_toArray, List.map_cons, List.map_nil]); first | done | rfl | (simp only [List.length_drop, List.length_take]; rfl)) ?_; (with_reducible refine (impl_in.calls ((rd_T108 l0_0 x29_2).f0) 0 100 false _ A25.out).mono ?_); rintro e w' ⟨rfl, ⟨nd, rfl⟩⟩; refine ⟨_, rfl, ?_⟩))
          go_ret
          exact ⟨by first | rfl | (simp [errW_none, errW_some] <;> rfl) | (simp [*, errW_none, errW_some] <;> rfl), by repeat (first | (with_reducible first | exact HB.out | apply Ze | apply Za | apply Zd | refine Zf ?_ GE101.out | refine Zf ?_ GE102.out | refine Zf ?_ GE105.out) | exact HB.out)⟩
        ·rw [if_neg c24] at H
         exact absurd H (by simp)
       ·rw [if_neg c23] at H
        exact absurd H (by simp)
      ·rw [if_neg c22] at H
       have c22b0 : decide (x29_2 < (l0_0.length : Int)) = false := decide_eq_false c22
       clear c22
       have H' := Aside0.mk H
       clear H
       have hnb168 := NB101_102.out
       have hnc168 := NB102_101.out
       have hcz169_0 : wr.cell? ⟨gb101, 0, none⟩ = some (.slice A0_0 l0_0.length c0_0) := (Zb BK101.out 0).trans rfl
       have hcz169_1 : wr.cell? ⟨gb101, 1, none⟩ = some (.slice A0_1 l0_1.length c0_1) := (Zb BK101.out 1).trans rfl
       have hcz169_2 : wr.cell? ⟨gb101, 2, none⟩ = some (.slice A0_2 l0_2.length c0_2) := (Zb BK101.out 2).trans rfl
       have hfz169_0 := Zc BK101.out 0
       have hfz169_1 := Zc BK101.out 1
       have hfz169_2 := Zc BK101.out 2
       go_wp2
       go_loopg [86] k2 (fun kq v86 w' => ∃ (x86_3 : Int), v86 = .int .i64 x86_3 ∧ Aside0 (impl_isElection.l1 kq l0_1 (l0_1.length : Int) x86_3 l0_0 l0_1 l0_2 (l0_0.length : Int) = some r) ∧ Aside0 (kq ≤ k2) ∧ Aside0 (w'.heap[gb101]? = some (.cells #[(.slice A0_0 l0_0.length c0_0), (.slice A0_1 l0_1.length c0_1), (.slice A0_2 l0_2.length c0_2)] 54 (0, 0))) ∧ Aside0 (w'.heap[gb102]? = some (.cells #[.int .i64 (l0_0.length : Int)] 3 (0, 0))) ∧ Aside0 (Below w.heap.size w w'))
       case atStart => exact ⟨(0), (by first | rfl | (simp; done) | (simp [*]; done)), H', ⟨Nat.le_refl _⟩, ⟨by (with_reducible repeat (first | refine Zg ?_ _ | refine Zi ?_ | refine Zh ?_ _)); exact BK101.out⟩, ⟨by (with_reducible repeat (first | refine Zg ?_ _ | refine Zi ?_ | refine Zh ?_ _)); exact BK102.out⟩, ⟨by repeat (first | (with_reducible first | exact HB.out | apply Ze | apply Za | apply Zd | refine Zf ?_ GE101.out | refine Zf ?_ GE102.out) | exact HB.out)⟩⟩
       case round =>
        clear H'
        try clear c22
        try clear c22b0
        try clear hcz169_0
        try clear hcz169_1
        try clear hcz169_2
        try clear hfz169_0
        try clear hfz169_1
        try clear hfz169_2
        obtain ⟨x86_3, rfl, HA, HK3, BK101, BK102, HB⟩ := hrel
        cases gk with
        | zero => exact absurd HA.out (by simp [impl_isElection.l1])
        | succ k3 =>
         have H := HA.out
         clear HA
         simp only [impl_isElection.l1] at H
         by_cases c170 : x86_3 < (l0_1.length : Int)
         ·rw [if_pos c170] at H
          have c170b0 : decide (x86_3 < (l0_1.length : Int)) = true := decide_eq_true c170
          clear c170
          by_cases c171 : 0 ≤ x86_3
          ·rw [if_pos c171] at H
           have c171b0 : decide (0 ≤ x86_3) = true := decide_eq_true c171
           clear c171
           by_cases c172 : x86_3 < (l0_1.length : Int)
           ·rw [if_pos c172] at H
            have c172b0 : decide (x86_3 < (l0_1.length : Int)) = true := decide_eq_true c172
            clear c172
            have HC173 := Aside0.mk H
            clear H
            have p117 : 0 ≤ (x86_3 : Int) := of_decide_eq_true (by assumption)
            have q117 : x86_3 < (l0_1.length : Int) := of_decide_eq_true (by assumption)
            obtain ⟨ad117, e117, hx117_0, hx117_1, hx117_2, hx117_3, hx117_4, hx117_5, hx117_6⟩ := at_T111 HR0_1.out x86_3 p117 q117
            cases e117
            replace hx117_0 := (HB.out.cell (World.block_lt_of_cell? w _ hx117_0)).trans hx117_0
            replace hx117_1 := (HB.out.cell (World.block_lt_of_cell? w _ hx117_1)).trans hx117_1
            replace hx117_2 := (HB.out.cell (World.block_lt_of_cell? w _ hx117_2)).trans hx117_2
            replace hx117_3 := (HB.out.cell (World.block_lt_of_cell? w _ hx117_3)).trans hx117_3
            replace hx117_4 := (HB.out.cell (World.block_lt_of_cell? w _ hx117_4)).trans hx117_4
            replace hx117_5 := (HB.out.cell (World.block_lt_of_cell? w _ hx117_5)).trans hx117_5
            replace hx117_6 := (HB.out.cell (World.block_lt_of_cell? w _ hx117_6)).trans hx117_6
            replace p117 := eq_true p117
            replace q117 := eq_true q117
            go_upto_region 13 with (first | ((with_reducible refine Zt (N := 7) rfl ?_); (try (refine Zy (by rfl) ?_; dsimp only)); refine Zs ?hg (N := 7) ?hd (cs := #[.int .i64 0, .int .i64 0, .int .i64 0, .bool false, .int .i64 0, .int .i64 0, .bool false]) (t := 111) ?hr ?_; (case hd => rfl); (case hg => rfl); (case hr => first | (go_simp; done) | (go_simp; rfl)); intro gb118 hg w174 hbox hb; have n0_ := Aside0.mk (Zl (g := gb101) (o := .cells #[.slice A0_0 l0_0.length c0_0, .slice (some ad117) l0_1.length c0_1, .slice A0_2 l0_2.length c0_2] 54 (0, 0)) (by (with_reducible repeat (first | refine Zg ?_ _ | refine Zi ?_ | refine Zh ?_ _)); exact BK101.out) hb); have n1_ := Aside0.mk (Zl (g := gb102) (o := .cells #[.int .i64 (l0_0.length : Int)] 3 (0, 0)) (by (with_reducible repeat (first | refine Zg ?_ _ | refine Zi ?_ | refine Zh ?_ _)); exact BK102.out) hb); have n2_ := Aside0.mk (Zk (by repeat (first | (with_reducible first | exact HB.out | apply Ze | apply Za | apply Zd | refine Zf ?_ GE101.out | refine Zf ?_ GE102.out) | exact HB.out)) hb); have n3_ := Aside0.mk (hbox); have n4_ := Aside0.mk ((by rw [hg]; exact (Zj (by repeat (first | (with_reducible first | exact HB.out | apply Ze | apply Za | apply Zd | refine Zf ?_ GE101.out | refine Zf ?_ GE102.out) | exact HB.out))) : w.heap.size ≤ gb118)); have n5_ := n4_; have n6_ := Aside0.mk ((by rw [hg]; exact Nat.ne_of_lt (Zu (g := gb101) (o := .cells #[.slice A0_0 l0_0.length c0_0, .slice (some ad117) l0_1.length c0_1, .slice A0_2 l0_2.length c0_2] 54 (0, 0)) (by (with_reducible repeat (first | refine Zg ?_ _ | refine Zi ?_ | refine Zh ?_ _)); exact BK101.out)) : gb101 ≠ gb118)); have n7_ := Aside0.mk n6_.out.symm; have n8_ := Aside0.mk ((by rw [hg]; exact Nat.ne_of_lt (Zu (g := gb102) (o := .cells #[.int .i64 (l0_0.length : Int)] 3 (0, 0)) (by (with_reducible repeat (first | refine Zg ?_ _ | refine Zi ?_ | refine Zh ?_ _)); exact BK102.out)) : gb102 ≠ gb118)); have n9_ := Aside0.mk n8_.out.symm; clear BK101; clear BK102; clear HB; have BK101 := n0_; have BK102 := n1_; have HB := n2_; have BK118 := n3_; have GW118 := n4_; have GE118 := n5_; have NB101_118 := n6_; have NB118_101 := n7_; have NB102_118 := n8_; have NB118_102 := n9_; clear n0_ n1_ n2_ n3_ n4_ n5_ n6_ n7_ n8_ n9_; clear hb hbox hg; have hnb175 := NB118_101.out; have hnc175 := NB101_118.out; have hnb176 := NB118_102.out; have hnc176 := NB102_118.out; have hcz177_0 : w174.cell? ⟨gb118, 0, none⟩ = some (.int .i64 0) := (Zb BK118.out 0).trans rfl; have hcz177_1 : w174.cell? ⟨gb118, 1, none⟩ = some (.int .i64 0) := (Zb BK118.out 1).trans rfl; have hcz177_2 : w174.cell? ⟨gb118, 2, none⟩ = some (.int .i64 0) := (Zb BK118.out 2).trans rfl; have hcz177_3 : w174.cell? ⟨gb118, 3, none⟩ = some (.bool false) := (Zb BK118.out 3).trans rfl; have hcz177_4 : w174.cell? ⟨gb118, 4, none⟩ = some (.int .i64 0) := (Zb BK118.out 4).trans rfl; have hcz177_5 : w174.cell? ⟨gb118, 5, none⟩ = some (.int .i64 0) := (Zb BK118.out 5).trans rfl; have hcz177_6 : w174.cell? ⟨gb118, 6, none⟩ = some (.bool false) := (Zb BK118.out 6).trans rfl; have hfz177_0 := Zc BK118.out 0; have hfz177_1 := Zc BK118.out 1; have hfz177_2 := Zc BK118.out 2; have hfz177_3 := Zc BK118.out 3; have hfz177_4 := Zc BK118.out 4; have hfz177_5 := Zc BK118.out 5; have hfz177_6 := Zc BK118.out 6))
            (try simp only [Act.put, List.setIfInBounds_toArray, List.set_cons_zero, List.set_cons_succ])
            go_cut [123] (fun v123 wc => ∃ (kq : Nat) (x123_172 : Bool), v123 = .bool x123_172 ∧ Aside0 (impl_isElection.j3 kq l0_1 (l0_1.length : Int) x86_3 x123_172 l0_0 l0_1 l0_2 (l0_0.length : Int) ((rd_T111 l0_1 x86_3).f0) ((rd_T111 l0_1 x86_3).f1) ((rd_T111 l0_1 x86_3).f2) ((rd_T111 l0_1 x86_3).f3) ((rd_T111 l0_1 x86_3).f4) ((rd_T111 l0_1 x86_3).f5) ((rd_T111 l0_1 x86_3).f6) = some r) ∧ Aside0 (kq ≤ k3) ∧ Aside0 (wc.heap[gb101]? = some (.cells #[(.slice A0_0 l0_0.length c0_0), (.slice (some ad117) l0_1.length c0_1), (.slice A0_2 l0_2.length c0_2)] 54 (0, 0))) ∧ Aside0 (wc.heap[gb102]? = some (.cells #[.int .i64 (l0_0.length : Int)] 3 (0, 0))) ∧ Aside0 (wc.heap[gb118]? = some (.cells #[.int .i64 ((rd_T111 l0_1 x86_3).f0), .int .i64 ((rd_T111 l0_1 x86_3).f1), .int .i64 ((rd_T111 l0_1 x86_3).f2), .bool ((rd_T111 l0_1 x86_3).f3), .int .i64 ((rd_T111 l0_1 x86_3).f4), .int .i64 ((rd_T111 l0_1 x86_3).f5), .bool ((rd_T111 l0_1 x86_3).f6)] 111 (0, 0))) ∧ Aside0 (Below w.heap.size w wc))
            case first =>
             have H := HC173.out
             clear HC173
             replace H := Option.bind_eq_some_iff.mp H
             obtain ⟨t119, A1780, H⟩ := H
             have A178 := Aside0.mk A1780
             clear A1780
             by_cases c179 : t119 = true
             ·subst c179
              rw [if_pos rfl] at H
              replace H := Option.bind_eq_some_iff.mp H
              obtain ⟨t120, A1800, H⟩ := H
              have A180 := Aside0.mk A1800
              clear A1800
              by_cases c181 : t120 = true
              ·subst c181
               rw [if_pos rfl] at H
               by_cases c182 : ((rd_T111 l0_1 x86_3).f0) = ((rd_T111 l0_1 x86_3).f1)
               ·rw [if_pos c182] at H
                have c182b0 : (((rd_T111 l0_1 x86_3).f0) == ((rd_T111 l0_1 x86_3).f1)) = true := beq_iff_eq.mpr c182
                have c182b1 : (((rd_T111 l0_1 x86_3).f0) != ((rd_T111 l0_1 x86_3).f1)) = false := bne_eq_false_iff_eq.mpr c182
                clear c182
                (first | rw [c182b0] | (simp only [Zm, Zn]; rw [c182b0]) | skip)
                have H' := Aside0.mk H
                clear H
                try go_wp2
                have n0_ : Aside0 ((((((((w174.setCell ⟨gb118, 0, none⟩ (.int .i64 ((rd_T111 l0_1 x86_3).f0))).setCell ⟨gb118, 1, none⟩ (.int .i64 ((rd_T111 l0_1 x86_3).f1))).setCell ⟨gb118, 2, none⟩ (.int .i64 ((rd_T111 l0_1 x86_3).f2))).setCell ⟨gb118, 3, none⟩ (.bool ((rd_T111 l0_1 x86_3).f3))).setCell ⟨gb118, 4, none⟩ (.int .i64 ((rd_T111 l0_1 x86_3).f4))).setCell ⟨gb118, 5, none⟩ (.int .i64 ((rd_T111 l0_1 x86_3).f5))).setCell ⟨gb118, 6, none⟩ (.bool ((rd_T111 l0_1 x86_3).f6))).heap[gb101]? = some (.cells #[.slice A0_0 l0_0.length c0_0, .slice (some ad117) l0_1.length c0_1, .slice A0_2 l0_2.length c0_2] 54 (0, 0))) := ⟨by (with_reducible repeat (first | refine Zg ?_ _ | refine Zi ?_ | refine Zh ?_ _)); refine Zq ?_ NB101_118.out _; (with_reducible repeat (first | refine Zg ?_ _ | refine Zi ?_ | refine Zh ?_ _)); refine Zq ?_ NB101_118.out _; (with_reducible repeat (first | refine Zg ?_ _ | refine Zi ?_ | refine Zh ?_ _)); refine Zq ?_ NB101_118.out _; (with_reducible repeat (first | refine Zg ?_ _ | refine Zi ?_ | refine Zh ?_ _)); refine Zq ?_ NB101_118.out _; (with_reducible repeat (first | refine Zg ?_ _ | refine Zi ?_ | refine Zh ?_ _)); refine Zq ?_ NB101_118.out _; (with_reducible repeat (first | refine Zg ?_ _ | refine Zi ?_ | refine Zh ?_ _)); refine Zq ?_ NB101_118.out _; (with_reducible repeat (first | refine Zg ?_ _ | refine Zi ?_ | refine Zh ?_ _)); refine Zq ?_ NB101_118.out _; (with_reducible repeat (first | refine Zg ?_ _ | refine Zi ?_ | refine Zh ?_ _)); exact BK101.out⟩
                have n1_ : Aside0 ((((((((w174.setCell ⟨gb118, 0, none⟩ (.int .i64 ((rd_T111 l0_1 x86_3).f0))).setCell ⟨gb118, 1, none⟩ (.int .i64 ((rd_T111 l0_1 x86_3).f1))).setCell ⟨gb118, 2, none⟩ (.int .i64 ((rd_T111 l0_1 x86_3).f2))).setCell ⟨gb118, 3, none⟩ (.bool ((rd_T111 l0_1 x86_3).f3))).setCell ⟨gb118, 4, none⟩ (.int .i64 ((rd_T111 l0_1 x86_3).f4))).setCell ⟨gb118, 5, none⟩ (.int .i64 ((rd_T111 l0_1 x86_3).f5))).setCell ⟨gb118, 6, none⟩ (.bool ((rd_T111 l0_1 x86_3).f6))).heap[gb102]? = some (.cells #[.int .i64 (l0_0.length : Int)] 3 (0, 0))) := ⟨by (with_reducible repeat (first | refine Zg ?_ _ | refine Zi ?_ | refine Zh ?_ _)); refine Zq ?_ NB102_118.out _; (with_reducible repeat (first | refine Zg ?_ _ | refine Zi ?_ | refine Zh ?_ _)); refine Zq ?_ NB102_118.out _; (with_reducible repeat (first | refine Zg ?_ _ | refine Zi ?_ | refine Zh ?_ _)); refine Zq ?_ NB102_118.out _; (with_reducible repeat (first | refine Zg ?_ _ | refine Zi ?_ | refine Zh ?_ _)); refine Zq ?_ NB102_118.out _; (with_reducible repeat (first | refine Zg ?_ _ | refine Zi ?_ | refine Zh ?_ _)); refine Zq ?_ NB102_118.out _; (with_reducible repeat (first | refine Zg ?_ _ | refine Zi ?_ | refine Zh ?_ _)); refine Zq ?_ NB102_118.out _; (with_reducible repeat (first | refine Zg ?_ _ | refine Zi ?_ | refine Zh ?_ _)); refine Zq ?_ NB102_118.out _; (with_reducible repeat (first | refine Zg ?_ _ | refine Zi ?_ | refine Zh ?_ _)); exact BK102.out⟩
                have n2_ : Aside0 ((((((((w174.setCell ⟨gb118, 0, none⟩ (.int .i64 ((rd_T111 l0_1 x86_3).f0))).setCell ⟨gb118, 1, none⟩ (.int .i64 ((rd_T111 l0_1 x86_3).f1))).setCell ⟨gb118, 2, none⟩ (.int .i64 ((rd_T111 l0_1 x86_3).f2))).setCell ⟨gb118, 3, none⟩ (.bool ((rd_T111 l0_1 x86_3).f3))).setCell ⟨gb118, 4, none⟩ (.int .i64 ((rd_T111 l0_1 x86_3).f4))).setCell ⟨gb118, 5, none⟩ (.int .i64 ((rd_T111 l0_1 x86_3).f5))).setCell ⟨gb118, 6, none⟩ (.bool ((rd_T111 l0_1 x86_3).f6))).heap[gb118]? = some (.cells #[.int .i64 ((rd_T111 l0_1 x86_3).f0), .int .i64 ((rd_T111 l0_1 x86_3).f1), .int .i64 ((rd_T111 l0_1 x86_3).f2), .bool ((rd_T111 l0_1 x86_3).f3), .int .i64 ((rd_T111 l0_1 x86_3).f4), .int .i64 ((rd_T111 l0_1 x86_3).f5), .bool ((rd_T111 l0_1 x86_3).f6)] 111 (0, 0))) := ⟨by (with_reducible repeat (first | refine Zg ?_ _ | refine Zi ?_ | refine Zh ?_ _)); refine Zv (cs := #[.int .i64 ((rd_T111 l0_1 x86_3).f0), .int .i64 ((rd_T111 l0_1 x86_3).f1), .int .i64 ((rd_T111 l0_1 x86_3).f2), .bool ((rd_T111 l0_1 x86_3).f3), .int .i64 ((rd_T111 l0_1 x86_3).f4), .int .i64 ((rd_T111 l0_1 x86_3).f5), .bool false]) ?_ 6 _ rfl; (with_reducible repeat (first | refine Zg ?_ _ | refine Zi ?_ | refine Zh ?_ _)); refine Zv (cs := #[.int .i64 ((rd_T111 l0_1 x86_3).f0), .int .i64 ((rd_T111 l0_1 x86_3).f1), .int .i64 ((rd_T111 l0_1 x86_3).f2), .bool ((rd_T111 l0_1 x86_3).f3), .int .i64 ((rd_T111 l0_1 x86_3).f4), .int .i64 0, .bool false]) ?_ 5 _ rfl; (with_reducible repeat (first | refine Zg ?_ _ | refine Zi ?_ | refine Zh ?_ _)); refine Zv (cs := #[.int .i64 ((rd_T111 l0_1 x86_3).f0), .int .i64 ((rd_T111 l0_1 x86_3).f1), .int .i64 ((rd_T111 l0_1 x86_3).f2), .bool ((rd_T111 l0_1 x86_3).f3), .int .i64 0, .int .i64 0, .bool false]) ?_ 4 _ rfl; (with_reducible repeat (first | refine Zg ?_ _ | refine Zi ?_ | refine Zh ?_ _)); refine Zv (cs := #[.int .i64 ((rd_T111 l0_1 x86_3).f0), .int .i64 ((rd_T111 l0_1 x86_3).f1), .int .i64 ((rd_T111 l0_1 x86_3).f2), .bool false, .int .i64 0, .int .i64 0, .bool false]) ?_ 3 _ rfl; (with_reducible repeat (first | refine Zg ?_ _ | refine Zi ?_ | refine Zh ?_ _)); refine Zv (cs := #[.int .i64 ((rd_T111 l0_1 x86_3).f0), .int .i64 ((rd_T111 l0_1 x86_3).f1), .int .i64 0, .bool false, .int .i64 0, .int .i64 0, .bool false]) ?_ 2 _ rfl; (with_reducible repeat (first | refine Zg ?_ _ | refine Zi ?_ | refine Zh ?_ _)); refine Zv (cs := #[.int .i64 ((rd_T111 l0_1 x86_3).f0), .int .i64 0, .int .i64 0, .bool false, .int .i64 0, .int .i64 0, .bool false]) ?_ 1 _ rfl; (with_reducible repeat (first | refine Zg ?_ _ | refine Zi ?_ | refine Zh ?_ _)); refine Zv (cs := #[.int .i64 0, .int .i64 0, .int .i64 0, .bool false, .int .i64 0, .int .i64 0, .bool false]) ?_ 0 _ rfl; (with_reducible repeat (first | refine Zg ?_ _ | refine Zi ?_ | refine Zh ?_ _)); exact BK118.out⟩
                have n3_ : Aside0 (Below w.heap.size w (((((((w174.setCell ⟨gb118, 0, none⟩ (.int .i64 ((rd_T111 l0_1 x86_3).f0))).setCell ⟨gb118, 1, none⟩ (.int .i64 ((rd_T111 l0_1 x86_3).f1))).setCell ⟨gb118, 2, none⟩ (.int .i64 ((rd_T111 l0_1 x86_3).f2))).setCell ⟨gb118, 3, none⟩ (.bool ((rd_T111 l0_1 x86_3).f3))).setCell ⟨gb118, 4, none⟩ (.int .i64 ((rd_T111 l0_1 x86_3).f4))).setCell ⟨gb118, 5, none⟩ (.int .i64 ((rd_T111 l0_1 x86_3).f5))).setCell ⟨gb118, 6, none⟩ (.bool ((rd_T111 l0_1 x86_3).f6)))) := ⟨by repeat (first | (with_reducible first | exact HB.out | apply Ze | apply Za | apply Zd | refine Zf ?_ GE101.out | refine Zf ?_ GE102.out | refine Zf ?_ GE118.out) | exact HB.out)⟩
                (try clear BK101)
                (try clear BK102)
                (try clear BK118)
                (try clear HB)
                generalize (((((((w174.setCell ⟨gb118, 0, none⟩ (.int .i64 ((rd_T111 l0_1 x86_3).f0))).setCell ⟨gb118, 1, none⟩ (.int .i64 ((rd_T111 l0_1 x86_3).f1))).setCell ⟨gb118, 2, none⟩ (.int .i64 ((rd_T111 l0_1 x86_3).f2))).setCell ⟨gb118, 3, none⟩ (.bool ((rd_T111 l0_1 x86_3).f3))).setCell ⟨gb118, 4, none⟩ (.int .i64 ((rd_T111 l0_1 x86_3).f4))).setCell ⟨gb118, 5, none⟩ (.int .i64 ((rd_T111 l0_1 x86_3).f5))).setCell ⟨gb118, 6, none⟩ (.bool ((rd_T111 l0_1 x86_3).f6))) = w183 at n0_ n1_ n2_ n3_ ⊢
                have BK101 := n0_
                have BK102 := n1_
                have BK118 := n2_
                have HB := n3_
                clear n0_ n1_ n2_ n3_
                have n0_ := Aside0.mk (Zi BK101.out)
                have n1_ := Aside0.mk (Zi BK102.out)
                have n2_ := Aside0.mk (Zi BK118.out)
                have n3_ := Aside0.mk (Zd HB.out)
                clear BK101
                clear BK102
                clear BK118
                clear HB
                have BK101 := n0_
                have BK102 := n1_
                have BK118 := n2_
                have HB := n3_
                clear n0_ n1_ n2_ n3_
                refine start_ (n := 34) (S := fun w' => w'.cell? ⟨gb118, 0, none⟩ = some (.int .i64 ((rd_T111 l0_1 x86_3).f0)) ∧ w'.cell? ⟨gb118, 1, none⟩ = some (.int .i64 ((rd_T111 l0_1 x86_3).f1)) ∧ w'.cell? ⟨gb118, 2, none⟩ = some (.int .i64 ((rd_T111 l0_1 x86_3).f2)) ∧ w'.cell? ⟨gb118, 3, none⟩ = some (.bool ((rd_T111 l0_1 x86_3).f3)) ∧ w'.cell? ⟨gb118, 4, none⟩ = some (.int .i64 ((rd_T111 l0_1 x86_3).f4)) ∧ w'.cell? ⟨gb118, 5, none⟩ = some (.int .i64 ((rd_T111 l0_1 x86_3).f5)) ∧ w'.cell? ⟨gb118, 6, none⟩ = some (.bool ((rd_T111 l0_1 x86_3).f6)) ∧ w'.cell? ⟨gb102, 0, none⟩ = some (.int .i64 (l0_0.length : Int))) (ds := []) #[false, false, false, false, false, false, false, false, false, false, false, false, false, false, false, false, false, false, false, false, false, false, false, false, false, false, false, false, false, false, false, false, false, false] (by kernel_rfl) rfl rfl ⟨(Zb BK118.out 0).trans rfl, (Zb BK118.out 1).trans rfl, (Zb BK118.out 2).trans rfl, (Zb BK118.out 3).trans rfl, (Zb BK118.out 4).trans rfl, (Zb BK118.out 5).trans rfl, (Zb BK118.out 6).trans rfl, (Zb BK102.out 0).trans rfl⟩ (fun hHeld => ?_); refine with_tabW impl_isElection.tab13 impl_isElection.bits13 (fun HT_ HW_ => ?_)
                generalize w183.drew = w184 at BK101 BK102 BK118 HB hHeld ⊢
                refine Zr (i := 0) (N := some 90) (v := ?_) (a' := ?_) #[true, false, false, false, false, false, false, false, false, false, false, false, false, false, false, false, false, false, false, false, false, false, false, false, false, false, false, false, false, false, false, false, false, false] rfl rfl (Zo HT_.out (by kernel_rfl)) (fun _ _ _ h => h) (Or.inl ⟨by rfl, ?_⟩) ?_ ?_
                rotate_left
                ·intro w'
                 go_simp
                 with_reducible rfl
                rotate_left
                ·simp only [Act.put, List.setIfInBounds_toArray, List.set_cons_zero, List.set_cons_succ, Zm, Zn]
                 rfl
                refine take_ (i := 1) (N := some 91) (v := ?_) (a' := ?_) #[true, true, false, false, false, false, false, false, false, false, false, false, false, false, false, false, false, false, false, false, false, false, false, false, false, false, false, false, false, false, false, false, false, false] rfl rfl (Zx HT_.out HW_.out (by kernel_rfl)) (fun _ _ _ h => h) (Or.inl ⟨by rfl, ?_⟩) hHeld ?_ ?_
                rotate_left
                ·rintro w' ⟨s0, s1, s2, s3, s4, s5, s6, s7⟩
                 go_simp
                 with_reducible rfl
                rotate_left
                ·simp only [Act.put, List.setIfInBounds_toArray, List.set_cons_zero, List.set_cons_succ, Zm, Zn]
                 rfl
                refine take_ (i := 2) (N := some 92) (v := ?_) (a' := ?_) #[true, true, true, false, false, false, false, false, false, false, false, false, false, false, false, false, false, false, false, false, false, false, false, false, false, false, false, false, false, false, false, false, false, false] rfl rfl (Zx HT_.out HW_.out (by kernel_rfl)) (fun _ _ _ h => h) (Or.inl ⟨by rfl, ?_⟩) hHeld ?_ ?_
                rotate_left
                ·rintro w' ⟨s0, s1, s2, s3, s4, s5, s6, s7⟩
                 go_simp
                 with_reducible rfl
                rotate_left
                ·simp only [Act.put, List.setIfInBounds_toArray, List.set_cons_zero, List.set_cons_succ, Zm, Zn]
                 rfl
                refine Zr (i := 3) (N := some 93) (v := ?_) (a' := ?_) #[true, true, true, true, false, false, false, false, false, false, false, false, false, false, false, false, false, false, false, false, false, false, false, false, false, false, false, false, false, false, false, false, false, false] rfl rfl (Zo HT_.out (by kernel_rfl)) (fun _ _ _ h => h) (Or.inl ⟨by rfl, ?_⟩) ?_ ?_
                rotate_left
                ·intro w'
                 go_simp
                 with_reducible rfl
                rotate_left
                ·simp only [Act.put, List.setIfInBounds_toArray, List.set_cons_zero, List.set_cons_succ, Zm, Zn]
                 rfl
                refine one_ (i := 4) (N := some 94) #[true, true, true, true, true, false, false, false, false, false, false, false, false, false, false, false, false, false, false, false, false, false, false, false, false, false, false, false, false, false, false, false, false, false] rfl rfl (one_of HT_.out (by kernel_rfl)) (by decide) (fun K hK => ?_)
                refine goes_ Try.func71 (by kernel_rfl) rfl #[.int .i64 ((rd_T111 l0_1 x86_3).f0), .int .i64 0, .int .i64 (wrap64 ((l0_0.length : Int) - 1))] (by rfl) rfl rfl (by (try simp only [List.map_toArray, List.map_cons, List.map_nil]); first | done | rfl | (simp only [List.length_drop, List.length_take]; rfl)) ?_
                with_reducible refine (impl_in.calls ((rd_T111 l0_1 x86_3).f0) 0 (wrap64 ((l0_0.length : Int) - 1)) true _ A178.out).mono ?_
                rintro e w' ⟨rfl, ⟨nd, rfl⟩⟩
                refine ⟨_, rfl, ?_⟩
                refine hK.out _ _ ⟨(Zb BK118.out 0).trans rfl, (Zb BK118.out 1).trans rfl, (Zb BK118.out 2).trans rfl, (Zb BK118.out 3).trans rfl, (Zb BK118.out 4).trans rfl, (Zb BK118.out 5).trans rfl, (Zb BK118.out 6).trans rfl, (Zb BK102.out 0).trans rfl⟩ (fun hHeld => ?_)
                clear hK K
                refine norm_ (a' := ?_) ?_ ?_
                rotate_left
                ·show Act.put _ (some 94) _ = _
                 simp only [Act.put, List.setIfInBounds_toArray, List.set_cons_zero, List.set_cons_succ, Zm, Zn]
                 rfl
                refine Zr (i := 5) (N := some 95) (v := ?_) (a' := ?_) #[true, true, true, true, true, true, false, false, false, false, false, false, false, false, false, false, false, false, false, false, false, false, false, false, false, false, false, false, false, false, false, false, false, false] rfl rfl (Zo HT_.out (by kernel_rfl)) (fun _ _ _ h => h) (Or.inl ⟨by rfl, ?_⟩) ?_ ?_
                rotate_left
                ·intro w'
                 go_simp
                 with_reducible rfl
                rotate_left
                ·simp only [Act.put, List.setIfInBounds_toArray, List.set_cons_zero, List.set_cons_succ, Zm, Zn]
                 rfl
                refine Zr (i := 6) (N := some 96) (v := ?_) (a' := ?_) #[true, true, true, true, true, true, true, false, false, false, false, false, false, false, false, false, false, false, false, false, false, false, false, false, false, false, false, false, false, false, false, false, false, false] rfl rfl (Zo HT_.out (by kernel_rfl)) (fun _ _ _ h => h) (Or.inl ⟨by rfl, ?_⟩) ?_ ?_
                rotate_left
                ·intro w'
                 go_simp
                 with_reducible rfl
                rotate_left
                ·simp only [Act.put, List.setIfInBounds_toArray, List.set_cons_zero, List.set_cons_succ, Zm, Zn]
                 rfl
                refine Zr (i := 7) (N := some 97) (v := ?_) (a' := ?_) #[true, true, true, true, true, true, true, true, false, false, false, false, false, false, false, false, false, false, false, false, false, false, false, false, false, false, false, false, false, false, false, false, false, false] rfl rfl (Zo HT_.out (by kernel_rfl)) (fun _ _ _ h => h) (Or.inl ⟨by rfl, ?_⟩) ?_ ?_
                rotate_left
                ·intro w'
                 go_simp
                 with_reducible rfl
                rotate_left
                ·simp only [Act.put, List.setIfInBounds_toArray, List.set_cons_zero, List.set_cons_succ, Zm, Zn]
                 rfl
                refine take_ (i := 8) (N := some 98) (v := ?_) (a' := ?_) #[true, true, true, true, true, true, true, true, true, false, false, false, false, false, false, false, false, false, false, false, false, false, false, false, false, false, false, false, false, false, false, false, false, false] rfl rfl (Zx HT_.out HW_.out (by kernel_rfl)) (fun _ _ _ h => h) (Or.inl ⟨by rfl, ?_⟩) hHeld ?_ ?_
                rotate_left
                ·rintro w' ⟨s0, s1, s2, s3, s4, s5, s6, s7⟩
                 go_simp
                 with_reducible rfl
                rotate_left
                ·simp only [Act.put, List.setIfInBounds_toArray, List.set_cons_zero, List.set_cons_succ, Zm, Zn]
                 rfl
                refine take_ (i := 9) (N := some 99) (v := ?_) (a' := ?_) #[true, true, true, true, true, true, true, true, true, true, false, false, false, false, false, false, false, false, false, false, false, false, false, false, false, false, false, false, false, false, false, false, false, false] rfl rfl (Zx HT_.out HW_.out (by kernel_rfl)) (fun _ _ _ h => h) (Or.inl ⟨by rfl, ?_⟩) hHeld ?_ ?_
                rotate_left
                ·rintro w' ⟨s0, s1, s2, s3, s4, s5, s6, s7⟩
                 go_simp
                 with_reducible rfl
                rotate_left
                ·simp only [Act.put, List.setIfInBounds_toArray, List.set_cons_zero, List.set_cons_succ, Zm, Zn]
                 rfl
                refine Zr (i := 10) (N := some 100) (v := ?_) (a' := ?_) #[true, true, true, true, true, true, true, true, true, true, true, false, false, false, false, false, false, false, false, false, false, false, false, false, false, false, false, false, false, false, false, false, false, false] rfl rfl (Zo HT_.out (by kernel_rfl)) (fun _ _ _ h => h) (Or.inl ⟨by rfl, ?_⟩) ?_ ?_
                rotate_left
                ·intro w'
                 go_simp
                 with_reducible rfl
                rotate_left
                ·simp only [Act.put, List.setIfInBounds_toArray, List.set_cons_zero, List.set_cons_succ, Zm, Zn]
                 rfl
                refine one_ (i := 11) (N := some 101) #[true, true, true, true, true, true, true, true, true, true, true, true, false, false, false, false, false, false, false, false, false, false, false, false, false, false, false, false, false, false, false, false, false, false] rfl rfl (one_of HT_.out (by kernel_rfl)) (by decide) (fun K hK => ?_)
                refine goes_ Try.func71 (by kernel_rfl) rfl #[.int .i64 ((rd_T111 l0_1 x86_3).f1), .int .i64 0, .int .i64 (wrap64 ((l0_0.length : Int) - 1))] (by rfl) rfl rfl (by (try simp only [List.map_toArray, List.map_cons, List.map_nil]); first | done | rfl | (simp only [List.length_drop, List.length_take]; rfl)) ?_
                with_reducible refine (impl_in.calls ((rd_T111 l0_1 x86_3).f1) 0 (wrap64 ((l0_0.length : Int) - 1)) true _ A180.out).mono ?_
                rintro e w' ⟨rfl, ⟨nd, rfl⟩⟩
                refine ⟨_, rfl, ?_⟩
                refine hK.out _ _ ⟨(Zb BK118.out 0).trans rfl, (Zb BK118.out 1).trans rfl, (Zb BK118.out 2).trans rfl, (Zb BK118.out 3).trans rfl, (Zb BK118.out 4).trans rfl, (Zb BK118.out 5).trans rfl, (Zb BK118.out 6).trans rfl, (Zb BK102.out 0).trans rfl⟩ (fun hHeld => ?_)
                clear hK K
                refine norm_ (a' := ?_) ?_ ?_
                rotate_left
                ·show Act.put _ (some 101) _ = _
                 simp only [Act.put, List.setIfInBounds_toArray, List.set_cons_zero, List.set_cons_succ, Zm, Zn]
                 rfl
                refine Zr (i := 12) (N := some 102) (v := ?_) (a' := ?_) #[true, true, true, true, true, true, true, true, true, true, true, true, true, false, false, false, false, false, false, false, false, false, false, false, false, false, false, false, false, false, false, false, false, false] rfl rfl (Zo HT_.out (by kernel_rfl)) (fun _ _ _ h => h) (Or.inl ⟨by rfl, ?_⟩) ?_ ?_
                rotate_left
                ·intro w'
                 go_simp
                 with_reducible rfl
                rotate_left
                ·simp only [Act.put, List.setIfInBounds_toArray, List.set_cons_zero, List.set_cons_succ, Zm, Zn]
                 rfl
                refine Zr (i := 13) (N := some 103) (v := ?_) (a' := ?_) #[true, true, true, true, true, true, true, true, true, true, true, true, true, true, false, false, false, false, false, false, false, false, false, false, false, false, false, false, false, false, false, false, false, false] rfl rfl (Zo HT_.out (by kernel_rfl)) (fun _ _ _ h => h) (Or.inl ⟨by rfl, ?_⟩) ?_ ?_
                rotate_left
                ·intro w'
                 go_simp
                 with_reducible rfl
                rotate_left
                ·simp only [Act.put, List.setIfInBounds_toArray, List.set_cons_zero, List.set_cons_succ, Zm, Zn]
                 rfl
                refine Zr (i := 14) (N := some 104) (v := ?_) (a' := ?_) #[true, true, true, true, true, true, true, true, true, true, true, true, true, true, true, false, false, false, false, false, false, false, false, false, false, false, false, false, false, false, false, false, false, false] rfl rfl (Zo HT_.out (by kernel_rfl)) (fun _ _ _ h => h) (Or.inl ⟨by rfl, ?_⟩) ?_ ?_
                rotate_left
                ·intro w'
                 go_simp
                 with_reducible rfl
                rotate_left
                ·simp only [Act.put, List.setIfInBounds_toArray, List.set_cons_zero, List.set_cons_succ, Zm, Zn]
                 rfl
                refine Zr (i := 15) (N := some 105) (v := ?_) (a' := ?_) #[true, true, true, true, true, true, true, true, true, true, true, true, true, true, true, true, false, false, false, false, false, false, false, false, false, false, false, false, false, false, false, false, false, false] rfl rfl (Zo HT_.out (by kernel_rfl)) (fun _ _ _ h => h) (Or.inl ⟨by rfl, ?_⟩) ?_ ?_
                rotate_left
                ·intro w'
                 go_simp
                 with_reducible rfl
                rotate_left
                ·simp only [Act.put, List.setIfInBounds_toArray, List.set_cons_zero, List.set_cons_succ, Zm, Zn]
                 rfl
                refine Zr (i := 17) (N := some 107) (v := ?_) (a' := ?_) #[true, true, true, true, true, true, true, true, true, true, true, true, true, true, true, true, false, true, false, false, false, false, false, false, false, false, false, false, false, false, false, false, false, false] rfl rfl (Zo HT_.out (by kernel_rfl)) (fun _ _ _ h => h) (Or.inl ⟨by rfl, ?_⟩) ?_ ?_
                rotate_left
                ·intro w'
                 go_simp
                 with_reducible rfl
                rotate_left
                ·simp only [Act.put, List.setIfInBounds_toArray, List.set_cons_zero, List.set_cons_succ, Zm, Zn]
                 rfl
                refine take_ (i := 16) (N := some 106) (v := ?_) (a' := ?_) #[true, true, true, true, true, true, true, true, true, true, true, true, true, true, true, true, true, true, false, false, false, false, false, false, false, false, false, false, false, false, false, false, false, false] rfl rfl (Zx HT_.out HW_.out (by kernel_rfl)) (fun _ _ _ h => h) (Or.inl ⟨by rfl, ?_⟩) hHeld ?_ ?_
                rotate_left
                ·rintro w' ⟨s0, s1, s2, s3, s4, s5, s6, s7⟩
                 go_simp
                 with_reducible rfl
                rotate_left
                ·simp only [Act.put, List.setIfInBounds_toArray, List.set_cons_zero, List.set_cons_succ, Zm, Zn]
                 rfl
                refine take_ (i := 18) (N := some 108) (v := ?_) (a' := ?_) #[true, true, true, true, true, true, true, true, true, true, true, true, true, true, true, true, true, true, true, false, false, false, false, false, false, false, false, false, false, false, false, false, false, false] rfl rfl (Zx HT_.out HW_.out (by kernel_rfl)) (fun _ _ _ h => h) (Or.inl ⟨by rfl, ?_⟩) hHeld ?_ ?_
                rotate_left
                ·rintro w' ⟨s0, s1, s2, s3, s4, s5, s6, s7⟩
                 go_simp
                 with_reducible rfl
                rotate_left
                ·simp only [Act.put, List.setIfInBounds_toArray, List.set_cons_zero, List.set_cons_succ, Zm, Zn]
                 rfl
                refine Zr (i := 19) (N := some 109) (v := ?_) (a' := ?_) #[true, true, true, true, true, true, true, true, true, true, true, true, true, true, true, true, true, true, true, true, false, false, false, false, false, false, false, false, false, false, false, false, false, false] rfl rfl (Zo HT_.out (by kernel_rfl)) (fun _ _ _ h => h) (Or.inl ⟨by rfl, ?_⟩) ?_ ?_
                rotate_left
                ·intro w'
                 go_simp
                 with_reducible rfl
                rotate_left
                ·simp only [Act.put, List.setIfInBounds_toArray, List.set_cons_zero, List.set_cons_succ, Zm, Zn]
                 rfl
                refine Zr (i := 20) (N := some 110) (v := ?_) (a' := ?_) #[true, true, true, true, true, true, true, true, true, true, true, true, true, true, true, true, true, true, true, true, true, false, false, false, false, false, false, false, false, false, false, false, false, false] rfl rfl (Zo HT_.out (by kernel_rfl)) (fun _ _ _ h => h) (Or.inl ⟨by rfl, ?_⟩) ?_ ?_
                rotate_left
                ·intro w'
                 go_simp
                 with_reducible rfl
                rotate_left
                ·simp only [Act.put, List.setIfInBounds_toArray, List.set_cons_zero, List.set_cons_succ, Zm, Zn]
                 rfl
                refine Zr (i := 21) (N := some 111) (v := ?_) (a' := ?_) #[true, true, true, true, true, true, true, true, true, true, true, true, true, true, true, true, true, true, true, true, true, true, false, false, false, false, false, false, false, false, false, false, false, false] rfl rfl (Zo HT_.out (by kernel_rfl)) (fun _ _ _ h => h) (Or.inl ⟨by rfl, ?_⟩) ?_ ?_
                rotate_left
                ·intro w'
                 go_simp
                 with_reducible rfl
                rotate_left
                ·simp only [Act.put, List.setIfInBounds_toArray, List.set_cons_zero, List.set_cons_succ, Zm, Zn]
                 rfl
                refine Zr (i := 22) (N := some 112) (v := undef) (a' := ?_) #[true, true, true, true, true, true, true, true, true, true, true, true, true, true, true, true, true, true, true, true, true, true, true, false, false, false, false, false, false, false, false, false, false, false] rfl rfl (Zo HT_.out (by kernel_rfl)) (fun _ _ _ h => h) (Or.inr ⟨by rfl, rfl⟩) ?_ ?_
                rotate_left
                ·simp only [Act.put, List.setIfInBounds_toArray, List.set_cons_zero, List.set_cons_succ, Zm, Zn]
                 rfl
                refine Zr (i := 23) (N := some 113) (v := undef) (a' := ?_) #[true, true, true, true, true, true, true, true, true, true, true, true, true, true, true, true, true, true, true, true, true, true, true, true, false, false, false, false, false, false, false, false, false, false] rfl rfl (Zo HT_.out (by kernel_rfl)) (fun _ _ _ h => h) (Or.inr ⟨by rfl, rfl⟩) ?_ ?_
                rotate_left
                ·simp only [Act.put, List.setIfInBounds_toArray, List.set_cons_zero, List.set_cons_succ, Zm, Zn]
                 rfl
                refine Zr (i := 24) (N := some 114) (v := undef) (a' := ?_) #[true, true, true, true, true, true, true, true, true, true, true, true, true, true, true, true, true, true, true, true, true, true, true, true, true, false, false, false, false, false, false, false, false, false] rfl rfl (Zo HT_.out (by kernel_rfl)) (fun _ _ _ h => h) (Or.inr ⟨by rfl, rfl⟩) ?_ ?_
                rotate_left
                ·simp only [Act.put, List.setIfInBounds_toArray, List.set_cons_zero, List.set_cons_succ, Zm, Zn]
                 rfl
                refine Zr (i := 25) (N := some 115) (v := undef) (a' := ?_) #[true, true, true, true, true, true, true, true, true, true, true, true, true, true, true, true, true, true, true, true, true, true, true, true, true, true, false, false, false, false, false, false, false, false] rfl rfl (Zo HT_.out (by kernel_rfl)) (fun _ _ _ h => h) (Or.inr ⟨by rfl, rfl⟩) ?_ ?_
                rotate_left
                ·simp only [Act.put, List.setIfInBounds_toArray, List.set_cons_zero, List.set_cons_succ, Zm, Zn]
                 rfl
                refine Zr (i := 26) (N := some 116) (v := undef) (a' := ?_) #[true, true, true, true, true, true, true, true, true, true, true, true, true, true, true, true, true, true, true, true, true, true, true, true, true, true, true, false, false, false, false, false, false, false] rfl rfl (Zo HT_.out (by kernel_rfl)) (fun _ _ _ h => h) (Or.inr ⟨by rfl, rfl⟩) ?_ ?_
                rotate_left
                ·simp only [Act.put, List.setIfInBounds_toArray, List.set_cons_zero, List.set_cons_succ, Zm, Zn]
                 rfl
                refine Zr (i := 27) (N := some 117) (v := undef) (a' := ?_) #[true, true, true, true, true, true, true, true, true, true, true, true, true, true, true, true, true, true, true, true, true, true, true, true, true, true, true, true, false, false, false, false, false, false] rfl rfl (Zo HT_.out (by kernel_rfl)) (fun _ _ _ h => h) (Or.inr ⟨by rfl, rfl⟩) ?_ ?_
                rotate_left
                ·simp only [Act.put, List.setIfInBounds_toArray, List.set_cons_zero, List.set_cons_succ, Zm, Zn]
                 rfl
                refine Zr (i := 28) (N := some 118) (v := undef) (a' := ?_) #[true, true, true, true, true, true, true, true, true, true, true, true, true, true, true, true, true, true, true, true, true, true, true, true, true, true, true, true, true, false, false, false, false, false] rfl rfl (Zo HT_.out (by kernel_rfl)) (fun _ _ _ h => h) (Or.inr ⟨by rfl, rfl⟩) ?_ ?_
                rotate_left
                ·simp only [Act.put, List.setIfInBounds_toArray, List.set_cons_zero, List.set_cons_succ, Zm, Zn]
                 rfl
                refine Zr (i := 29) (N := some 119) (v := undef) (a' := ?_) #[true, true, true, true, true, true, true, true, true, true, true, true, true, true, true, true, true, true, true, true, true, true, true, true, true, true, true, true, true, true, false, false, false, false] rfl rfl (Zo HT_.out (by kernel_rfl)) (fun _ _ _ h => h) (Or.inr ⟨by rfl, rfl⟩) ?_ ?_
                rotate_left
                ·simp only [Act.put, List.setIfInBounds_toArray, List.set_cons_zero, List.set_cons_succ, Zm, Zn]
                 rfl
                refine Zr (i := 30) (N := some 120) (v := undef) (a' := ?_) #[true, true, true, true, true, true, true, true, true, true, true, true, true, true, true, true, true, true, true, true, true, true, true, true, true, true, true, true, true, true, true, false, false, false] rfl rfl (Zo HT_.out (by kernel_rfl)) (fun _ _ _ h => h) (Or.inr ⟨by rfl, rfl⟩) ?_ ?_
                rotate_left
                ·simp only [Act.put, List.setIfInBounds_toArray, List.set_cons_zero, List.set_cons_succ, Zm, Zn]
                 rfl
                refine Zr (i := 31) (N := some 121) (v := undef) (a' := ?_) #[true, true, true, true, true, true, true, true, true, true, true, true, true, true, true, true, true, true, true, true, true, true, true, true, true, true, true, true, true, true, true, true, false, false] rfl rfl (Zo HT_.out (by kernel_rfl)) (fun _ _ _ h => h) (Or.inr ⟨by rfl, rfl⟩) ?_ ?_
                rotate_left
                ·simp only [Act.put, List.setIfInBounds_toArray, List.set_cons_zero, List.set_cons_succ, Zm, Zn]
                 rfl
                refine Zr (i := 32) (N := some 122) (v := undef) (a' := ?_) #[true, true, true, true, true, true, true, true, true, true, true, true, true, true, true, true, true, true, true, true, true, true, true, true, true, true, true, true, true, true, true, true, true, false] rfl rfl (Zo HT_.out (by kernel_rfl)) (fun _ _ _ h => h) (Or.inr ⟨by rfl, rfl⟩) ?_ ?_
                rotate_left
                ·simp only [Act.put, List.setIfInBounds_toArray, List.set_cons_zero, List.set_cons_succ, Zm, Zn]
                 rfl
                refine Zr (i := 33) (N := some 123) (v := ?_) (a' := ?_) #[true, true, true, true, true, true, true, true, true, true, true, true, true, true, true, true, true, true, true, true, true, true, true, true, true, true, true, true, true, true, true, true, true, true] rfl rfl (Zo HT_.out (by kernel_rfl)) (fun _ _ _ h => h) (Or.inl ⟨by rfl, ?_⟩) ?_ ?_
                rotate_left
                ·intro w'
                 go_simp
                 with_reducible rfl
                rotate_left
                ·simp only [Act.put, List.setIfInBounds_toArray, List.set_cons_zero, List.set_cons_succ, Zm, Zn]
                 rfl
                refine done_ (done_of HT_.out (by kernel_rfl)) ?_
                try go_wp2
                go_meet
                case rel => exact ⟨_, (true), (by first | rfl | (simp; done) | (simp [*]; done)), H', ⟨by have := HJ1.out; have := HK2.out; have := HK3.out; first | omega | exact Nat.le_refl _⟩, ⟨by (with_reducible repeat (first | refine Zg ?_ _ | refine Zi ?_ | refine Zh ?_ _)); exact BK101.out⟩, ⟨by (with_reducible repeat (first | refine Zg ?_ _ | refine Zi ?_ | refine Zh ?_ _)); exact BK102.out⟩, ⟨by (with_reducible repeat (first | refine Zg ?_ _ | refine Zi ?_ | refine Zh ?_ _)); exact BK118.out⟩, ⟨by repeat (first | (with_reducible first | exact HB.out | apply Ze | apply Za | apply Zd | refine Zf ?_ GE101.out | refine Zf ?_ GE102.out | refine Zf ?_ GE118.out) | exact HB.out)⟩⟩
               ·rw [if_neg c182] at H
                have c182b0 : (((rd_T111 l0_1 x86_3).f0) == ((rd_T111 l0_1 x86_3).f1)) = false := beq_eq_false_iff_ne.mpr c182
                have c182b1 : (((rd_T111 l0_1 x86_3).f0) != ((rd_T111 l0_1 x86_3).f1)) = true := bne_iff_ne.mpr c182
                (first | rw [c182b0] | (simp only [Zm, Zn]; rw [c182b0]) | skip)
                by_cases c185 : 0 ≤ ((rd_T111 l0_1 x86_3).f1)
                ·rw [if_pos c185] at H
                 have c185b0 : decide (0 ≤ ((rd_T111 l0_1 x86_3).f1)) = true := decide_eq_true c185
                 clear c185
                 by_cases c186 : ((rd_T111 l0_1 x86_3).f1) < (l0_0.length : Int)
                 ·rw [if_pos c186] at H
                  have c186b0 : decide (((rd_T111 l0_1 x86_3).f1) < (l0_0.length : Int)) = true := decide_eq_true c186
                  clear c186
                  replace H := Option.bind_eq_some_iff.mp H
                  obtain ⟨t122, A1870, H⟩ := H
                  have A187 := Aside0.mk A1870
                  clear A1870
                  have H' := Aside0.mk H
                  clear H
                  try go_wp2
                  have n0_ : Aside0 ((((((((w174.setCell ⟨gb118, 0, none⟩ (.int .i64 ((rd_T111 l0_1 x86_3).f0))).setCell ⟨gb118, 1, none⟩ (.int .i64 ((rd_T111 l0_1 x86_3).f1))).setCell ⟨gb118, 2, none⟩ (.int .i64 ((rd_T111 l0_1 x86_3).f2))).setCell ⟨gb118, 3, none⟩ (.bool ((rd_T111 l0_1 x86_3).f3))).setCell ⟨gb118, 4, none⟩ (.int .i64 ((rd_T111 l0_1 x86_3).f4))).setCell ⟨gb118, 5, none⟩ (.int .i64 ((rd_T111 l0_1 x86_3).f5))).setCell ⟨gb118, 6, none⟩ (.bool ((rd_T111 l0_1 x86_3).f6))).heap[gb101]? = some (.cells #[.slice A0_0 l0_0.length c0_0, .slice (some ad117) l0_1.length c0_1, .slice A0_2 l0_2.length c0_2] 54 (0, 0))) := ⟨by (with_reducible repeat (first | refine Zg ?_ _ | refine Zi ?_ | refine Zh ?_ _)); refine Zq ?_ NB101_118.out _; (with_reducible repeat (first | refine Zg ?_ _ | refine Zi ?_ | refine Zh ?_ _)); refine Zq ?_ NB101_118.out _; (with_reducible repeat (first | refine Zg ?_ _ | refine Zi ?_ | refine Zh ?_ _)); refine Zq ?_ NB101_118.out _; (with_reducible repeat (first | refine Zg ?_ _ | refine Zi ?_ | refine Zh ?_ _)); refine Zq ?_ NB101_118.out _; (with_reducible repeat (first | refine Zg ?_ _ | refine Zi ?_ | refine Zh ?_ _)); refine Zq ?_ NB101_118.out _; (with_reducible repeat (first | refine Zg ?_ _ | refine Zi ?_ | refine Zh ?_ _)); refine Zq ?_ NB101_118.out _; (with_reducible repeat (first | refine Zg ?_ _ | refine Zi ?_ | refine Zh ?_ _)); refine Zq ?_ NB101_118.out _; (with_reducible repeat (first | refine Zg ?_ _ | refine Zi ?_ | refine Zh ?_ _)); exact BK101.out⟩
                  have n1_ : Aside0 ((((((((w174.setCell ⟨gb118, 0, none⟩ (.int .i64 ((rd_T111 l0_1 x86_3).f0))).setCell ⟨gb118, 1, none⟩ (.int .i64 ((rd_T111 l0_1 x86_3).f1))).setCell ⟨gb118, 2, none⟩ (.int .i64 ((rd_T111 l0_1 x86_3).f2))).setCell ⟨gb118, 3, none⟩ (.bool ((rd_T111 l0_1 x86_3).f3))).setCell ⟨gb118, 4, none⟩ (.int .i64 ((rd_T111 l0_1 x86_3).f4))).setCell ⟨gb118, 5, none⟩ (.int .i64 ((rd_T111 l0_1 x86_3).f5))).setCell ⟨gb118, 6, none⟩ (.bool ((rd_T111 l0_1 x86_3).f6))).heap[gb102]? = some (.cells #[.int .i64 (l0_0.length : Int)] 3 (0, 0))) := ⟨by (with_reducible repeat (first | refine Zg ?_ _ | refine Zi ?_ | refine Zh ?_ _)); refine Zq ?_ NB102_118.out _; (with_reducible repeat (first | refine Zg ?_ _ | refine Zi ?_ | refine Zh ?_ _)); refine Zq ?_ NB102_118.out _; (with_reducible repeat (first | refine Zg ?_ _ | refine Zi ?_ | refine Zh ?_ _)); refine Zq ?_ NB102_118.out _; (with_reducible repeat (first | refine Zg ?_ _ | refine Zi ?_ | refine Zh ?_ _)); refine Zq ?_ NB102_118.out _; (with_reducible repeat (first | refine Zg ?_ _ | refine Zi ?_ | refine Zh ?_ _)); refine Zq ?_ NB102_118.out _; (with_reducible repeat (first | refine Zg ?_ _ | refine Zi ?_ | refine Zh ?_ _)); refine Zq ?_ NB102_118.out _; (with_reducible repeat (first | refine Zg ?_ _ | refine Zi ?_ | refine Zh ?_ _)); refine Zq ?_ NB102_118.out _; (with_reducible repeat (first | refine Zg ?_ _ | refine Zi ?_ | refine Zh ?_ _)); exact BK102.out⟩
                  have n2_ : Aside0 ((((((((w174.setCell ⟨gb118, 0, none⟩ (.int .i64 ((rd_T111 l0_1 x86_3).f0))).setCell ⟨gb118, 1, none⟩ (.int .i64 ((rd_T111 l0_1 x86_3).f1))).setCell ⟨gb118, 2, none⟩ (.int .i64 ((rd_T111 l0_1 x86_3).f2))).setCell ⟨gb118, 3, none⟩ (.bool ((rd_T111 l0_1 x86_3).f3))).setCell ⟨gb118, 4, none⟩ (.int .i64 ((rd_T111 l0_1 x86_3).f4))).setCell ⟨gb118, 5, none⟩ (.int .i64 ((rd_T111 l0_1 x86_3).f5))).setCell ⟨gb118, 6, none⟩ (.bool ((rd_T111 l0_1 x86_3).f6))).heap[gb118]? = some (.cells #[.int .i64 ((rd_T111 l0_1 x86_3).f0), .int .i64 ((rd_T111 l0_1 x86_3).f1), .int .i64 ((rd_T111 l0_1 x86_3).f2), .bool ((rd_T111 l0_1 x86_3).f3), .int .i64 ((rd_T111 l0_1 x86_3).f4), .int .i64 ((rd_T111 l0_1 x86_3).f5), .bool ((rd_T111 l0_1 x86_3).f6)] 111 (0, 0))) := ⟨by (with_reducible repeat (first | refine Zg ?_ _ | refine Zi ?_ | refine Zh ?_ _)); refine Zv (cs := #[.int .i64 ((rd_T111 l0_1 x86_3).f0), .int .i64 ((rd_T111 l0_1 x86_3).f1), .int .i64 ((rd_T111 l0_1 x86_3).f2), .bool ((rd_T111 l0_1 x86_3).f3), .int .i64 ((rd_T111 l0_1 x86_3).f4), .int .i64 ((rd_T111 l0_1 x86_3).f5), .bool false]) ?_ 6 _ rfl; (with_reducible repeat (first | refine Zg ?_ _ | refine Zi ?_ | refine Zh ?_ _)); refine Zv (cs := #[.int .i64 ((rd_T111 l0_1 x86_3).f0), .int .i64 ((rd_T111 l0_1 x86_3).f1), .int .i64 ((rd_T111 l0_1 x86_3).f2), .bool ((rd_T111 l0_1 x86_3).f3), .int .i64 ((rd_T111 l0_1 x86_3).f4), .int .i64 0, .bool false]) ?_ 5 _ rfl; (with_reducible repeat (first | refine Zg ?_ _ | refine Zi ?_ | refine Zh ?_ _)); refine Zv (cs := #[.int .i64 ((rd_T111 l0_1 x86_3).f0), .int .i64 ((rd_T111 l0_1 x86_3).f1), .int .i64 ((rd_T111 l0_1 x86_3).f2), .bool ((rd_T111 l0_1 x86_3).f3), .int .i64 0, .int .i64 0, .bool false]) ?_ 4 _ rfl; (with_reducible repeat (first | refine Zg ?_ _ | refine Zi ?_ | refine Zh ?_ _)); refine Zv (cs := #[.int .i64 ((rd_T111 l0_1 x86_3).f0), .int .i64 ((rd_T111 l0_1 x86_3).f1), .int .i64 ((rd_T111 l0_1 x86_3).f2), .bool false, .int .i64 0, .int .i64 0, .bool false]) ?_ 3 _ rfl; (with_reducible repeat (first | refine Zg ?_ _ | refine Zi ?_ | refine Zh ?_ _)); refine Zv (cs := #[.int .i64 ((rd_T111 l0_1 x86_3).f0), .int .i64 ((rd_T111 l0_1 x86_3).f1), .int .i64 0, .bool false, .int .i64 0, .int .i64 0, .bool false]) ?_ 2 _ rfl; (with_reducible repeat (first | refine Zg ?_ _ | refine Zi ?_ | refine Zh ?_ _)); refine Zv (cs := #[.int .i64 ((rd_T111 l0_1 x86_3).f0), .int .i64 0, .int .i64 0, .bool false, .int .i64 0, .int .i64 0, .bool false]) ?_ 1 _ rfl; (with_reducible repeat (first | refine Zg ?_ _ | refine Zi ?_ | refine Zh ?_ _)); refine Zv (cs := #[.int .i64 0, .int .i64 0, .int .i64 0, .bool false, .int .i64 0, .int .i64 0, .bool false]) ?_ 0 _ rfl; (with_reducible repeat (first | refine Zg ?_ _ | refine Zi ?_ | refine Zh ?_ _)); exact BK118.out⟩
                  have n3_ : Aside0 (Below w.heap.size w (((((((w174.setCell ⟨gb118, 0, none⟩ (.int .i64 ((rd_T111 l0_1 x86_3).f0))).setCell ⟨gb118, 1, none⟩ (.int .i64 ((rd_T111 l0_1 x86_3).f1))).setCell ⟨gb118, 2, none⟩ (.int .i64 ((rd_T111 l0_1 x86_3).f2))).setCell ⟨gb118, 3, none⟩ (.bool ((rd_T111 l0_1 x86_3).f3))).setCell ⟨gb118, 4, none⟩ (.int .i64 ((rd_T111 l0_1 x86_3).f4))).setCell ⟨gb118, 5, none⟩ (.int .i64 ((rd_T111 l0_1 x86_3).f5))).setCell ⟨gb118, 6, none⟩ (.bool ((rd_T111 l0_1 x86_3).f6)))) := ⟨by repeat (first | (with_reducible first | exact HB.out | apply Ze | apply Za | apply Zd | refine Zf ?_ GE101.out | refine Zf ?_ GE102.out | refine Zf ?_ GE118.out) | exact HB.out)⟩
                  (try clear BK101)
                  (try clear BK102)
                  (try clear BK118)
                  (try clear HB)
                  generalize (((((((w174.setCell ⟨gb118, 0, none⟩ (.int .i64 ((rd_T111 l0_1 x86_3).f0))).setCell ⟨gb118, 1, none⟩ (.int .i64 ((rd_T111 l0_1 x86_3).f1))).setCell ⟨gb118, 2, none⟩ (.int .i64 ((rd_T111 l0_1 x86_3).f2))).setCell ⟨gb118, 3, none⟩ (.bool ((rd_T111 l0_1 x86_3).f3))).setCell ⟨gb118, 4, none⟩ (.int .i64 ((rd_T111 l0_1 x86_3).f4))).setCell ⟨gb118, 5, none⟩ (.int .i64 ((rd_T111 l0_1 x86_3).f5))).setCell ⟨gb118, 6, none⟩ (.bool ((rd_T111 l0_1 x86_3).f6))) = w188 at n0_ n1_ n2_ n3_ ⊢
                  have BK101 := n0_
                  have BK102 := n1_
                  have BK118 := n2_
                  have HB := n3_
                  clear n0_ n1_ n2_ n3_
                  have n0_ := Aside0.mk (Zi BK101.out)
                  have n1_ := Aside0.mk (Zi BK102.out)
                  have n2_ := Aside0.mk (Zi BK118.out)
                  have n3_ := Aside0.mk (Zd HB.out)
                  clear BK101
                  clear BK102
                  clear BK118
                  clear HB
                  have BK101 := n0_
                  have BK102 := n1_
                  have BK118 := n2_
                  have HB := n3_
                  clear n0_ n1_ n2_ n3_
                  have p121 : 0 ≤ (((rd_T111 l0_1 x86_3).f1) : Int) := of_decide_eq_true (by assumption)
                  have q121 : ((rd_T111 l0_1 x86_3).f1) < (l0_0.length : Int) := of_decide_eq_true (by assumption)
                  obtain ⟨ad121, A121_4, c121_4, A121_5, c121_5, e121, hx121_0, hx121_1, hx121_2, hx121_3, hx121_4, hx121_5, hl121_4, hi121_4, hl121_5, hi121_5⟩ := at_T108 HR0_0.out ((rd_T111 l0_1 x86_3).f1) p121 q121
                  have hw121_5 := hx121_5
                  have hw121_4 := hx121_4
                  have hw121_3 := hx121_3
                  have hw121_2 := hx121_2
                  have hw121_1 := hx121_1
                  have hw121_0 := hx121_0
                  cases e121
                  replace hx121_0 := (HB.out.cell (World.block_lt_of_cell? w _ hx121_0)).trans hx121_0
                  replace hx121_1 := (HB.out.cell (World.block_lt_of_cell? w _ hx121_1)).trans hx121_1
                  replace hx121_2 := (HB.out.cell (World.block_lt_of_cell? w _ hx121_2)).trans hx121_2
                  replace hx121_3 := (HB.out.cell (World.block_lt_of_cell? w _ hx121_3)).trans hx121_3
                  replace hx121_4 := (HB.out.cell (World.block_lt_of_cell? w _ hx121_4)).trans hx121_4
                  replace hx121_5 := (HB.out.cell (World.block_lt_of_cell? w _ hx121_5)).trans hx121_5
                  have HR121_4 := Aside0.mk hi121_4
                  have HC121_4 := Aside0.mk hl121_4
                  clear hi121_4 hl121_4
                  have HR121_5 := Aside0.mk hi121_5
                  have HC121_5 := Aside0.mk hl121_5
                  clear hi121_5 hl121_5
                  replace p121 := eq_true p121
                  replace q121 := eq_true q121
                  refine start_ (n := 34) (S := fun w' => w'.cell? ⟨gb118, 0, none⟩ = some (.int .i64 ((rd_T111 l0_1 x86_3).f0)) ∧ w'.cell? ⟨gb118, 1, none⟩ = some (.int .i64 ((rd_T111 l0_1 x86_3).f1)) ∧ w'.cell? ⟨gb118, 2, none⟩ = some (.int .i64 ((rd_T111 l0_1 x86_3).f2)) ∧ w'.cell? ⟨gb118, 3, none⟩ = some (.bool ((rd_T111 l0_1 x86_3).f3)) ∧ w'.cell? ⟨gb118, 4, none⟩ = some (.int .i64 ((rd_T111 l0_1 x86_3).f4)) ∧ w'.cell? ⟨gb118, 5, none⟩ = some (.int .i64 ((rd_T111 l0_1 x86_3).f5)) ∧ w'.cell? ⟨gb118, 6, none⟩ = some (.bool ((rd_T111 l0_1 x86_3).f6)) ∧ w'.cell? ⟨gb102, 0, none⟩ = some (.int .i64 (l0_0.length : Int)) ∧ w'.cell? ⟨gb101, 0, none⟩ = some (.slice (some ad121) l0_0.length c0_0) ∧ w'.cell? ⟨gb101, 1, none⟩ = some (.slice (some ad117) l0_1.length c0_1) ∧ w'.cell? ⟨gb101, 2, none⟩ = some (.slice A0_2 l0_2.length c0_2) ∧ w'.cell? (ad121.add ((((rd_T111 l0_1 x86_3).f1)).toNat * 6)) = some (.int .i64 ((rd_T108 l0_0 ((rd_T111 l0_1 x86_3).f1)).f0)) ∧ w'.cell? ⟨(ad121.add ((((rd_T111 l0_1 x86_3).f1)).toNat * 6)).block, (ad121.add ((((rd_T111 l0_1 x86_3).f1)).toNat * 6)).off + 1, none⟩ = some (.int .i64 ((rd_T108 l0_0 ((rd_T111 l0_1 x86_3).f1)).f1)) ∧ w'.cell? ⟨(ad121.add ((((rd_T111 l0_1 x86_3).f1)).toNat * 6)).block, (ad121.add ((((rd_T111 l0_1 x86_3).f1)).toNat * 6)).off + 2, none⟩ = some (.bool ((rd_T108 l0_0 ((rd_T111 l0_1 x86_3).f1)).f2)) ∧ w'.cell? ⟨(ad121.add ((((rd_T111 l0_1 x86_3).f1)).toNat * 6)).block, (ad121.add ((((rd_T111 l0_1 x86_3).f1)).toNat * 6)).off + 3, none⟩ = some (.bool ((rd_T108 l0_0 ((rd_T111 l0_1 x86_3).f1)).f3)) ∧ w'.cell? ⟨(ad121.add ((((rd_T111 l0_1 x86_3).f1)).toNat * 6)).block, (ad121.add ((((rd_T111 l0_1 x86_3).f1)).toNat * 6)).off + 4, none⟩ = some (.slice A121_4 ((rd_T108 l0_0 ((rd_T111 l0_1 x86_3).f1)).f4).length c121_4) ∧ w'.cell? ⟨(ad121.add ((((rd_T111 l0_1 x86_3).f1)).toNat * 6)).block, (ad121.add ((((rd_T111 l0_1 x86_3).f1)).toNat * 6)).off + 5, none⟩ = some (.slice A121_5 ((rd_T108 l0_0 ((rd_T111 l0_1 x86_3).f1)).f5).length c121_5)) (ds := []) #[false, false, false, false, false, false, false, false, false, false, false, false, false, false, false, false, false, false, false, false, false, false, false, false, false, false, false, false, false, false, false, false, false, false] (by kernel_rfl) rfl rfl ⟨(Zb BK118.out 0).trans rfl, (Zb BK118.out 1).trans rfl, (Zb BK118.out 2).trans rfl, (Zb BK118.out 3).trans rfl, (Zb BK118.out 4).trans rfl, (Zb BK118.out 5).trans rfl, (Zb BK118.out 6).trans rfl, (Zb BK102.out 0).trans rfl, (Zb BK101.out 0).trans rfl, (Zb BK101.out 1).trans rfl, (Zb BK101.out 2).trans rfl, ((HB.out.cell (World.block_lt_of_cell? w _ hw121_0)).trans hw121_0), ((HB.out.cell (World.block_lt_of_cell? w _ hw121_1)).trans hw121_1), ((HB.out.cell (World.block_lt_of_cell? w _ hw121_2)).trans hw121_2), ((HB.out.cell (World.block_lt_of_cell? w _ hw121_3)).trans hw121_3), ((HB.out.cell (World.block_lt_of_cell? w _ hw121_4)).trans hw121_4), ((HB.out.cell (World.block_lt_of_cell? w _ hw121_5)).trans hw121_5)⟩ (fun hHeld => ?_); refine with_tabW impl_isElection.tab13 impl_isElection.bits13 (fun HT_ HW_ => ?_)
                  generalize w188.drew = w189 at BK101 BK102 BK118 HB HR121_4 HR121_5 hx121_0 hx121_1 hx121_2 hx121_3 hx121_4 hx121_5 hHeld ⊢
                  refine Zr (i := 0) (N := some 90) (v := ?_) (a' := ?_) #[true, false, false, false, false, false, false, false, false, false, false, false, false, false, false, false, false, false, false, false, false, false, false, false, false, false, false, false, false, false, false, false, false, false] rfl rfl (Zo HT_.out (by kernel_rfl)) (fun _ _ _ h => h) (Or.inl ⟨by rfl, ?_⟩) ?_ ?_
                  rotate_left
                  ·intro w'
                   go_simp
                   with_reducible rfl
                  rotate_left
                  ·simp only [Act.put, List.setIfInBounds_toArray, List.set_cons_zero, List.set_cons_succ, Zm, Zn]
                   rfl
                  refine take_ (i := 1) (N := some 91) (v := ?_) (a' := ?_) #[true, true, false, false, false, false, false, false, false, false, false, false, false, false, false, false, false, false, false, false, false, false, false, false, false, false, false, false, false, false, false, false, false, false] rfl rfl (Zx HT_.out HW_.out (by kernel_rfl)) (fun _ _ _ h => h) (Or.inl ⟨by rfl, ?_⟩) hHeld ?_ ?_
                  rotate_left
                  ·rintro w' ⟨s0, s1, s2, s3, s4, s5, s6, s7, s8, s9, s10, s11, s12, s13, s14, s15, s16⟩
                   go_simp
                   with_reducible rfl
                  rotate_left
                  ·simp only [Act.put, List.setIfInBounds_toArray, List.set_cons_zero, List.set_cons_succ, Zm, Zn]
                   rfl
                  refine take_ (i := 2) (N := some 92) (v := ?_) (a' := ?_) #[true, true, true, false, false, false, false, false, false, false, false, false, false, false, false, false, false, false, false, false, false, false, false, false, false, false, false, false, false, false, false, false, false, false] rfl rfl (Zx HT_.out HW_.out (by kernel_rfl)) (fun _ _ _ h => h) (Or.inl ⟨by rfl, ?_⟩) hHeld ?_ ?_
                  rotate_left
                  ·rintro w' ⟨s0, s1, s2, s3, s4, s5, s6, s7, s8, s9, s10, s11, s12, s13, s14, s15, s16⟩
                   go_simp
                   with_reducible rfl
                  rotate_left
                  ·simp only [Act.put, List.setIfInBounds_toArray, List.set_cons_zero, List.set_cons_succ, Zm, Zn]
                   rfl
                  refine Zr (i := 3) (N := some 93) (v := ?_) (a' := ?_) #[true, true, true, true, false, false, false, false, false, false, false, false, false, false, false, false, false, false, false, false, false, false, false, false, false, false, false, false, false, false, false, false, false, false] rfl rfl (Zo HT_.out (by kernel_rfl)) (fun _ _ _ h => h) (Or.inl ⟨by rfl, ?_⟩) ?_ ?_
                  rotate_left
                  ·intro w'
                   go_simp
                   with_reducible rfl
                  rotate_left
                  ·simp only [Act.put, List.setIfInBounds_toArray, List.set_cons_zero, List.set_cons_succ, Zm, Zn]
                   rfl
                  refine one_ (i := 4) (N := some 94) #[true, true, true, true, true, false, false, false, false, false, false, false, false, false, false, false, false, false, false, false, false, false, false, false, false, false, false, false, false, false, false, false, false, false] rfl rfl (one_of HT_.out (by kernel_rfl)) (by decide) (fun K hK => ?_)
                  refine goes_ Try.func71 (by kernel_rfl) rfl #[.int .i64 ((rd_T111 l0_1 x86_3).f0), .int .i64 0, .int .i64 (wrap64 ((l0_0.length : Int) - 1))] (by rfl) rfl rfl (by (try simp only [List.map_toArray, List.map_cons, List.map_nil]); first | done | rfl | (simp only [List.length_drop, List.length_take]; rfl)) ?_
                  with_reducible refine (impl_in.calls ((rd_T111 l0_1 x86_3).f0) 0 (wrap64 ((l0_0.length : Int) - 1)) true _ A178.out).mono ?_
                  rintro e w' ⟨rfl, ⟨nd, rfl⟩⟩
                  refine ⟨_, rfl, ?_⟩
                  refine hK.out _ _ ⟨(Zb BK118.out 0).trans rfl, (Zb BK118.out 1).trans rfl, (Zb BK118.out 2).trans rfl, (Zb BK118.out 3).trans rfl, (Zb BK118.out 4).trans rfl, (Zb BK118.out 5).trans rfl, (Zb BK118.out 6).trans rfl, (Zb BK102.out 0).trans rfl, (Zb BK101.out 0).trans rfl, (Zb BK101.out 1).trans rfl, (Zb BK101.out 2).trans rfl, ((HB.out.cell (World.block_lt_of_cell? w _ hw121_0)).trans hw121_0), ((HB.out.cell (World.block_lt_of_cell? w _ hw121_1)).trans hw121_1), ((HB.out.cell (World.block_lt_of_cell? w _ hw121_2)).trans hw121_2), ((HB.out.cell (World.block_lt_of_cell? w _ hw121_3)).trans hw121_3), ((HB.out.cell (World.block_lt_of_cell? w _ hw121_4)).trans hw121_4), ((HB.out.cell (World.block_lt_of_cell? w _ hw121_5)).trans hw121_5)⟩ (fun hHeld => ?_)
                  clear hK K
                  refine norm_ (a' := ?_) ?_ ?_
                  rotate_left
                  ·show Act.put _ (some 94) _ = _
                   simp only [Act.put, List.setIfInBounds_toArray, List.set_cons_zero, List.set_cons_succ, Zm, Zn]
                   rfl
                  refine Zr (i := 5) (N := some 95) (v := ?_) (a' := ?_) #[true, true, true, true, true, true, false, false, false, false, false, false, false, false, false, false, false, false, false, false, false, false, false, false, false, false, false, false, false, false, false, false, false, false] rfl rfl (Zo HT_.out (by kernel_rfl)) (fun _ _ _ h => h) (Or.inl ⟨by rfl, ?_⟩) ?_ ?_
                  rotate_left
                  ·intro w'
                   go_simp
                   with_reducible rfl
                  rotate_left
                  ·simp only [Act.put, List.setIfInBounds_toArray, List.set_cons_zero, List.set_cons_succ, Zm, Zn]
                   rfl
                  refine Zr (i := 6) (N := some 96) (v := ?_) (a' := ?_) #[true, true, true, true, true, true, true, false, false, false, false, false, false, false, false, false, false, false, false, false, false, false, false, false, false, false, false, false, false, false, false, false, false, false] rfl rfl (Zo HT_.out (by kernel_rfl)) (fun _ _ _ h => h) (Or.inl ⟨by rfl, ?_⟩) ?_ ?_
                  rotate_left
                  ·intro w'
                   go_simp
                   with_reducible rfl
                  rotate_left
                  ·simp only [Act.put, List.setIfInBounds_toArray, List.set_cons_zero, List.set_cons_succ, Zm, Zn]
                   rfl
                  refine Zr (i := 7) (N := some 97) (v := ?_) (a' := ?_) #[true, true, true, true, true, true, true, true, false, false, false, false, false, false, false, false, false, false, false, false, false, false, false, false, false, false, false, false, false, false, false, false, false, false] rfl rfl (Zo HT_.out (by kernel_rfl)) (fun _ _ _ h => h) (Or.inl ⟨by rfl, ?_⟩) ?_ ?_
                  rotate_left
                  ·intro w'
                   go_simp
                   with_reducible rfl
                  rotate_left
                  ·simp only [Act.put, List.setIfInBounds_toArray, List.set_cons_zero, List.set_cons_succ, Zm, Zn]
                   rfl
                  refine take_ (i := 8) (N := some 98) (v := ?_) (a' := ?_) #[true, true, true, true, true, true, true, true, true, false, false, false, false, false, false, false, false, false, false, false, false, false, false, false, false, false, false, false, false, false, false, false, false, false] rfl rfl (Zx HT_.out HW_.out (by kernel_rfl)) (fun _ _ _ h => h) (Or.inl ⟨by rfl, ?_⟩) hHeld ?_ ?_
                  rotate_left
                  ·rintro w' ⟨s0, s1, s2, s3, s4, s5, s6, s7, s8, s9, s10, s11, s12, s13, s14, s15, s16⟩
                   go_simp
                   with_reducible rfl
                  rotate_left
                  ·simp only [Act.put, List.setIfInBounds_toArray, List.set_cons_zero, List.set_cons_succ, Zm, Zn]
                   rfl
                  refine take_ (i := 9) (N := some 99) (v := ?_) (a' := ?_) #[true, true, true, true, true, true, true, true, true, true, false, false, false, false, false, false, false, false, false, false, false, false, false, false, false, false, false, false, false, false, false, false, false, false] rfl rfl (Zx HT_.out HW_.out (by kernel_rfl)) (fun _ _ _ h => h) (Or.inl ⟨by rfl, ?_⟩) hHeld ?_ ?_
                  rotate_left
                  ·rintro w' ⟨s0, s1, s2, s3, s4, s5, s6, s7, s8, s9, s10, s11, s12, s13, s14, s15, s16⟩
                   go_simp
                   with_reducible rfl
                  rotate_left
                  ·simp only [Act.put, List.setIfInBounds_toArray, List.set_cons_zero, List.set_cons_succ, Zm, Zn]
                   rfl
                  refine Zr (i := 10) (N := some 100) (v := ?_) (a' := ?_) #[true, true, true, true, true, true, true, true, true, true, true, false, false, false, false, false, false, false, false, false, false, false, false, false, false, false, false, false, false, false, false, false, false, false] rfl rfl (Zo HT_.out (by kernel_rfl)) (fun _ _ _ h => h) (Or.inl ⟨by rfl, ?_⟩) ?_ ?_
                  rotate_left
                  ·intro w'
                   go_simp
                   with_reducible rfl
                  rotate_left
                  ·simp only [Act.put, List.setIfInBounds_toArray, List.set_cons_zero, List.set_cons_succ, Zm, Zn]
                   rfl
                  refine one_ (i := 11) (N := some 101) #[true, true, true, true, true, true, true, true, true, true, true, true, false, false, false, false, false, false, false, false, false, false, false, false, false, false, false, false, false, false, false, false, false, false] rfl rfl (one_of HT_.out (by kernel_rfl)) (by decide) (fun K hK => ?_)
                  refine goes_ Try.func71 (by kernel_rfl) rfl #[.int .i64 ((rd_T111 l0_1 x86_3).f1), .int .i64 0, .int .i64 (wrap64 ((l0_0.length : Int) - 1))] (by rfl) rfl rfl (by (try simp only [List.map_toArray, List.map_cons, List.map_nil]); first | done | rfl | (simp only [List.length_drop, List.length_take]; rfl)) ?_
                  with_reducible refine (impl_in.calls ((rd_T111 l0_1 x86_3).f1) 0 (wrap64 ((l0_0.length : Int) - 1)) true _ A180.out).mono ?_
                  rintro e w' ⟨rfl, ⟨nd, rfl⟩⟩
                  refine ⟨_, rfl, ?_⟩
                  refine hK.out _ _ ⟨(Zb BK118.out 0).trans rfl, (Zb BK118.out 1).trans rfl, (Zb BK118.out 2).trans rfl, (Zb BK118.out 3).trans rfl, (Zb BK118.out 4).trans rfl, (Zb BK118.out 5).trans rfl, (Zb BK118.out 6).trans rfl, (Zb BK102.out 0).trans rfl, (Zb BK101.out 0).trans rfl, (Zb BK101.out 1).trans rfl, (Zb BK101.out 2).trans rfl, ((HB.out.cell (World.block_lt_of_cell? w _ hw121_0)).trans hw121_0), ((HB.out.cell (World.block_lt_of_cell? w _ hw121_1)).trans hw121_1), ((HB.out.cell (World.block_lt_of_cell? w _ hw121_2)).trans hw121_2), ((HB.out.cell (World.block_lt_of_cell? w _ hw121_3)).trans hw121_3), ((HB.out.cell (World.block_lt_of_cell? w _ hw121_4)).trans hw121_4), ((HB.out.cell (World.block_lt_of_cell? w _ hw121_5)).trans hw121_5)⟩ (fun hHeld => ?_)
                  clear hK K
                  refine norm_ (a' := ?_) ?_ ?_
                  rotate_left
                  ·show Act.put _ (some 101) _ = _
                   simp only [Act.put, List.setIfInBounds_toArray, List.set_cons_zero, List.set_cons_succ, Zm, Zn]
                   rfl
                  refine Zr (i := 12) (N := some 102) (v := ?_) (a' := ?_) #[true, true, true, true, true, true, true, true, true, true, true, true, true, false, false, false, false, false, false, false, false, false, false, false, false, false, false, false, false, false, false, false, false, false] rfl rfl (Zo HT_.out (by kernel_rfl)) (fun _ _ _ h => h) (Or.inl ⟨by rfl, ?_⟩) ?_ ?_
                  rotate_left
                  ·intro w'
                   go_simp
                   with_reducible rfl
                  rotate_left
                  ·simp only [Act.put, List.setIfInBounds_toArray, List.set_cons_zero, List.set_cons_succ, Zm, Zn]
                   rfl
                  refine Zr (i := 13) (N := some 103) (v := ?_) (a' := ?_) #[true, true, true, true, true, true, true, true, true, true, true, true, true, true, false, false, false, false, false, false, false, false, false, false, false, false, false, false, false, false, false, false, false, false] rfl rfl (Zo HT_.out (by kernel_rfl)) (fun _ _ _ h => h) (Or.inl ⟨by rfl, ?_⟩) ?_ ?_
                  rotate_left
                  ·intro w'
                   go_simp
                   with_reducible rfl
                  rotate_left
                  ·simp only [Act.put, List.setIfInBounds_toArray, List.set_cons_zero, List.set_cons_succ, Zm, Zn]
                   rfl
                  refine Zr (i := 14) (N := some 104) (v := ?_) (a' := ?_) #[true, true, true, true, true, true, true, true, true, true, true, true, true, true, true, false, false, false, false, false, false, false, false, false, false, false, false, false, false, false, false, false, false, false] rfl rfl (Zo HT_.out (by kernel_rfl)) (fun _ _ _ h => h) (Or.inl ⟨by rfl, ?_⟩) ?_ ?_
                  rotate_left
                  ·intro w'
                   go_simp
                   with_reducible rfl
                  rotate_left
                  ·simp only [Act.put, List.setIfInBounds_toArray, List.set_cons_zero, List.set_cons_succ, Zm, Zn]
                   rfl
                  refine Zr (i := 15) (N := some 105) (v := ?_) (a' := ?_) #[true, true, true, true, true, true, true, true, true, true, true, true, true, true, true, true, false, false, false, false, false, false, false, false, false, false, false, false, false, false, false, false, false, false] rfl rfl (Zo HT_.out (by kernel_rfl)) (fun _ _ _ h => h) (Or.inl ⟨by rfl, ?_⟩) ?_ ?_
                  rotate_left
                  ·intro w'
                   go_simp
                   with_reducible rfl
                  rotate_left
                  ·simp only [Act.put, List.setIfInBounds_toArray, List.set_cons_zero, List.set_cons_succ, Zm, Zn]
                   rfl
                  refine Zr (i := 17) (N := some 107) (v := ?_) (a' := ?_) #[true, true, true, true, true, true, true, true, true, true, true, true, true, true, true, true, false, true, false, false, false, false, false, false, false, false, false, false, false, false, false, false, false, false] rfl rfl (Zo HT_.out (by kernel_rfl)) (fun _ _ _ h => h) (Or.inl ⟨by rfl, ?_⟩) ?_ ?_
                  rotate_left
                  ·intro w'
                   go_simp
                   with_reducible rfl
                  rotate_left
                  ·simp only [Act.put, List.setIfInBounds_toArray, List.set_cons_zero, List.set_cons_succ, Zm, Zn]
                   rfl
                  refine take_ (i := 16) (N := some 106) (v := ?_) (a' := ?_) #[true, true, true, true, true, true, true, true, true, true, true, true, true, true, true, true, true, true, false, false, false, false, false, false, false, false, false, false, false, false, false, false, false, false] rfl rfl (Zx HT_.out HW_.out (by kernel_rfl)) (fun _ _ _ h => h) (Or.inl ⟨by rfl, ?_⟩) hHeld ?_ ?_
                  rotate_left
                  ·rintro w' ⟨s0, s1, s2, s3, s4, s5, s6, s7, s8, s9, s10, s11, s12, s13, s14, s15, s16⟩
                   go_simp
                   with_reducible rfl
                  rotate_left
                  ·simp only [Act.put, List.setIfInBounds_toArray, List.set_cons_zero, List.set_cons_succ, Zm, Zn]
                   rfl
                  refine take_ (i := 18) (N := some 108) (v := ?_) (a' := ?_) #[true, true, true, true, true, true, true, true, true, true, true, true, true, true, true, true, true, true, true, false, false, false, false, false, false, false, false, false, false, false, false, false, false, false] rfl rfl (Zx HT_.out HW_.out (by kernel_rfl)) (fun _ _ _ h => h) (Or.inl ⟨by rfl, ?_⟩) hHeld ?_ ?_
                  rotate_left
                  ·rintro w' ⟨s0, s1, s2, s3, s4, s5, s6, s7, s8, s9, s10, s11, s12, s13, s14, s15, s16⟩
                   go_simp
                   with_reducible rfl
                  rotate_left
                  ·simp only [Act.put, List.setIfInBounds_toArray, List.set_cons_zero, List.set_cons_succ, Zm, Zn]
                   rfl
                  refine Zr (i := 19) (N := some 109) (v := ?_) (a' := ?_) #[true, true, true, true, true, true, true, true, true, true, true, true, true, true, true, true, true, true, true, true, false, false, false, false, false, false, false, false, false, false, false, false, false, false] rfl rfl (Zo HT_.out (by kernel_rfl)) (fun _ _ _ h => h) (Or.inl ⟨by rfl, ?_⟩) ?_ ?_
                  rotate_left
                  ·intro w'
                   go_simp
                   with_reducible rfl
                  rotate_left
                  ·simp only [Act.put, List.setIfInBounds_toArray, List.set_cons_zero, List.set_cons_succ, Zm, Zn]
                   rfl
                  refine Zr (i := 20) (N := some 110) (v := ?_) (a' := ?_) #[true, true, true, true, true, true, true, true, true, true, true, true, true, true, true, true, true, true, true, true, true, false, false, false, false, false, false, false, false, false, false, false, false, false] rfl rfl (Zo HT_.out (by kernel_rfl)) (fun _ _ _ h => h) (Or.inl ⟨by rfl, ?_⟩) ?_ ?_
                  rotate_left
                  ·intro w'
                   go_simp
                   with_reducible rfl
                  rotate_left
                  ·simp only [Act.put, List.setIfInBounds_toArray, List.set_cons_zero, List.set_cons_succ, Zm, Zn]
                   rfl
                  refine Zr (i := 21) (N := some 111) (v := ?_) (a' := ?_) #[true, true, true, true, true, true, true, true, true, true, true, true, true, true, true, true, true, true, true, true, true, true, false, false, false, false, false, false, false, false, false, false, false, false] rfl rfl (Zo HT_.out (by kernel_rfl)) (fun _ _ _ h => h) (Or.inl ⟨by rfl, ?_⟩) ?_ ?_
                  rotate_left
                  ·intro w'
                   go_simp
                   with_reducible rfl
                  rotate_left
                  ·simp only [Act.put, List.setIfInBounds_toArray, List.set_cons_zero, List.set_cons_succ, Zm, Zn]
                   rfl
                  refine Zr (i := 22) (N := some 112) (v := ?_) (a' := ?_) #[true, true, true, true, true, true, true, true, true, true, true, true, true, true, true, true, true, true, true, true, true, true, true, false, false, false, false, false, false, false, false, false, false, false] rfl rfl (Zo HT_.out (by kernel_rfl)) (fun _ _ _ h => h) (Or.inl ⟨by rfl, ?_⟩) ?_ ?_
                  rotate_left
                  ·intro w'
                   go_simp
                   with_reducible rfl
                  rotate_left
                  ·simp only [Act.put, List.setIfInBounds_toArray, List.set_cons_zero, List.set_cons_succ, Zm, Zn]
                   rfl
                  refine Zr (i := 24) (N := some 114) (v := ?_) (a' := ?_) #[true, true, true, true, true, true, true, true, true, true, true, true, true, true, true, true, true, true, true, true, true, true, true, false, true, false, false, false, false, false, false, false, false, false] rfl rfl (Zo HT_.out (by kernel_rfl)) (fun _ _ _ h => h) (Or.inl ⟨by rfl, ?_⟩) ?_ ?_
                  rotate_left
                  ·intro w'
                   go_simp
                   with_reducible rfl
                  rotate_left
                  ·simp only [Act.put, List.setIfInBounds_toArray, List.set_cons_zero, List.set_cons_succ, Zm, Zn]
                   rfl
                  refine Zr (i := 26) (N := some 116) (v := ?_) (a' := ?_) #[true, true, true, true, true, true, true, true, true, true, true, true, true, true, true, true, true, true, true, true, true, true, true, false, true, false, true, false, false, false, false, false, false, false] rfl rfl (Zo HT_.out (by kernel_rfl)) (fun _ _ _ h => h) (Or.inl ⟨by rfl, ?_⟩) ?_ ?_
                  rotate_left
                  ·intro w'
                   go_simp
                   with_reducible rfl
                  rotate_left
                  ·simp only [Act.put, List.setIfInBounds_toArray, List.set_cons_zero, List.set_cons_succ, Zm, Zn]
                   rfl
                  refine take_ (i := 23) (N := some 113) (v := ?_) (a' := ?_) #[true, true, true, true, true, true, true, true, true, true, true, true, true, true, true, true, true, true, true, true, true, true, true, true, true, false, true, false, false, false, false, false, false, false] rfl rfl (Zx HT_.out HW_.out (by kernel_rfl)) (fun _ _ _ h => h) (Or.inl ⟨by rfl, ?_⟩) hHeld ?_ ?_
                  rotate_left
                  ·rintro w' ⟨s0, s1, s2, s3, s4, s5, s6, s7, s8, s9, s10, s11, s12, s13, s14, s15, s16⟩
                   go_simp
                   with_reducible rfl
                  rotate_left
                  ·simp only [Act.put, List.setIfInBounds_toArray, List.set_cons_zero, List.set_cons_succ, Zm, Zn]
                   rfl
                  refine take_ (i := 25) (N := some 115) (v := ?_) (a' := ?_) #[true, true, true, true, true, true, true, true, true, true, true, true, true, true, true, true, true, true, true, true, true, true, true, true, true, true, true, false, false, false, false, false, false, false] rfl rfl (Zx HT_.out HW_.out (by kernel_rfl)) (fun _ _ _ h => h) (Or.inl ⟨by rfl, ?_⟩) hHeld ?_ ?_
                  rotate_left
                  ·rintro w' ⟨s0, s1, s2, s3, s4, s5, s6, s7, s8, s9, s10, s11, s12, s13, s14, s15, s16⟩
                   go_simp
                   with_reducible rfl
                  rotate_left
                  ·simp only [Act.put, List.setIfInBounds_toArray, List.set_cons_zero, List.set_cons_succ, Zm, Zn]
                   rfl
                  refine take_ (i := 27) (N := some 117) (v := ?_) (a' := ?_) #[true, true, true, true, true, true, true, true, true, true, true, true, true, true, true, true, true, true, true, true, true, true, true, true, true, true, true, true, false, false, false, false, false, false] rfl rfl (Zx HT_.out HW_.out (by kernel_rfl)) (fun _ _ _ h => h) (Or.inl ⟨by rfl, ?_⟩) hHeld ?_ ?_
                  rotate_left
                  ·rintro w' ⟨s0, s1, s2, s3, s4, s5, s6, s7, s8, s9, s10, s11, s12, s13, s14, s15, s16⟩
                   go_simp
                   with_reducible rfl
                  rotate_left
                  ·simp only [Act.put, List.setIfInBounds_toArray, List.set_cons_zero, List.set_cons_succ, Zm, Zn]
                   rfl
                  refine Zr (i := 28) (N := some 118) (v := ?_) (a' := ?_) #[true, true, true, true, true, true, true, true, true, true, true, true, true, true, true, true, true, true, true, true, true, true, true, true, true, true, true, true, true, false, false, false, false, false] rfl rfl (Zo HT_.out (by kernel_rfl)) (fun _ _ _ h => h) (Or.inl ⟨by rfl, ?_⟩) ?_ ?_
                  rotate_left
                  ·intro w'
                   go_simp
                   with_reducible rfl
                  rotate_left
                  ·simp only [Act.put, List.setIfInBounds_toArray, List.set_cons_zero, List.set_cons_succ, Zm, Zn]
                   rfl
                  refine Zr (i := 29) (N := some 119) (v := ?_) (a' := ?_) #[true, true, true, true, true, true, true, true, true, true, true, true, true, true, true, true, true, true, true, true, true, true, true, true, true, true, true, true, true, true, false, false, false, false] rfl rfl (Zo HT_.out (by kernel_rfl)) (fun _ _ _ h => h) (Or.inl ⟨by rfl, ?_⟩) ?_ ?_
                  rotate_left
                  ·intro w'
                   go_simp
                   with_reducible rfl
                  rotate_left
                  ·simp only [Act.put, List.setIfInBounds_toArray, List.set_cons_zero, List.set_cons_succ, Zm, Zn]
                   rfl
                  refine take_ (i := 30) (N := some 120) (v := ?_) (a' := ?_) #[true, true, true, true, true, true, true, true, true, true, true, true, true, true, true, true, true, true, true, true, true, true, true, true, true, true, true, true, true, true, true, false, false, false] rfl rfl (Zx HT_.out HW_.out (by kernel_rfl)) (fun _ _ _ h => h) (Or.inl ⟨by rfl, ?_⟩) hHeld ?_ ?_
                  rotate_left
                  ·rintro w' ⟨s0, s1, s2, s3, s4, s5, s6, s7, s8, s9, s10, s11, s12, s13, s14, s15, s16⟩
                   go_simp
                   with_reducible rfl
                  rotate_left
                  ·simp only [Act.put, List.setIfInBounds_toArray, List.set_cons_zero, List.set_cons_succ, Zm, Zn]
                   rfl
                  refine one_ (i := 31) (N := some 121) #[true, true, true, true, true, true, true, true, true, true, true, true, true, true, true, true, true, true, true, true, true, true, true, true, true, true, true, true, true, true, true, true, false, false] rfl rfl (one_of HT_.out (by kernel_rfl)) (by decide) (fun K hK => ?_)
                  refine goes_ Try.func71 (by kernel_rfl) rfl #[.int .i64 ((rd_T111 l0_1 x86_3).f2), .int .i64 0, .int .i64 ((rd_T108 l0_0 ((rd_T111 l0_1 x86_3).f1)).f0)] (by rfl) rfl rfl (by (try simp only [List.map_toArray, List.map_cons, List.map_nil]); first | done | rfl | (simp only [List.length_drop, List.length_take]; rfl)) ?_
                  with_reducible refine (impl_in.calls ((rd_T111 l0_1 x86_3).f2) 0 ((rd_T108 l0_0 ((rd_T111 l0_1 x86_3).f1)).f0) t122 _ A187.out).mono ?_
                  rintro e w' ⟨rfl, ⟨nd, rfl⟩⟩
                  refine ⟨_, rfl, ?_⟩
                  refine hK.out _ _ ⟨(Zb BK118.out 0).trans rfl, (Zb BK118.out 1).trans rfl, (Zb BK118.out 2).trans rfl, (Zb BK118.out 3).trans rfl, (Zb BK118.out 4).trans rfl, (Zb BK118.out 5).trans rfl, (Zb BK118.out 6).trans rfl, (Zb BK102.out 0).trans rfl, (Zb BK101.out 0).trans rfl, (Zb BK101.out 1).trans rfl, (Zb BK101.out 2).trans rfl, ((HB.out.cell (World.block_lt_of_cell? w _ hw121_0)).trans hw121_0), ((HB.out.cell (World.block_lt_of_cell? w _ hw121_1)).trans hw121_1), ((HB.out.cell (World.block_lt_of_cell? w _ hw121_2)).trans hw121_2), ((HB.out.cell (World.block_lt_of_cell? w _ hw121_3)).trans hw121_3), ((HB.out.cell (World.block_lt_of_cell? w _ hw121_4)).trans hw121_4), ((HB.out.cell (World.block_lt_of_cell? w _ hw121_5)).trans hw121_5)⟩ (fun hHeld => ?_)
                  clear hK K
                  refine norm_ (a' := ?_) ?_ ?_
                  rotate_left
                  ·show Act.put _ (some 121) _ = _
                   simp only [Act.put, List.setIfInBounds_toArray, List.set_cons_zero, List.set_cons_succ, Zm, Zn]
                   rfl
                  refine Zr (i := 32) (N := some 122) (v := ?_) (a' := ?_) #[true, true, true, true, true, true, true, true, true, true, true, true, true, true, true, true, true, true, true, true, true, true, true, true, true, true, true, true, true, true, true, true, true, false] rfl rfl (Zo HT_.out (by kernel_rfl)) (fun _ _ _ h => h) (Or.inl ⟨by rfl, ?_⟩) ?_ ?_
                  rotate_left
                  ·intro w'
                   go_simp
                   with_reducible rfl
                  rotate_left
                  ·simp only [Act.put, List.setIfInBounds_toArray, List.set_cons_zero, List.set_cons_succ, Zm, Zn]
                   rfl
                  refine Zr (i := 33) (N := some 123) (v := ?_) (a' := ?_) #[true, true, true, true, true, true, true, true, true, true, true, true, true, true, true, true, true, true, true, true, true, true, true, true, true, true, true, true, true, true, true, true, true, true] rfl rfl (Zo HT_.out (by kernel_rfl)) (fun _ _ _ h => h) (Or.inl ⟨by rfl, ?_⟩) ?_ ?_
                  rotate_left
                  ·intro w'
                   go_simp
                   with_reducible rfl
                  rotate_left
                  ·simp only [Act.put, List.setIfInBounds_toArray, List.set_cons_zero, List.set_cons_succ, Zm, Zn]
                   rfl
                  refine done_ (done_of HT_.out (by kernel_rfl)) ?_
                  try go_wp2
                  go_meet
                  case rel => exact ⟨_, (!t122), (by first | rfl | (simp; done) | (simp [*]; done)), H', ⟨by have := HJ1.out; have := HK2.out; have := HK3.out; first | omega | exact Nat.le_refl _⟩, ⟨by (with_reducible repeat (first | refine Zg ?_ _ | refine Zi ?_ | refine Zh ?_ _)); exact BK101.out⟩, ⟨by (with_reducible repeat (first | refine Zg ?_ _ | refine Zi ?_ | refine Zh ?_ _)); exact BK102.out⟩, ⟨by (with_reducible repeat (first | refine Zg ?_ _ | refine Zi ?_ | refine Zh ?_ _)); exact BK118.out⟩, ⟨by repeat (first | (with_reducible first | exact HB.out | apply Ze | apply Za | apply Zd | refine Zf ?_ GE101.out | refine Zf ?_ GE102.out | refine Zf ?_ GE118.out) | exact HB.out)⟩⟩
                 ·rw [if_neg c186] at H
                  exact absurd H (by simp)
                ·rw [if_neg c185] at H
                 exact absurd H (by simp)
              ·replace c181 := Bool.eq_false_iff.mpr c181
               subst c181
               rw [if_neg (show ¬ (false = true) by decide)] at H
               have H' := Aside0.mk H
               clear H
               try go_wp2
               have n0_ : Aside0 ((((((((w174.setCell ⟨gb118, 0, none⟩ (.int .i64 ((rd_T111 l0_1 x86_3).f0))).setCell ⟨gb118, 1, none⟩ (.int .i64 ((rd_T111 l0_1 x86_3).f1))).setCell ⟨gb118, 2, none⟩ (.int .i64 ((rd_T111 l0_1 x86_3).f2))).setCell ⟨gb118, 3, none⟩ (.bool ((rd_T111 l0_1 x86_3).f3))).setCell ⟨gb118, 4, none⟩ (.int .i64 ((rd_T111 l0_1 x86_3).f4))).setCell ⟨gb118, 5, none⟩ (.int .i64 ((rd_T111 l0_1 x86_3).f5))).setCell ⟨gb118, 6, none⟩ (.bool ((rd_T111 l0_1 x86_3).f6))).heap[gb101]? = some (.cells #[.slice A0_0 l0_0.length c0_0, .slice (some ad117) l0_1.length c0_1, .slice A0_2 l0_2.length c0_2] 54 (0, 0))) := ⟨by (with_reducible repeat (first | refine Zg ?_ _ | refine Zi ?_ | refine Zh ?_ _)); refine Zq ?_ NB101_118.out _; (with_reducible repeat (first | refine Zg ?_ _ | refine Zi ?_ | refine Zh ?_ _)); refine Zq ?_ NB101_118.out _; (with_reducible repeat (first | refine Zg ?_ _ | refine Zi ?_ | refine Zh ?_ _)); refine Zq ?_ NB101_118.out _; (with_reducible repeat (first | refine Zg ?_ _ | refine Zi ?_ | refine Zh ?_ _)); refine Zq ?_ NB101_118.out _; (with_reducible repeat (first | refine Zg ?_ _ | refine Zi ?_ | refine Zh ?_ _)); refine Zq ?_ NB101_118.out _; (with_reducible repeat (first | refine Zg ?_ _ | refine Zi ?_ | refine Zh ?_ _)); refine Zq ?_ NB101_118.out _; (with_reducible repeat (first | refine Zg ?_ _ | refine Zi ?_ | refine Zh ?_ _)); refine Zq ?_ NB101_118.out _; (with_reducible repeat (first | refine Zg ?_ _ | refine Zi ?_ | refine Zh ?_ _)); exact BK101.out⟩
               have n1_ : Aside0 ((((((((w174.setCell ⟨gb118, 0, none⟩ (.int .i64 ((rd_T111 l0_1 x86_3).f0))).setCell ⟨gb118, 1, none⟩ (.int .i64 ((rd_T111 l0_1 x86_3).f1))).setCell ⟨gb118, 2, none⟩ (.int .i64 ((rd_T111 l0_1 x86_3).f2))).setCell ⟨gb118, 3, none⟩ (.bool ((rd_T111 l0_1 x86_3).f3))).setCell ⟨gb118, 4, none⟩ (.int .i64 ((rd_T111 l0_1 x86_3).f4))).setCell ⟨gb118, 5, none⟩ (.int .i64 ((rd_T111 l0_1 x86_3).f5))).setCell ⟨gb118, 6, none⟩ (.bool ((rd_T111 l0_1 x86_3).f6))).heap[gb102]? = some (.cells #[.int .i64 (l0_0.length : Int)] 3 (0, 0))) := ⟨by (with_reducible repeat (first | refine Zg ?_ _ | refine Zi ?_ | refine Zh ?_ _)); refine Zq ?_ NB102_118.out _; (with_reducible repeat (first | refine Zg ?_ _ | refine Zi ?_ | refine Zh ?_ _)); refine Zq ?_ NB102_118.out _; (with_reducible repeat (first | refine Zg ?_ _ | refine Zi ?_ | refine Zh ?_ _)); refine Zq ?_ NB102_118.out _; (with_reducible repeat (first | refine Zg ?_ _ | refine Zi ?_ | refine Zh ?_ _)); refine Zq ?_ NB102_118.out _; (with_reducible repeat (first | refine Zg ?_ _ | refine Zi ?_ | refine Zh ?_ _)); refine Zq ?_ NB102_118.out _; (with_reducible repeat (first | refine Zg ?_ _ | refine Zi ?_ | refine Zh ?_ _)); refine Zq ?_ NB102_118.out _; (with_reducible repeat (first | refine Zg ?_ _ | refine Zi ?_ | refine Zh ?_ _)); refine Zq ?_ NB102_118.out _; (with_reducible repeat (first | refine Zg ?_ _ | refine Zi ?_ | refine Zh ?_ _)); exact BK102.out⟩
               have n2_ : Aside0 ((((((((w174.setCell ⟨gb118, 0, none⟩ (.int .i64 ((rd_T111 l0_1 x86_3).f0))).setCell ⟨gb118, 1, none⟩ (.int .i64 ((rd_T111 l0_1 x86_3).f1))).setCell ⟨gb118, 2, none⟩ (.int .i64 ((rd_T111 l0_1 x86_3).f2))).setCell ⟨gb118, 3, none⟩ (.bool ((rd_T111 l0_1 x86_3).f3))).setCell ⟨gb118, 4, none⟩ (.int .i64 ((rd_T111 l0_1 x86_3).f4))).setCell ⟨gb118, 5, none⟩ (.int .i64 ((rd_T111 l0_1 x86_3).f5))).setCell ⟨gb118, 6, none⟩ (.bool ((rd_T111 l0_1 x86_3).f6))).heap[gb118]? = some (.cells #[.int .i64 ((rd_T111 l0_1 x86_3).f0), .int .i64 ((rd_T111 l0_1 x86_3).f1), .int .i64 ((rd_T111 l0_1 x86_3).f2), .bool ((rd_T111 l0_1 x86_3).f3), .int .i64 ((rd_T111 l0_1 x86_3).f4), .int .i64 ((rd_T111 l0_1 x86_3).f5), .bool ((rd_T111 l0_1 x86_3).f6)] 111 (0, 0))) := ⟨by (with_reducible repeat (first | refine Zg ?_ _ | refine Zi ?_ | refine Zh ?_ _)); refine Zv (cs := #[.int .i64 ((rd_T111 l0_1 x86_3).f0), .int .i64 ((rd_T111 l0_1 x86_3).f1), .int .i64 ((rd_T111 l0_1 x86_3).f2), .bool ((rd_T111 l0_1 x86_3).f3), .int .i64 ((rd_T111 l0_1 x86_3).f4), .int .i64 ((rd_T111 l0_1 x86_3).f5), .bool false]) ?_ 6 _ rfl; (with_reducible repeat (first | refine Zg ?_ _ | refine Zi ?_ | refine Zh ?_ _)); refine Zv (cs := #[.int .i64 ((rd_T111 l0_1 x86_3).f0), .int .i64 ((rd_T111 l0_1 x86_3).f1), .int .i64 ((rd_T111 l0_1 x86_3).f2), .bool ((rd_T111 l0_1 x86_3).f3), .int .i64 ((rd_T111 l0_1 x86_3).f4), .int .i64 0, .bool false]) ?_ 5 _ rfl; (with_reducible repeat (first | refine Zg ?_ _ | refine Zi ?_ | refine Zh ?_ _)); refine Zv (cs := #[.int .i64 ((rd_T111 l0_1 x86_3).f0), .int .i64 ((rd_T111 l0_1 x86_3).f1), .int .i64 ((rd_T111 l0_1 x86_3).f2), .bool ((rd_T111 l0_1 x86_3).f3), .int .i64 0, .int .i64 0, .bool false]) ?_ 4 _ rfl; (with_reducible repeat (first | refine Zg ?_ _ | refine Zi ?_ | refine Zh ?_ _)); refine Zv (cs := #[.int .i64 ((rd_T111 l0_1 x86_3).f0), .int .i64 ((rd_T111 l0_1 x86_3).f1), .int .i64 ((rd_T111 l0_1 x86_3).f2), .bool false, .int .i64 0, .int .i64 0, .bool false]) ?_ 3 _ rfl; (with_reducible repeat (first | refine Zg ?_ _ | refine Zi ?_ | refine Zh ?_ _)); refine Zv (cs := #[.int .i64 ((rd_T111 l0_1 x86_3).f0), .int .i64 ((rd_T111 l0_1 x86_3).f1), .int .i64 0, .bool false, .int .i64 0, .int .i64 0, .bool false]) ?_ 2 _ rfl; (with_reducible repeat (first | refine Zg ?_ _ | refine Zi ?_ | refine Zh ?_ _)); refine Zv (cs := #[.int .i64 ((rd_T111 l0_1 x86_3).f0), .int .i64 0, .int .i64 0, .bool false, .int .i64 0, .int .i64 0, .bool false]) ?_ 1 _ rfl; (with_reducible repeat (first | refine Zg ?_ _ | refine Zi ?_ | refine Zh ?_ _)); refine Zv (cs := #[.int .i64 0, .int .i64 0, .int .i64 0, .bool false, .int .i64 0, .int .i64 0, .bool false]) ?_ 0 _ rfl; (with_reducible repeat (first | refine Zg ?_ _ | refine Zi ?_ | refine Zh ?_ _)); exact BK118.out⟩
               have n3_ : Aside0 (Below w.heap.size w (((((((w174.setCell ⟨gb118, 0, none⟩ (.int .i64 ((rd_T111 l0_1 x86_3).f0))).setCell ⟨gb118, 1, none⟩ (.int .i64 ((rd_T111 l0_1 x86_3).f1))).setCell ⟨gb118, 2, none⟩ (.int .i64 ((rd_T111 l0_1 x86_3).f2))).setCell ⟨gb118, 3, none⟩ (.bool ((rd_T111 l0_1 x86_3).f3))).setCell ⟨gb118, 4, none⟩ (.int .i64 ((rd_T111 l0_1 x86_3).f4))).setCell ⟨gb118, 5, none⟩ (.int .i64 ((rd_T111 l0_1 x86_3).f5))).setCell ⟨gb118, 6, none⟩ (.bool ((rd_T111 l0_1 x86_3).f6)))) := ⟨by repeat (first | (with_reducible first | exact HB.out | apply Ze | apply Za | apply Zd | refine Zf ?_ GE101.out | refine Zf ?_ GE102.out | refine Zf ?_ GE118.out) | exact HB.out)⟩
               (try clear BK101)
               (try clear BK102)
               (try clear BK118)
               (try clear HB)
               generalize (((((((w174.setCell ⟨gb118, 0, none⟩ (.int .i64 ((rd_T111 l0_1 x86_3).f0))).setCell ⟨gb118, 1, none⟩ (.int .i64 ((rd_T111 l0_1 x86_3).f1))).setCell ⟨gb118, 2, none⟩ (.int .i64 ((rd_T111 l0_1 x86_3).f2))).setCell ⟨gb118, 3, none⟩ (.bool ((rd_T111 l0_1 x86_3).f3))).setCell ⟨gb118, 4, none⟩ (.int .i64 ((rd_T111 l0_1 x86_3).f4))).setCell ⟨gb118, 5, none⟩ (.int .i64 ((rd_T111 l0_1 x86_3).f5))).setCell ⟨gb118, 6, none⟩ (.bool ((rd_T111 l0_1 x86_3).f6))) = w190 at n0_ n1_ n2_ n3_ ⊢
               have BK101 := n0_
               have BK102 := n1_
               have BK118 := n2_
               have HB := n3_
               clear n0_ n1_ n2_ n3_
               have n0_ := Aside0.mk (Zi BK101.out)
               have n1_ := Aside0.mk (Zi BK102.out)
               have n2_ := Aside0.mk (Zi BK118.out)
               have n3_ := Aside0.mk (Zd HB.out)
               clear BK101
               clear BK102
               clear BK118
               clear HB
               have BK101 := n0_
               have BK102 := n1_
               have BK118 := n2_
               have HB := n3_
               clear n0_ n1_ n2_ n3_
               refine start_ (n := 34) (S := fun w' => w'.cell? ⟨gb118, 0, none⟩ = some (.int .i64 ((rd_T111 l0_1 x86_3).f0)) ∧ w'.cell? ⟨gb118, 1, none⟩ = some (.int .i64 ((rd_T111 l0_1 x86_3).f1)) ∧ w'.cell? ⟨gb118, 2, none⟩ = some (.int .i64 ((rd_T111 l0_1 x86_3).f2)) ∧ w'.cell? ⟨gb118, 3, none⟩ = some (.bool ((rd_T111 l0_1 x86_3).f3)) ∧ w'.cell? ⟨gb118, 4, none⟩ = some (.int .i64 ((rd_T111 l0_1 x86_3).f4)) ∧ w'.cell? ⟨gb118, 5, none⟩ = some (.int .i64 ((rd_T111 l0_1 x86_3).f5)) ∧ w'.cell? ⟨gb118, 6, none⟩ = some (.bool ((rd_T111 l0_1 x86_3).f6)) ∧ w'.cell? ⟨gb102, 0, none⟩ = some (.int .i64 (l0_0.length : Int))) (ds := []) #[false, false, false, false, false, false, false, false, false, false, false, false, false, false, false, false, false, false, false, false, false, false, false, false, false, false, false, false, false, false, false, false, false, false] (by kernel_rfl) rfl rfl ⟨(Zb BK118.out 0).trans rfl, (Zb BK118.out 1).trans rfl, (Zb BK118.out 2).trans rfl, (Zb BK118.out 3).trans rfl, (Zb BK118.out 4).trans rfl, (Zb BK118.out 5).trans rfl, (Zb BK118.out 6).trans rfl, (Zb BK102.out 0).trans rfl⟩ (fun hHeld => ?_); refine with_tabW impl_isElection.tab13 impl_isElection.bits13 (fun HT_ HW_ => ?_)
               generalize w190.drew = w191 at BK101 BK102 BK118 HB hHeld ⊢
               refine Zr (i := 0) (N := some 90) (v := ?_) (a' := ?_) #[true, false, false, false, false, false, false, false, false, false, false, false, false, false, false, false, false, false, false, false, false, false, false, false, false, false, false, false, false, false, false, false, false, false] rfl rfl (Zo HT_.out (by kernel_rfl)) (fun _ _ _ h => h) (Or.inl ⟨by rfl, ?_⟩) ?_ ?_
               rotate_left
               ·intro w'
                go_simp
                with_reducible rfl
               rotate_left
               ·simp only [Act.put, List.setIfInBounds_toArray, List.set_cons_zero, List.set_cons_succ, Zm, Zn]
                rfl
               refine take_ (i := 1) (N := some 91) (v := ?_) (a' := ?_) #[true, true, false, false, false, false, false, false, false, false, false, false, false, false, false, false, false, false, false, false, false, false, false, false, false, false, false, false, false, false, false, false, false, false] rfl rfl (Zx HT_.out HW_.out (by kernel_rfl)) (fun _ _ _ h => h) (Or.inl ⟨by rfl, ?_⟩) hHeld ?_ ?_
               rotate_left
               ·rintro w' ⟨s0, s1, s2, s3, s4, s5, s6, s7⟩
                go_simp
                with_reducible rfl
               rotate_left
               ·simp only [Act.put, List.setIfInBounds_toArray, List.set_cons_zero, List.set_cons_succ, Zm, Zn]
                rfl
               refine take_ (i := 2) (N := some 92) (v := ?_) (a' := ?_) #[true, true, true, false, false, false, false, false, false, false, false, false, false, false, false, false, false, false, false, false, false, false, false, false, false, false, false, false, false, false, false, false, false, false] rfl rfl (Zx HT_.out HW_.out (by kernel_rfl)) (fun _ _ _ h => h) (Or.inl ⟨by rfl, ?_⟩) hHeld ?_ ?_
               rotate_left
               ·rintro w' ⟨s0, s1, s2, s3, s4, s5, s6, s7⟩
                go_simp
                with_reducible rfl
               rotate_left
               ·simp only [Act.put, List.setIfInBounds_toArray, List.set_cons_zero, List.set_cons_succ, Zm, Zn]
                rfl
               refine Zr (i := 3) (N := some 93) (v := ?_) (a' := ?_) #[true, true, true, true, false, false, false, false, false, false, false, false, false, false, false, false, false, false, false, false, false, false, false, false, false, false, false, false, false, false, false, false, false, false] rfl rfl (Zo HT_.out (by kernel_rfl)) (fun _ _ _ h => h) (Or.inl ⟨by rfl, ?_⟩) ?_ ?_
               rotate_left
               ·intro w'
                go_simp
                with_reducible rfl
               rotate_left
               ·simp only [Act.put, List.setIfInBounds_toArray, List.set_cons_zero, List.set_cons_succ, Zm, Zn]
                rfl
               refine one_ (i := 4) (N := some 94) #[true, true, true, true, true, false, false, false, false, false, false, false, false, false, false, false, false, false, false, false, false, false, false, false, false, false, false, false, false, false, false, false, false, false] rfl rfl (one_of HT_.out (by kernel_rfl)) (by decide) (fun K hK => ?_)
               refine goes_ Try.func71 (by kernel_rfl) rfl #[.int .i64 ((rd_T111 l0_1 x86_3).f0), .int .i64 0, .int .i64 (wrap64 ((l0_0.length : Int) - 1))] (by rfl) rfl rfl (by (try simp only [List.map_toArray, List.map_cons, List.map_nil]); first | done | rfl | (simp only [List.length_drop, List.length_take]; rfl)) ?_
               with_reducible refine (impl_in.calls ((rd_T111 l0_1 x86_3).f0) 0 (wrap64 ((l0_0.length : Int) - 1)) true _ A178.out).mono ?_
               rintro e w' ⟨rfl, ⟨nd, rfl⟩⟩
               refine ⟨_, rfl, ?_⟩
               refine hK.out _ _ ⟨(Zb BK118.out 0).trans rfl, (Zb BK118.out 1).trans rfl, (Zb BK118.out 2).trans rfl, (Zb BK118.out 3).trans rfl, (Zb BK118.out 4).trans rfl, (Zb BK118.out 5).trans rfl, (Zb BK118.out 6).trans rfl, (Zb BK102.out 0).trans rfl⟩ (fun hHeld => ?_)
               clear hK K
               refine norm_ (a' := ?_) ?_ ?_
               rotate_left
               ·show Act.put _ (some 94) _ = _
                simp only [Act.put, List.setIfInBounds_toArray, List.set_cons_zero, List.set_cons_succ, Zm, Zn]
                rfl
               refine Zr (i := 5) (N := some 95) (v := ?_) (a' := ?_) #[true, true, true, true, true, true, false, false, false, false, false, false, false, false, false, false, false, false, false, false, false, false, false, false, false, false, false, false, false, false, false, false, false, false] rfl rfl (Zo HT_.out (by kernel_rfl)) (fun _ _ _ h => h) (Or.inl ⟨by rfl, ?_⟩) ?_ ?_
               rotate_left
               ·intro w'
                go_simp
                with_reducible rfl
               rotate_left
               ·simp only [Act.put, List.setIfInBounds_toArray, List.set_cons_zero, List.set_cons_succ, Zm, Zn]
                rfl
               refine Zr (i := 6) (N := some 96) (v := ?_) (a' := ?_) #[true, true, true, true, true, true, true, false, false, false, false, false, false, false, false, false, false, false, false, false, false, false, false, false, false, false, false, false, false, false, false, false, false, false] rfl rfl (Zo HT_.out (by kernel_rfl)) (fun _ _ _ h => h) (Or.inl ⟨by rfl, ?_⟩) ?_ ?_
               rotate_left
               ·intro w'
                go_simp
                with_reducible rfl
               rotate_left
               ·simp only [Act.put, List.setIfInBounds_toArray, List.set_cons_zero, List.set_cons_succ, Zm, Zn]
                rfl
               refine Zr (i := 7) (N := some 97) (v := ?_) (a' := ?_) #[true, true, true, true, true, true, true, true, false, false, false, false, false, false, false, false, false, false, false, false, false, false, false, false, false, false, false, false, false, false, false, false, false, false] rfl rfl (Zo HT_.out (by kernel_rfl)) (fun _ _ _ h => h) (Or.inl ⟨by rfl, ?_⟩) ?_ ?_
               rotate_left
               ·intro w'
                go_simp
                with_reducible rfl
               rotate_left
               ·simp only [Act.put, List.setIfInBounds_toArray, List.set_cons_zero, List.set_cons_succ, Zm, Zn]
                rfl
               refine take_ (i := 8) (N := some 98) (v := ?_) (a' := ?_) #[true, true, true, true, true, true, true, true, true, false, false, false, false, false, false, false, false, false, false, false, false, false, false, false, false, false, false, false, false, false, false, false, false, false] rfl rfl (Zx HT_.out HW_.out (by kernel_rfl)) (fun _ _ _ h => h) (Or.inl ⟨by rfl, ?_⟩) hHeld ?_ ?_
               rotate_left
               ·rintro w' ⟨s0, s1, s2, s3, s4, s5, s6, s7⟩
                go_simp
                with_reducible rfl
               rotate_left
               ·simp only [Act.put, List.setIfInBounds_toArray, List.set_cons_zero, List.set_cons_succ, Zm, Zn]
                rfl
               refine take_ (i := 9) (N := some 99) (v := ?_) (a' := ?_) #[true, true, true, true, true, true, true, true, true, true, false, false, false, false, false, false, false, false, false, false, false, false, false, false, false, false, false, false, false, false, false, false, false, false] rfl rfl (Zx HT_.out HW_.out (by kernel_rfl)) (fun _ _ _ h => h) (Or.inl ⟨by rfl, ?_⟩) hHeld ?_ ?_
               rotate_left
               ·rintro w' ⟨s0, s1, s2, s3, s4, s5, s6, s7⟩
                go_simp
                with_reducible rfl
               rotate_left
               ·simp only [Act.put, List.setIfInBounds_toArray, List.set_cons_zero, List.set_cons_succ, Zm, Zn]
                rfl
               refine Zr (i := 10) (N := some 100) (v := ?_) (a' := ?_) #[true, true, true, true, true, true, true, true, true, true, true, false, false, false, false, false, false, false, false, false, false, false, false, false, false, false, false, false, false, false, false, false, false, false] rfl rfl (Zo HT_.out (by kernel_rfl)) (fun _ _ _ h => h) (Or.inl ⟨by rfl, ?_⟩) ?_ ?_
               rotate_left
               ·intro w'
                go_simp
                with_reducible rfl
               rotate_left
               ·simp only [Act.put, List.setIfInBounds_toArray, List.set_cons_zero, List.set_cons_succ, Zm, Zn]
                rfl
               refine one_ (i := 11) (N := some 101) #[true, true, true, true, true, true, true, true, true, true, true, true, false, false, false, false, false, false, false, false, false, false, false, false, false, false, false, false, false, false, false, false, false, false] rfl rfl (one_of HT_.out (by kernel_rfl)) (by decide) (fun K hK => ?_)
               refine goes_ Try.func71 (by kernel_rfl) rfl #[.int .i64 ((rd_T111 l0_1 x86_3).f1), .int .i64 0, .int .i64 (wrap64 ((l0_0.length : Int) - 1))] (by rfl) rfl rfl (by (try simp only [List.map_toArray, List.map_cons, List.map_nil]); first | done | rfl | (simp only [List.length_drop, List.length_take]; rfl)) ?_
               with_reducible refine (impl_in.calls ((rd_T111 l0_1 x86_3).f1) 0 (wrap64 ((l0_0.length : Int) - 1)) false _ A180.out).mono ?_
               rintro e w' ⟨rfl, ⟨nd, rfl⟩⟩
               refine ⟨_, rfl, ?_⟩
               refine hK.out _ _ ⟨(Zb BK118.out 0).trans rfl, (Zb BK118.out 1).trans rfl, (Zb BK118.out 2).trans rfl, (Zb BK118.out 3).trans rfl, (Zb BK118.out 4).trans rfl, (Zb BK118.out 5).trans rfl, (Zb BK118.out 6).trans rfl, (Zb BK102.out 0).trans rfl⟩ (fun hHeld => ?_)
               clear hK K
               refine norm_ (a' := ?_) ?_ ?_
               rotate_left
               ·show Act.put _ (some 101) _ = _
                simp only [Act.put, List.setIfInBounds_toArray, List.set_cons_zero, List.set_cons_succ, Zm, Zn]
                rfl
               refine Zr (i := 12) (N := some 102) (v := ?_) (a' := ?_) #[true, true, true, true, true, true, true, true, true, true, true, true, true, false, false, false, false, false, false, false, false, false, false, false, false, false, false, false, false, false, false, false, false, false] rfl rfl (Zo HT_.out (by kernel_rfl)) (fun _ _ _ h => h) (Or.inl ⟨by rfl, ?_⟩) ?_ ?_
               rotate_left
               ·intro w'
                go_simp
                with_reducible rfl
               rotate_left
               ·simp only [Act.put, List.setIfInBounds_toArray, List.set_cons_zero, List.set_cons_succ, Zm, Zn]
                rfl
               refine Zr (i := 13) (N := some 103) (v := ?_) (a' := ?_) #[true, true, true, true, true, true, true, true, true, true, true, true, true, true, false, false, false, false, false, false, false, false, false, false, false, false, false, false, false, false, false, false, false, false] rfl rfl (Zo HT_.out (by kernel_rfl)) (fun _ _ _ h => h) (Or.inl ⟨by rfl, ?_⟩) ?_ ?_
               rotate_left
               ·intro w'
                go_simp
                with_reducible rfl
               rotate_left
               ·simp only [Act.put, List.setIfInBounds_toArray, List.set_cons_zero, List.set_cons_succ, Zm, Zn]
                rfl
               refine Zr (i := 14) (N := some 104) (v := ?_) (a' := ?_) #[true, true, true, true, true, true, true, true, true, true, true, true, true, true, true, false, false, false, false, false, false, false, false, false, false, false, false, false, false, false, false, false, false, false] rfl rfl (Zo HT_.out (by kernel_rfl)) (fun _ _ _ h => h) (Or.inl ⟨by rfl, ?_⟩) ?_ ?_
               rotate_left
               ·intro w'
                go_simp
                with_reducible rfl
               rotate_left
               ·simp only [Act.put, List.setIfInBounds_toArray, List.set_cons_zero, List.set_cons_succ, Zm, Zn]
                rfl
               refine Zr (i := 15) (N := some 105) (v := undef) (a' := ?_) #[true, true, true, true, true, true, true, true, true, true, true, true, true, true, true, true, false, false, false, false, false, false, false, false, false, false, false, false, false, false, false, false, false, false] rfl rfl (Zo HT_.out (by kernel_rfl)) (fun _ _ _ h => h) (Or.inr ⟨by rfl, rfl⟩) ?_ ?_
               rotate_left
               ·simp only [Act.put, List.setIfInBounds_toArray, List.set_cons_zero, List.set_cons_succ, Zm, Zn]
                rfl
               refine Zr (i := 16) (N := some 106) (v := undef) (a' := ?_) #[true, true, true, true, true, true, true, true, true, true, true, true, true, true, true, true, true, false, false, false, false, false, false, false, false, false, false, false, false, false, false, false, false, false] rfl rfl (Zo HT_.out (by kernel_rfl)) (fun _ _ _ h => h) (Or.inr ⟨by rfl, rfl⟩) ?_ ?_
               rotate_left
               ·simp only [Act.put, List.setIfInBounds_toArray, List.set_cons_zero, List.set_cons_succ, Zm, Zn]
                rfl
               refine Zr (i := 17) (N := some 107) (v := undef) (a' := ?_) #[true, true, true, true, true, true, true, true, true, true, true, true, true, true, true, true, true, true, false, false, false, false, false, false, false, false, false, false, false, false, false, false, false, false] rfl rfl (Zo HT_.out (by kernel_rfl)) (fun _ _ _ h => h) (Or.inr ⟨by rfl, rfl⟩) ?_ ?_
               rotate_left
               ·simp only [Act.put, List.setIfInBounds_toArray, List.set_cons_zero, List.set_cons_succ, Zm, Zn]
                rfl
               refine Zr (i := 18) (N := some 108) (v := undef) (a' := ?_) #[true, true, true, true, true, true, true, true, true, true, true, true, true, true, true, true, true, true, true, false, false, false, false, false, false, false, false, false, false, false, false, false, false, false] rfl rfl (Zo HT_.out (by kernel_rfl)) (fun _ _ _ h => h) (Or.inr ⟨by rfl, rfl⟩) ?_ ?_
               rotate_left
               ·simp only [Act.put, List.setIfInBounds_toArray, List.set_cons_zero, List.set_cons_succ, Zm, Zn]
                rfl
               refine Zr (i := 19) (N := some 109) (v := undef) (a' := ?_) #[true, true, true, true, true, true, true, true, true, true, true, true, true, true, true, true, true, true, true, true, false, false, false, false, false, false, false, false, false, false, false, false, false, false] rfl rfl (Zo HT_.out (by kernel_rfl)) (fun _ _ _ h => h) (Or.inr ⟨by rfl, rfl⟩) ?_ ?_
               rotate_left
               ·simp only [Act.put, List.setIfInBounds_toArray, List.set_cons_zero, List.set_cons_succ, Zm, Zn]
                rfl
               refine Zr (i := 20) (N := some 110) (v := ?_) (a' := ?_) #[true, true, true, true, true, true, true, true, true, true, true, true, true, true, true, true, true, true, true, true, true, false, false, false, false, false, false, false, false, false, false, false, false, false] rfl rfl (Zo HT_.out (by kernel_rfl)) (fun _ _ _ h => h) (Or.inl ⟨by rfl, ?_⟩) ?_ ?_
               rotate_left
               ·intro w'
                go_simp
                with_reducible rfl
               rotate_left
               ·simp only [Act.put, List.setIfInBounds_toArray, List.set_cons_zero, List.set_cons_succ, Zm, Zn]
                rfl
               refine Zr (i := 21) (N := some 111) (v := ?_) (a' := ?_) #[true, true, true, true, true, true, true, true, true, true, true, true, true, true, true, true, true, true, true, true, true, true, false, false, false, false, false, false, false, false, false, false, false, false] rfl rfl (Zo HT_.out (by kernel_rfl)) (fun _ _ _ h => h) (Or.inl ⟨by rfl, ?_⟩) ?_ ?_
               rotate_left
               ·intro w'
                go_simp
                with_reducible rfl
               rotate_left
               ·simp only [Act.put, List.setIfInBounds_toArray, List.set_cons_zero, List.set_cons_succ, Zm, Zn]
                rfl
               refine Zr (i := 22) (N := some 112) (v := undef) (a' := ?_) #[true, true, true, true, true, true, true, true, true, true, true, true, true, true, true, true, true, true, true, true, true, true, true, false, false, false, false, false, false, false, false, false, false, false] rfl rfl (Zo HT_.out (by kernel_rfl)) (fun _ _ _ h => h) (Or.inr ⟨by rfl, rfl⟩) ?_ ?_
               rotate_left
               ·simp only [Act.put, List.setIfInBounds_toArray, List.set_cons_zero, List.set_cons_succ, Zm, Zn]
                rfl
               refine Zr (i := 23) (N := some 113) (v := undef) (a' := ?_) #[true, true, true, true, true, true, true, true, true, true, true, true, true, true, true, true, true, true, true, true, true, true, true, true, false, false, false, false, false, false, false, false, false, false] rfl rfl (Zo HT_.out (by kernel_rfl)) (fun _ _ _ h => h) (Or.inr ⟨by rfl, rfl⟩) ?_ ?_
               rotate_left
               ·simp only [Act.put, List.setIfInBounds_toArray, List.set_cons_zero, List.set_cons_succ, Zm, Zn]
                rfl
               refine Zr (i := 24) (N := some 114) (v := undef) (a' := ?_) #[true, true, true, true, true, true, true, true, true, true, true, true, true, true, true, true, true, true, true, true, true, true, true, true, true, false, false, false, false, false, false, false, false, false] rfl rfl (Zo HT_.out (by kernel_rfl)) (fun _ _ _ h => h) (Or.inr ⟨by rfl, rfl⟩) ?_ ?_
               rotate_left
               ·simp only [Act.put, List.setIfInBounds_toArray, List.set_cons_zero, List.set_cons_succ, Zm, Zn]
                rfl
               refine Zr (i := 25) (N := some 115) (v := undef) (a' := ?_) #[true, true, true, true, true, true, true, true, true, true, true, true, true, true, true, true, true, true, true, true, true, true, true, true, true, true, false, false, false, false, false, false, false, false] rfl rfl (Zo HT_.out (by kernel_rfl)) (fun _ _ _ h => h) (Or.inr ⟨by rfl, rfl⟩) ?_ ?_
               rotate_left
               ·simp only [Act.put, List.setIfInBounds_toArray, List.set_cons_zero, List.set_cons_succ, Zm, Zn]
                rfl
               refine Zr (i := 26) (N := some 116) (v := undef) (a' := ?_) #[true, true, true, true, true, true, true, true, true, true, true, true, true, true, true, true, true, true, true, true, true, true, true, true, true, true, true, false, false, false, false, false, false, false] rfl rfl (Zo HT_.out (by kernel_rfl)) (fun _ _ _ h => h) (Or.inr ⟨by rfl, rfl⟩) ?_ ?_
               rotate_left
               ·simp only [Act.put, List.setIfInBounds_toArray, List.set_cons_zero, List.set_cons_succ, Zm, Zn]
                rfl
               refine Zr (i := 27) (N := some 117) (v := undef) (a' := ?_) #[true, true, true, true, true, true, true, true, true, true, true, true, true, true, true, true, true, true, true, true, true, true, true, true, true, true, true, true, false, false, false, false, false, false] rfl rfl (Zo HT_.out (by kernel_rfl)) (fun _ _ _ h => h) (Or.inr ⟨by rfl, rfl⟩) ?_ ?_
               rotate_left
               ·simp only [Act.put, List.setIfInBounds_toArray, List.set_cons_zero, List.set_cons_succ, Zm, Zn]
                rfl
               refine Zr (i := 28) (N := some 118) (v := undef) (a' := ?_) #[true, true, true, true, true, true, true, true, true, true, true, true, true, true, true, true, true, true, true, true, true, true, true, true, true, true, true, true, true, false, false, false, false, false] rfl rfl (Zo HT_.out (by kernel_rfl)) (fun _ _ _ h => h) (Or.inr ⟨by rfl, rfl⟩) ?_ ?_
               rotate_left
               ·simp only [Act.put, List.setIfInBounds_toArray, List.set_cons_zero, List.set_cons_succ, Zm, Zn]
                rfl
               refine Zr (i := 29) (N := some 119) (v := undef) (a' := ?_) #[true, true, true, true, true, true, true, true, true, true, true, true, true, true, true, true, true, true, true, true, true, true, true, true, true, true, true, true, true, true, false, false, false, false] rfl rfl (Zo HT_.out (by kernel_rfl)) (fun _ _ _ h => h) (Or.inr ⟨by rfl, rfl⟩) ?_ ?_
               rotate_left
               ·simp only [Act.put, List.setIfInBounds_toArray, List.set_cons_zero, List.set_cons_succ, Zm, Zn]
                rfl
               refine Zr (i := 30) (N := some 120) (v := undef) (a' := ?_) #[true, true, true, true, true, true, true, true, true, true, true, true, true, true, true, true, true, true, true, true, true, true, true, true, true, true, true, true, true, true, true, false, false, false] rfl rfl (Zo HT_.out (by kernel_rfl)) (fun _ _ _ h => h) (Or.inr ⟨by rfl, rfl⟩) ?_ ?_
               rotate_left
               ·simp only [Act.put, List.setIfInBounds_toArray, List.set_cons_zero, List.set_cons_succ, Zm, Zn]
                rfl
               refine Zr (i := 31) (N := some 121) (v := undef) (a' := ?_) #[true, true, true, true, true, true, true, true, true, true, true, true, true, true, true, true, true, true, true, true, true, true, true, true, true, true, true, true, true, true, true, true, false, false] rfl rfl (Zo HT_.out (by kernel_rfl)) (fun _ _ _ h => h) (Or.inr ⟨by rfl, rfl⟩) ?_ ?_
               rotate_left
               ·simp only [Act.put, List.setIfInBounds_toArray, List.set_cons_zero, List.set_cons_succ, Zm, Zn]
                rfl
               refine Zr (i := 32) (N := some 122) (v := undef) (a' := ?_) #[true, true, true, true, true, true, true, true, true, true, true, true, true, true, true, true, true, true, true, true, true, true, true, true, true, true, true, true, true, true, true, true, true, false] rfl rfl (Zo HT_.out (by kernel_rfl)) (fun _ _ _ h => h) (Or.inr ⟨by rfl, rfl⟩) ?_ ?_
               rotate_left
               ·simp only [Act.put, List.setIfInBounds_toArray, List.set_cons_zero, List.set_cons_succ, Zm, Zn]
                rfl
               refine Zr (i := 33) (N := some 123) (v := ?_) (a' := ?_) #[true, true, true, true, true, true, true, true, true, true, true, true, true, true, true, true, true, true, true, true, true, true, true, true, true, true, true, true, true, true, true, true, true, true] rfl rfl (Zo HT_.out (by kernel_rfl)) (fun _ _ _ h => h) (Or.inl ⟨by rfl, ?_⟩) ?_ ?_
               rotate_left
               ·intro w'
                go_simp
                with_reducible rfl
               rotate_left
               ·simp only [Act.put, List.setIfInBounds_toArray, List.set_cons_zero, List.set_cons_succ, Zm, Zn]
                rfl
               refine done_ (done_of HT_.out (by kernel_rfl)) ?_
               try go_wp2
               go_meet
               case rel => exact ⟨_, (true), (by first | rfl | (simp; done) | (simp [*]; done)), H', ⟨by have := HJ1.out; have := HK2.out; have := HK3.out; first | omega | exact Nat.le_refl _⟩, ⟨by (with_reducible repeat (first | refine Zg ?_ _ | refine Zi ?_ | refine Zh ?_ _)); exact BK101.out⟩, ⟨by (with_reducible repeat (first | refine Zg ?_ _ | refine Zi ?_ | refine Zh ?_ _)); exact BK102.out⟩, ⟨by (with_reducible repeat (first | refine Zg ?_ _ | refine Zi ?_ | refine Zh ?_ _)); exact BK118.out⟩, ⟨by repeat (first | (with_reducible first | exact HB.out | apply Ze | apply Za | apply Zd | refine Zf ?_ GE101.out | refine Zf ?_ GE102.out | refine Zf ?_ GE118.out) | exact HB.out)⟩⟩
             ·replace c179 := Bool.eq_false_iff.mpr c179
              subst c179
              rw [if_neg (show ¬ (false = true) by decide)] at H
              have H' := Aside0.mk H
              clear H
              try go_wp2
              have n0_ : Aside0 ((((((((w174.setCell ⟨gb118, 0, none⟩ (.int .i64 ((rd_T111 l0_1 x86_3).f0))).setCell ⟨gb118, 1, none⟩ (.int .i64 ((rd_T111 l0_1 x86_3).f1))).setCell ⟨gb118, 2, none⟩ (.int .i64 ((rd_T111 l0_1 x86_3).f2))).setCell ⟨gb118, 3, none⟩ (.bool ((rd_T111 l0_1 x86_3).f3))).setCell ⟨gb118, 4, none⟩ (.int .i64 ((rd_T111 l0_1 x86_3).f4))).setCell ⟨gb118, 5, none⟩ (.int .i64 ((rd_T111 l0_1 x86_3).f5))).setCell ⟨gb118, 6, none⟩ (.bool ((rd_T111 l0_1 x86_3).f6))).heap[gb101]? = some (.cells #[.slice A0_0 l0_0.length c0_0, .slice (some ad117) l0_1.length c0_1, .slice A0_2 l0_2.length c0_2] 54 (0, 0))) := ⟨by (with_reducible repeat (first | refine Zg ?_ _ | refine Zi ?_ | refine Zh ?_ _)); refine Zq ?_ NB101_118.out _; (with_reducible repeat (first | refine Zg ?_ _ | refine Zi ?_ | refine Zh ?_ _)); refine Zq ?_ NB101_118.out _; (with_reducible repeat (first | refine Zg ?_ _ | refine Zi ?_ | refine Zh ?_ _)); refine Zq ?_ NB101_118.out _; (with_reducible repeat (first | refine Zg ?_ _ | refine Zi ?_ | refine Zh ?_ _)); refine Zq ?_ NB101_118.out _; (with_reducible repeat (first | refine Zg ?_ _ | refine Zi ?_ | refine Zh ?_ _)); refine Zq ?_ NB101_118.out _; (with_reducible repeat (first | refine Zg ?_ _ | refine Zi ?_ | refine Zh ?_ _)); refine Zq ?_ NB101_118.out _; (with_reducible repeat (first | refine Zg ?_ _ | refine Zi ?_ | refine Zh ?_ _)); refine Zq ?_ NB101_118.out _; (with_reducible repeat (first | refine Zg ?_ _ | refine Zi ?_ | refine Zh ?_ _)); exact BK101.out⟩
              have n1_ : Aside0 ((((((((w174.setCell ⟨gb118, 0, none⟩ (.int .i64 ((rd_T111 l0_1 x86_3).f0))).setCell ⟨gb118, 1, none⟩ (.int .i64 ((rd_T111 l0_1 x86_3).f1))).setCell ⟨gb118, 2, none⟩ (.int .i64 ((rd_T111 l0_1 x86_3).f2))).setCell ⟨gb118, 3, none⟩ (.bool ((rd_T111 l0_1 x86_3).f3))).setCell ⟨gb118, 4, none⟩ (.int .i64 ((rd_T111 l0_1 x86_3).f4))).setCell ⟨gb118, 5, none⟩ (.int .i64 ((rd_T111 l0_1 x86_3).f5))).setCell ⟨gb118, 6, none⟩ (.bool ((rd_T111 l0_1 x86_3).f6))).heap[gb102]? = some (.cells #[.int .i64 (l0_0.length : Int)] 3 (0, 0))) := ⟨by (with_reducible repeat (first | refine Zg ?_ _ | refine Zi ?_ | refine Zh ?_ _)); refine Zq ?_ NB102_118.out _; (with_reducible repeat (first | refine Zg ?_ _ | refine Zi ?_ | refine Zh ?_ _)); refine Zq ?_ NB102_118.out _; (with_reducible repeat (first | refine Zg ?_ _ | refine Zi ?_ | refine Zh ?_ _)); refine Zq ?_ NB102_118.out _; (with_reducible repeat (first | refine Zg ?_ _ | refine Zi ?_ | refine Zh ?_ _)); refine Zq ?_ NB102_118.out _; (with_reducible repeat (first | refine Zg ?_ _ | refine Zi ?_ | refine Zh ?_ _)); refine Zq ?_ NB102_118.out _; (with_reducible repeat (first | refine Zg ?_ _ | refine Zi ?_ | refine Zh ?_ _)); refine Zq ?_ NB102_118.out _; (with_reducible repeat (first | refine Zg ?_ _ | refine Zi ?_ | refine Zh ?_ _)); refine Zq ?_ NB102_118.out _; (with_reducible repeat (first | refine Zg ?_ _ | refine Zi ?_ | refine Zh ?_ _)); exact BK102.out⟩
              have n2_ : Aside0 ((((((((w174.setCell ⟨gb118, 0, none⟩ (.int .i64 ((rd_T111 l0_1 x86_3).f0))).setCell ⟨gb118, 1, none⟩ (.int .i64 ((rd_T111 l0_1 x86_3).f1))).setCell ⟨gb118, 2, none⟩ (.int .i64 ((rd_T111 l0_1 x86_3).f2))).setCell ⟨gb118, 3, none⟩ (.bool ((rd_T111 l0_1 x86_3).f3))).setCell ⟨gb118, 4, none⟩ (.int .i64 ((rd_T111 l0_1 x86_3).f4))).setCell ⟨gb118, 5, none⟩ (.int .i64 ((rd_T111 l0_1 x86_3).f5))).setCell ⟨gb118, 6, none⟩ (.bool ((rd_T111 l0_1 x86_3).f6))).heap[gb118]? = some (.cells #[.int .i64 ((rd_T111 l0_1 x86_3).f0), .int .i64 ((rd_T111 l0_1 x86_3).f1), .int .i64 ((rd_T111 l0_1 x86_3).f2), .bool ((rd_T111 l0_1 x86_3).f3), .int .i64 ((rd_T111 l0_1 x86_3).f4), .int .i64 ((rd_T111 l0_1 x86_3).f5), .bool ((rd_T111 l0_1 x86_3).f6)] 111 (0, 0))) := ⟨by (with_reducible repeat (first | refine Zg ?_ _ | refine Zi ?_ | refine Zh ?_ _)); refine Zv (cs := #[.int .i64 ((rd_T111 l0_1 x86_3).f0), .int .i64 ((rd_T111 l0_1 x86_3).f1), .int .i64 ((rd_T111 l0_1 x86_3).f2), .bool ((rd_T111 l0_1 x86_3).f3), .int .i64 ((rd_T111 l0_1 x86_3).f4), .int .i64 ((rd_T111 l0_1 x86_3).f5), .bool false]) ?_ 6 _ rfl; (with_reducible repeat (first | refine Zg ?_ _ | refine Zi ?_ | refine Zh ?_ _)); refine Zv (cs := #[.int .i64 ((rd_T111 l0_1 x86_3).f0), .int .i64 ((rd_T111 l0_1 x86_3).f1), .int .i64 ((rd_T111 l0_1 x86_3).f2), .bool ((rd_T111 l0_1 x86_3).f3), .int .i64 ((rd_T111 l0_1 x86_3).f4), .int .i64 0, .bool false]) ?_ 5 _ rfl; (with_reducible repeat (first | refine Zg ?_ _ | refine Zi ?_ | refine Zh ?_ _)); refine Zv (cs := #[.int .i64 ((rd_T111 l0_1 x86_3).f0), .int .i64 ((rd_T111 l0_1 x86_3).f1), .int .i64 ((rd_T111 l0_1 x86_3).f2), .bool ((rd_T111 l0_1 x86_3).f3), .int .i64 0, .int .i64 0, .bool false]) ?_ 4 _ rfl; (with_reducible repeat (first | refine Zg ?_ _ | refine Zi ?_ | refine Zh ?_ _)); refine Zv (cs := #[.int .i64 ((rd_T111 l0_1 x86_3).f0), .int .i64 ((rd_T111 l0_1 x86_3).f1), .int .i64 ((rd_T111 l0_1 x86_3).f2), .bool false, .int .i64 0, .int .i64 0, .bool false]) ?_ 3 _ rfl; (with_reducible repeat (first | refine Zg ?_ _ | refine Zi ?_ | refine Zh ?_ _)); refine Zv (cs := #[.int .i64 ((rd_T111 l0_1 x86_3).f0), .int .i64 ((rd_T111 l0_1 x86_3).f1), .int .i64 0, .bool false, .int .i64 0, .int .i64 0, .bool false]) ?_ 2 _ rfl; (with_reducible repeat (first | refine Zg ?_ _ | refine Zi ?_ | refine Zh ?_ _)); refine Zv (cs := #[.int .i64 ((rd_T111 l0_1 x86_3).f0), .int .i64 0, .int .i64 0, .bool false, .int .i64 0, .int .i64 0, .bool false]) ?_ 1 _ rfl; (with_reducible repeat (first | refine Zg ?_ _ | refine Zi ?_ | refine Zh ?_ _)); refine Zv (cs := #[.int .i64 0, .int .i64 0, .int .i64 0, .bool false, .int .i64 0, .int .i64 0, .bool false]) ?_ 0 _ rfl; (with_reducible repeat (first | refine Zg ?_ _ | refine Zi ?_ | refine Zh ?_ _)); exact BK118.out⟩
              have n3_ : Aside0 (Below w.heap.size w (((((((w174.setCell ⟨gb118, 0, none⟩ (.int .i64 ((rd_T111 l0_1 x86_3).f0))).setCell ⟨gb118, 1, none⟩ (.int .i64 ((rd_T111 l0_1 x86_3).f1))).setCell ⟨gb118, 2, none⟩ (.int .i64 ((rd_T111 l0_1 x86_3).f2))).setCell ⟨gb118, 3, none⟩ (.bool ((rd_T111 l0_1 x86_3).f3))).setCell ⟨gb118, 4, none⟩ (.int .i64 ((rd_T111 l0_1 x86_3).f4))).setCell ⟨gb118, 5, none⟩ (.int .i64 ((rd_T111 l0_1 x86_3).f5))).setCell ⟨gb118, 6, none⟩ (.bool ((rd_T111 l0_1 x86_3).f6)))) := ⟨by repeat (first | (with_reducible first | exact HB.out | apply Ze | apply Za | apply Zd | refine Zf ?_ GE101.out | refine Zf ?_ GE102.out | refine Zf ?_ GE118.out) | exact HB.out)⟩
              (try clear BK101)
              (try clear BK102)
              (try clear BK118)
              (try clear HB)
              generalize (((((((w174.setCell ⟨gb118, 0, none⟩ (.int .i64 ((rd_T111 l0_1 x86_3).f0))).setCell ⟨gb118, 1, none⟩ (.int .i64 ((rd_T111 l0_1 x86_3).f1))).setCell ⟨gb118, 2, none⟩ (.int .i64 ((rd_T111 l0_1 x86_3).f2))).setCell ⟨gb118, 3, none⟩ (.bool ((rd_T111 l0_1 x86_3).f3))).setCell ⟨gb118, 4, none⟩ (.int .i64 ((rd_T111 l0_1 x86_3).f4))).setCell ⟨gb118, 5, none⟩ (.int .i64 ((rd_T111 l0_1 x86_3).f5))).setCell ⟨gb118, 6, none⟩ (.bool ((rd_T111 l0_1 x86_3).f6))) = w192 at n0_ n1_ n2_ n3_ ⊢
              have BK101 := n0_
              have BK102 := n1_
              have BK118 := n2_
              have HB := n3_
              clear n0_ n1_ n2_ n3_
              have n0_ := Aside0.mk (Zi BK101.out)
              have n1_ := Aside0.mk (Zi BK102.out)
              have n2_ := Aside0.mk (Zi BK118.out)
              have n3_ := Aside0.mk (Zd HB.out)
              clear BK101
              clear BK102
              clear BK118
              clear HB
              have BK101 := n0_
              have BK102 := n1_
              have BK118 := n2_
              have HB := n3_
              clear n0_ n1_ n2_ n3_
              refine start_ (n := 34) (S := fun w' => w'.cell? ⟨gb118, 0, none⟩ = some (.int .i64 ((rd_T111 l0_1 x86_3).f0)) ∧ w'.cell? ⟨gb118, 1, none⟩ = some (.int .i64 ((rd_T111 l0_1 x86_3).f1)) ∧ w'.cell? ⟨gb118, 2, none⟩ = some (.int .i64 ((rd_T111 l0_1 x86_3).f2)) ∧ w'.cell? ⟨gb118, 3, none⟩ = some (.bool ((rd_T111 l0_1 x86_3).f3)) ∧ w'.cell? ⟨gb118, 4, none⟩ = some (.int .i64 ((rd_T111 l0_1 x86_3).f4)) ∧ w'.cell? ⟨gb118, 5, none⟩ = some (.int .i64 ((rd_T111 l0_1 x86_3).f5)) ∧ w'.cell? ⟨gb118, 6, none⟩ = some (.bool ((rd_T111 l0_1 x86_3).f6)) ∧ w'.cell? ⟨gb102, 0, none⟩ = some (.int .i64 (l0_0.length : Int))) (ds := []) #[false, false, false, false, false, false, false, false, false, false, false, false, false, false, false, false, false, false, false, false, false, false, false, false, false, false, false, false, false, false, false, false, false, false] (by kernel_rfl) rfl rfl ⟨(Zb BK118.out 0).trans rfl, (Zb BK118.out 1).trans rfl, (Zb BK118.out 2).trans rfl, (Zb BK118.out 3).trans rfl, (Zb BK118.out 4).trans rfl, (Zb BK118.out 5).trans rfl, (Zb BK118.out 6).trans rfl, (Zb BK102.out 0).trans rfl⟩ (fun hHeld => ?_); refine with_tabW impl_isElection.tab13 impl_isElection.bits13 (fun HT_ HW_ => ?_)
              generalize w192.drew = w193 at BK101 BK102 BK118 HB hHeld ⊢
              refine Zr (i := 0) (N := some 90) (v := ?_) (a' := ?_) #[true, false, false, false, false, false, false, false, false, false, false, false, false, false, false, false, false, false, false, false, false, false, false, false, false, false, false, false, false, false, false, false, false, false] rfl rfl (Zo HT_.out (by kernel_rfl)) (fun _ _ _ h => h) (Or.inl ⟨by rfl, ?_⟩) ?_ ?_
              rotate_left
              ·intro w'
               go_simp
               with_reducible rfl
              rotate_left
              ·simp only [Act.put, List.setIfInBounds_toArray, List.set_cons_zero, List.set_cons_succ, Zm, Zn]
               rfl
              refine take_ (i := 1) (N := some 91) (v := ?_) (a' := ?_) #[true, true, false, false, false, false, false, false, false, false, false, false, false, false, false, false, false, false, false, false, false, false, false, false, false, false, false, false, false, false, false, false, false, false] rfl rfl (Zx HT_.out HW_.out (by kernel_rfl)) (fun _ _ _ h => h) (Or.inl ⟨by rfl, ?_⟩) hHeld ?_ ?_
              rotate_left
              ·rintro w' ⟨s0, s1, s2, s3, s4, s5, s6, s7⟩
               go_simp
               with_reducible rfl
              rotate_left
              ·simp only [Act.put, List.setIfInBounds_toArray, List.set_cons_zero, List.set_cons_succ, Zm, Zn]
               rfl
              refine take_ (i := 2) (N := some 92) (v := ?_) (a' := ?_) #[true, true, true, false, false, false, false, false, false, false, false, false, false, false, false, false, false, false, false, false, false, false, false, false, false, false, false, false, false, false, false, false, false, false] rfl rfl (Zx HT_.out HW_.out (by kernel_rfl)) (fun _ _ _ h => h) (Or.inl ⟨by rfl, ?_⟩) hHeld ?_ ?_
              rotate_left
              ·rintro w' ⟨s0, s1, s2, s3, s4, s5, s6, s7⟩
               go_simp
               with_reducible rfl
              rotate_left
              ·simp only [Act.put, List.setIfInBounds_toArray, List.set_cons_zero, List.set_cons_succ, Zm, Zn]
               rfl
              refine Zr (i := 3) (N := some 93) (v := ?_) (a' := ?_) #[true, true, true, true, false, false, false, false, false, false, false, false, false, false, false, false, false, false, false, false, false, false, false, false, false, false, false, false, false, false, false, false, false, false] rfl rfl (Zo HT_.out (by kernel_rfl)) (fun _ _ _ h => h) (Or.inl ⟨by rfl, ?_⟩) ?_ ?_
              rotate_left
              ·intro w'
               go_simp
               with_reducible rfl
              rotate_left
              ·simp only [Act.put, List.setIfInBounds_toArray, List.set_cons_zero, List.set_cons_succ, Zm, Zn]
               rfl
              refine one_ (i := 4) (N := some 94) #[true, true, true, true, true, false, false, false, false, false, false, false, false, false, false, false, false, false, false, false, false, false, false, false, false, false, false, false, false, false, false, false, false, false] rfl rfl (one_of HT_.out (by kernel_rfl)) (by decide) (fun K hK => ?_)
              refine goes_ Try.func71 (by kernel_rfl) rfl #[.int .i64 ((rd_T111 l0_1 x86_3).f0), .int .i64 0, .int .i64 (wrap64 ((l0_0.length : Int) - 1))] (by rfl) rfl rfl (by (try simp only [List.map_toArray, List.map_cons, List.map_nil]); first | done | rfl | (simp only [List.length_drop, List.length_take]; rfl)) ?_
              with_reducible refine (impl_in.calls ((rd_T111 l0_1 x86_3).f0) 0 (wrap64 ((l0_0.length : Int) - 1)) false _ A178.out).mono ?_
              rintro e w' ⟨rfl, ⟨nd, rfl⟩⟩
              refine ⟨_, rfl, ?_⟩
              refine hK.out _ _ ⟨(Zb BK118.out 0).trans rfl, (Zb BK118.out 1).trans rfl, (Zb BK118.out 2).trans rfl, (Zb BK118.out 3).trans rfl, (Zb BK118.out 4).trans rfl, (Zb BK118.out 5).trans rfl, (Zb BK118.out 6).trans rfl, (Zb BK102.out 0).trans rfl⟩ (fun hHeld => ?_)
              clear hK K
              refine norm_ (a' := ?_) ?_ ?_
              rotate_left
              ·show Act.put _ (some 94) _ = _
               simp only [Act.put, List.setIfInBounds_toArray, List.set_cons_zero, List.set_cons_succ, Zm, Zn]
               rfl
              refine Zr (i := 5) (N := some 95) (v := ?_) (a' := ?_) #[true, true, true, true, true, true, false, false, false, false, false, false, false, false, false, false, false, false, false, false, false, false, false, false, false, false, false, false, false, false, false, false, false, false] rfl rfl (Zo HT_.out (by kernel_rfl)) (fun _ _ _ h => h) (Or.inl ⟨by rfl, ?_⟩) ?_ ?_
              rotate_left
              ·intro w'
               go_simp
               with_reducible rfl
              rotate_left
              ·simp only [Act.put, List.setIfInBounds_toArray, List.set_cons_zero, List.set_cons_succ, Zm, Zn]
               rfl
              refine Zr (i := 6) (N := some 96) (v := ?_) (a' := ?_) #[true, true, true, true, true, true, true, false, false, false, false, false, false, false, false, false, false, false, false, false, false, false, false, false, false, false, false, false, false, false, false, false, false, false] rfl rfl (Zo HT_.out (by kernel_rfl)) (fun _ _ _ h => h) (Or.inl ⟨by rfl, ?_⟩) ?_ ?_
              rotate_left
              ·intro w'
               go_simp
               with_reducible rfl
              rotate_left
              ·simp only [Act.put, List.setIfInBounds_toArray, List.set_cons_zero, List.set_cons_succ, Zm, Zn]
               rfl
              refine Zr (i := 7) (N := some 97) (v := undef) (a' := ?_) #[true, true, true, true, true, true, true, true, false, false, false, false, false, false, false, false, false, false, false, false, false, false, false, false, false, false, false, false, false, false, false, false, false, false] rfl rfl (Zo HT_.out (by kernel_rfl)) (fun _ _ _ h => h) (Or.inr ⟨by rfl, rfl⟩) ?_ ?_
              rotate_left
              ·simp only [Act.put, List.setIfInBounds_toArray, List.set_cons_zero, List.set_cons_succ, Zm, Zn]
               rfl
              refine Zr (i := 8) (N := some 98) (v := undef) (a' := ?_) #[true, true, true, true, true, true, true, true, true, false, false, false, false, false, false, false, false, false, false, false, false, false, false, false, false, false, false, false, false, false, false, false, false, false] rfl rfl (Zo HT_.out (by kernel_rfl)) (fun _ _ _ h => h) (Or.inr ⟨by rfl, rfl⟩) ?_ ?_
              rotate_left
              ·simp only [Act.put, List.setIfInBounds_toArray, List.set_cons_zero, List.set_cons_succ, Zm, Zn]
               rfl
              refine Zr (i := 9) (N := some 99) (v := undef) (a' := ?_) #[true, true, true, true, true, true, true, true, true, true, false, false, false, false, false, false, false, false, false, false, false, false, false, false, false, false, false, false, false, false, false, false, false, false] rfl rfl (Zo HT_.out (by kernel_rfl)) (fun _ _ _ h => h) (Or.inr ⟨by rfl, rfl⟩) ?_ ?_
              rotate_left
              ·simp only [Act.put, List.setIfInBounds_toArray, List.set_cons_zero, List.set_cons_succ, Zm, Zn]
               rfl
              refine Zr (i := 10) (N := some 100) (v := undef) (a' := ?_) #[true, true, true, true, true, true, true, true, true, true, true, false, false, false, false, false, false, false, false, false, false, false, false, false, false, false, false, false, false, false, false, false, false, false] rfl rfl (Zo HT_.out (by kernel_rfl)) (fun _ _ _ h => h) (Or.inr ⟨by rfl, rfl⟩) ?_ ?_
              rotate_left
              ·simp only [Act.put, List.setIfInBounds_toArray, List.set_cons_zero, List.set_cons_succ, Zm, Zn]
               rfl
              refine Zr (i := 11) (N := some 101) (v := undef) (a' := ?_) #[true, true, true, true, true, true, true, true, true, true, true, true, false, false, false, false, false, false, false, false, false, false, false, false, false, false, false, false, false, false, false, false, false, false] rfl rfl (Zo HT_.out (by kernel_rfl)) (fun _ _ _ h => h) (Or.inr ⟨by rfl, rfl⟩) ?_ ?_
              rotate_left
              ·simp only [Act.put, List.setIfInBounds_toArray, List.set_cons_zero, List.set_cons_succ, Zm, Zn]
               rfl
              refine Zr (i := 12) (N := some 102) (v := undef) (a' := ?_) #[true, true, true, true, true, true, true, true, true, true, true, true, true, false, false, false, false, false, false, false, false, false, false, false, false, false, false, false, false, false, false, false, false, false] rfl rfl (Zo HT_.out (by kernel_rfl)) (fun _ _ _ h => h) (Or.inr ⟨by rfl, rfl⟩) ?_ ?_
              rotate_left
              ·simp only [Act.put, List.setIfInBounds_toArray, List.set_cons_zero, List.set_cons_succ, Zm, Zn]
               rfl
              refine Zr (i := 13) (N := some 103) (v := ?_) (a' := ?_) #[true, true, true, true, true, true, true, true, true, true, true, true, true, true, false, false, false, false, false, false, false, false, false, false, false, false, false, false, false, false, false, false, false, false] rfl rfl (Zo HT_.out (by kernel_rfl)) (fun _ _ _ h => h) (Or.inl ⟨by rfl, ?_⟩) ?_ ?_
              rotate_left
              ·intro w'
               go_simp
               with_reducible rfl
              rotate_left
              ·simp only [Act.put, List.setIfInBounds_toArray, List.set_cons_zero, List.set_cons_succ, Zm, Zn]
               rfl
              refine Zr (i := 14) (N := some 104) (v := ?_) (a' := ?_) #[true, true, true, true, true, true, true, true, true, true, true, true, true, true, true, false, false, false, false, false, false, false, false, false, false, false, false, false, false, false, false, false, false, false] rfl rfl (Zo HT_.out (by kernel_rfl)) (fun _ _ _ h => h) (Or.inl ⟨by rfl, ?_⟩) ?_ ?_
              rotate_left
              ·intro w'
               go_simp
               with_reducible rfl
              rotate_left
              ·simp only [Act.put, List.setIfInBounds_toArray, List.set_cons_zero, List.set_cons_succ, Zm, Zn]
               rfl
              refine Zr (i := 15) (N := some 105) (v := undef) (a' := ?_) #[true, true, true, true, true, true, true, true, true, true, true, true, true, true, true, true, false, false, false, false, false, false, false, false, false, false, false, false, false, false, false, false, false, false] rfl rfl (Zo HT_.out (by kernel_rfl)) (fun _ _ _ h => h) (Or.inr ⟨by rfl, rfl⟩) ?_ ?_
              rotate_left
              ·simp only [Act.put, List.setIfInBounds_toArray, List.set_cons_zero, List.set_cons_succ, Zm, Zn]
               rfl
              refine Zr (i := 16) (N := some 106) (v := undef) (a' := ?_) #[true, true, true, true, true, true, true, true, true, true, true, true, true, true, true, true, true, false, false, false, false, false, false, false, false, false, false, false, false, false, false, false, false, false] rfl rfl (Zo HT_.out (by kernel_rfl)) (fun _ _ _ h => h) (Or.inr ⟨by rfl, rfl⟩) ?_ ?_
              rotate_left
              ·simp only [Act.put, List.setIfInBounds_toArray, List.set_cons_zero, List.set_cons_succ, Zm, Zn]
               rfl
              refine Zr (i := 17) (N := some 107) (v := undef) (a' := ?_) #[true, true, true, true, true, true, true, true, true, true, true, true, true, true, true, true, true, true, false, false, false, false, false, false, false, false, false, false, false, false, false, false, false, false] rfl rfl (Zo HT_.out (by kernel_rfl)) (fun _ _ _ h => h) (Or.inr ⟨by rfl, rfl⟩) ?_ ?_
              rotate_left
              ·simp only [Act.put, List.setIfInBounds_toArray, List.set_cons_zero, List.set_cons_succ, Zm, Zn]
               rfl
              refine Zr (i := 18) (N := some 108) (v := undef) (a' := ?_) #[true, true, true, true, true, true, true, true, true, true, true, true, true, true, true, true, true, true, true, false, false, false, false, false, false, false, false, false, false, false, false, false, false, false] rfl rfl (Zo HT_.out (by kernel_rfl)) (fun _ _ _ h => h) (Or.inr ⟨by rfl, rfl⟩) ?_ ?_
              rotate_left
              ·simp only [Act.put, List.setIfInBounds_toArray, List.set_cons_zero, List.set_cons_succ, Zm, Zn]
               rfl
              refine Zr (i := 19) (N := some 109) (v := undef) (a' := ?_) #[true, true, true, true, true, true, true, true, true, true, true, true, true, true, true, true, true, true, true, true, false, false, false, false, false, false, false, false, false, false, false, false, false, false] rfl rfl (Zo HT_.out (by kernel_rfl)) (fun _ _ _ h => h) (Or.inr ⟨by rfl, rfl⟩) ?_ ?_
              rotate_left
              ·simp only [Act.put, List.setIfInBounds_toArray, List.set_cons_zero, List.set_cons_succ, Zm, Zn]
               rfl
              refine Zr (i := 20) (N := some 110) (v := ?_) (a' := ?_) #[true, true, true, true, true, true, true, true, true, true, true, true, true, true, true, true, true, true, true, true, true, false, false, false, false, false, false, false, false, false, false, false, false, false] rfl rfl (Zo HT_.out (by kernel_rfl)) (fun _ _ _ h => h) (Or.inl ⟨by rfl, ?_⟩) ?_ ?_
              rotate_left
              ·intro w'
               go_simp
               with_reducible rfl
              rotate_left
              ·simp only [Act.put, List.setIfInBounds_toArray, List.set_cons_zero, List.set_cons_succ, Zm, Zn]
               rfl
              refine Zr (i := 21) (N := some 111) (v := ?_) (a' := ?_) #[true, true, true, true, true, true, true, true, true, true, true, true, true, true, true, true, true, true, true, true, true, true, false, false, false, false, false, false, false, false, false, false, false, false] rfl rfl (Zo HT_.out (by kernel_rfl)) (fun _ _ _ h => h) (Or.inl ⟨by rfl, ?_⟩) ?_ ?_
              rotate_left
              ·intro w'
               go_simp
               with_reducible rfl
              rotate_left
              ·simp only [Act.put, List.setIfInBounds_toArray, List.set_cons_zero, List.set_cons_succ, Zm, Zn]
               rfl
              refine Zr (i := 22) (N := some 112) (v := undef) (a' := ?_) #[true, true, true, true, true, true, true, true, true, true, true, true, true, true, true, true, true, true, true, true, true, true, true, false, false, false, false, false, false, false, false, false, false, false] rfl rfl (Zo HT_.out (by kernel_rfl)) (fun _ _ _ h => h) (Or.inr ⟨by rfl, rfl⟩) ?_ ?_
              rotate_left
              ·simp only [Act.put, List.setIfInBounds_toArray, List.set_cons_zero, List.set_cons_succ, Zm, Zn]
               rfl
              refine Zr (i := 23) (N := some 113) (v := undef) (a' := ?_) #[true, true, true, true, true, true, true, true, true, true, true, true, true, true, true, true, true, true, true, true, true, true, true, true, false, false, false, false, false, false, false, false, false, false] rfl rfl (Zo HT_.out (by kernel_rfl)) (fun _ _ _ h => h) (Or.inr ⟨by rfl, rfl⟩) ?_ ?_
              rotate_left
              ·simp only [Act.put, List.setIfInBounds_toArray, List.set_cons_zero, List.set_cons_succ, Zm, Zn]
               rfl
              refine Zr (i := 24) (N := some 114) (v := undef) (a' := ?_) #[true, true, true, true, true, true, true, true, true, true, true, true, true, true, true, true, true, true, true, true, true, true, true, true, true, false, false, false, false, false, false, false, false, false] rfl rfl (Zo HT_.out (by kernel_rfl)) (fun _ _ _ h => h) (Or.inr ⟨by rfl, rfl⟩) ?_ ?_
              rotate_left
              ·simp only [Act.put, List.setIfInBounds_toArray, List.set_cons_zero, List.set_cons_succ, Zm, Zn]
               rfl
              refine Zr (i := 25) (N := some 115) (v := undef) (a' := ?_) #[true, true, true, true, true, true, true, true, true, true, true, true, true, true, true, true, true, true, true, true, true, true, true, true, true, true, false, false, false, false, false, false, false, false] rfl rfl (Zo HT_.out (by kernel_rfl)) (fun _ _ _ h => h) (Or.inr ⟨by rfl, rfl⟩) ?_ ?_
              rotate_left
              ·simp only [Act.put, List.setIfInBounds_toArray, List.set_cons_zero, List.set_cons_succ, Zm, Zn]
               rfl
              refine Zr (i := 26) (N := some 116) (v := undef) (a' := ?_) #[true, true, true, true, true, true, true, true, true, true, true, true, true, true, true, true, true, true, true, true, true, true, true, true, true, true, true, false, false, false, false, false, false, false] rfl rfl (Zo HT_.out (by kernel_rfl)) (fun _ _ _ h => h) (Or.inr ⟨by rfl, rfl⟩) ?_ ?_
              rotate_left
              ·simp only [Act.put, List.setIfInBounds_toArray, List.set_cons_zero, List.set_cons_succ, Zm, Zn]
               rfl
              refine Zr (i := 27) (N := some 117) (v := undef) (a' := ?_) #[true, true, true, true, true, true, true, true, true, true, true, true, true, true, true, true, true, true, true, true, true, true, true, true, true, true, true, true, false, false, false, false, false, false] rfl rfl (Zo HT_.out (by kernel_rfl)) (fun _ _ _ h => h) (Or.inr ⟨by rfl, rfl⟩) ?_ ?_
              rotate_left
              ·simp only [Act.put, List.setIfInBounds_toArray, List.set_cons_zero, List.set_cons_succ, Zm, Zn]
               rfl
              refine Zr (i := 28) (N := some 118) (v := undef) (a' := ?_) #[true, true, true, true, true, true, true, true, true, true, true, true, true, true, true, true, true, true, true, true, true, true, true, true, true, true, true, true, true, false, false, false, false, false] rfl rfl (Zo HT_.out (by kernel_rfl)) (fun _ _ _ h => h) (Or.inr ⟨by rfl, rfl⟩) ?_ ?_
              rotate_left
              ·simp only [Act.put, List.setIfInBounds_toArray, List.set_cons_zero, List.set_cons_succ, Zm, Zn]
               rfl
              refine Zr (i := 29) (N := some 119) (v := undef) (a' := ?_) #[true, true, true, true, true, true, true, true, true, true, true, true, true, true, true, true, true, true, true, true, true, true, true, true, true, true, true, true, true, true, false, false, false, false] rfl rfl (Zo HT_.out (by kernel_rfl)) (fun _ _ _ h => h) (Or.inr ⟨by rfl, rfl⟩) ?_ ?_
              rotate_left
              ·simp only [Act.put, List.setIfInBounds_toArray, List.set_cons_zero, List.set_cons_succ, Zm, Zn]
               rfl
              refine Zr (i := 30) (N := some 120) (v := undef) (a' := ?_) #[true, true, true, true, true, true, true, true, true, true, true, true, true, true, true, true, true, true, true, true, true, true, true, true, true, true, true, true, true, true, true, false, false, false] rfl rfl (Zo HT_.out (by kernel_rfl)) (fun _ _ _ h => h) (Or.inr ⟨by rfl, rfl⟩) ?_ ?_
              rotate_left
              ·simp only [Act.put, List.setIfInBounds_toArray, List.set_cons_zero, List.set_cons_succ, Zm, Zn]
               rfl
              refine Zr (i := 31) (N := some 121) (v := undef) (a' := ?_) #[true, true, true, true, true, true, true, true, true, true, true, true, true, true, true, true, true, true, true, true, true, true, true, true, true, true, true, true, true, true, true, true, false, false] rfl rfl (Zo HT_.out (by kernel_rfl)) (fun _ _ _ h => h) (Or.inr ⟨by rfl, rfl⟩) ?_ ?_
              rotate_left
              ·simp only [Act.put, List.setIfInBounds_toArray, List.set_cons_zero, List.set_cons_succ, Zm, Zn]
               rfl
              refine Zr (i := 32) (N := some 122) (v := undef) (a' := ?_) #[true, true, true, true, true, true, true, true, true, true, true, true, true, true, true, true, true, true, true, true, true, true, true, true, true, true, true, true, true, true, true, true, true, false] rfl rfl (Zo HT_.out (by kernel_rfl)) (fun _ _ _ h => h) (Or.inr ⟨by rfl, rfl⟩) ?_ ?_
              rotate_left
              ·simp only [Act.put, List.setIfInBounds_toArray, List.set_cons_zero, List.set_cons_succ, Zm, Zn]
               rfl
              refine Zr (i := 33) (N := some 123) (v := ?_) (a' := ?_) #[true, true, true, true, true, true, true, true, true, true, true, true, true, true, true, true, true, true, true, true, true, true, true, true, true, true, true, true, true, true, true, true, true, true] rfl rfl (Zo HT_.out (by kernel_rfl)) (fun _ _ _ h => h) (Or.inl ⟨by rfl, ?_⟩) ?_ ?_
              rotate_left
              ·intro w'
               go_simp
               with_reducible rfl
              rotate_left
              ·simp only [Act.put, List.setIfInBounds_toArray, List.set_cons_zero, List.set_cons_succ, Zm, Zn]
               rfl
              refine done_ (done_of HT_.out (by kernel_rfl)) ?_
              try go_wp2
              go_meet
              case rel => exact ⟨_, (true), (by first | rfl | (simp; done) | (simp [*]; done)), H', ⟨by have := HJ1.out; have := HK2.out; have := HK3.out; first | omega | exact Nat.le_refl _⟩, ⟨by (with_reducible repeat (first | refine Zg ?_ _ | refine Zi ?_ | refine Zh ?_ _)); exact BK101.out⟩, ⟨by (with_reducible repeat (first | refine Zg ?_ _ | refine Zi ?_ | refine Zh ?_ _)); exact BK102.out⟩, ⟨by (with_reducible repeat (first | refine Zg ?_ _ | refine Zi ?_ | refine Zh ?_ _)); exact BK118.out⟩, ⟨by repeat (first | (with_reducible first | exact HB.out | apply Ze | apply Za | apply Zd | refine Zf ?_ GE101.out | refine Zf ?_ GE102.out | refine Zf ?_ GE118.out) | exact HB.out)⟩⟩
            case rest =>
             clear HC173
             obtain ⟨kq, x123_172, rfl, HA, HJ172, BK101, BK102, BK118, HB⟩ := hcut
             cases kq with
             | zero => exact absurd HA.out (by simp [impl_isElection.j3])
             | succ kj172 =>
              have H := HA.out
              clear HA
              simp only [impl_isElection.j3] at H
              by_cases c194 : x123_172 = true
              ·subst c194
               rw [if_pos rfl] at H
               obtain rfl := Option.some.inj H
               go_wp2
               go_ret
               exact ⟨by first | rfl | (simp [errW_none, errW_some] <;> rfl) | (simp [*, errW_none, errW_some] <;> rfl), by repeat (first | (with_reducible first | exact HB.out | apply Ze | apply Za | apply Zd | refine Zf ?_ GE101.out | refine Zf ?_ GE102.out | refine Zf ?_ GE118.out) | exact HB.out)⟩
              ·replace c194 := Bool.eq_false_iff.mpr c194
               subst c194
               rw [if_neg (show ¬ (false = true) by decide)] at H
               by_cases c195 : ((rd_T111 l0_1 x86_3).f3) = true
               ·rw [if_pos c195] at H
                have c195b0 : ((rd_T111 l0_1 x86_3).f3) = true := c195
                clear c195
                by_cases c196 : ((rd_T111 l0_1 x86_3).f6) = true
                ·rw [if_pos c196] at H
                 have c196b0 : ((rd_T111 l0_1 x86_3).f6) = true := c196
                 clear c196
                 obtain rfl := Option.some.inj H
                 have hnb197 := NB118_101.out
                 have hnc197 := NB101_118.out
                 have hnb198 := NB118_102.out
                 have hnc198 := NB102_118.out
                 have hcz199_0 : wc.cell? ⟨gb118, 0, none⟩ = some (.int .i64 ((rd_T111 l0_1 x86_3).f0)) := (Zb BK118.out 0).trans rfl
                 have hcz199_1 : wc.cell? ⟨gb118, 1, none⟩ = some (.int .i64 ((rd_T111 l0_1 x86_3).f1)) := (Zb BK118.out 1).trans rfl
                 have hcz199_2 : wc.cell? ⟨gb118, 2, none⟩ = some (.int .i64 ((rd_T111 l0_1 x86_3).f2)) := (Zb BK118.out 2).trans rfl
                 have hcz199_3 : wc.cell? ⟨gb118, 3, none⟩ = some (.bool ((rd_T111 l0_1 x86_3).f3)) := (Zb BK118.out 3).trans rfl
                 have hcz199_4 : wc.cell? ⟨gb118, 4, none⟩ = some (.int .i64 ((rd_T111 l0_1 x86_3).f4)) := (Zb BK118.out 4).trans rfl
                 have hcz199_5 : wc.cell? ⟨gb118, 5, none⟩ = some (.int .i64 ((rd_T111 l0_1 x86_3).f5)) := (Zb BK118.out 5).trans rfl
                 have hcz199_6 : wc.cell? ⟨gb118, 6, none⟩ = some (.bool ((rd_T111 l0_1 x86_3).f6)) := (Zb BK118.out 6).trans rfl
                 have hfz199_0 := Zc BK118.out 0
                 have hfz199_1 := Zc BK118.out 1
                 have hfz199_2 := Zc BK118.out 2
                 have hfz199_3 := Zc BK118.out 3
                 have hfz199_4 := Zc BK118.out 4
                 have hfz199_5 := Zc BK118.out 5
                 have hfz199_6 := Zc BK118.out 6
                 go_wp2
                 go_ret
                 exact ⟨by first | rfl | (simp [errW_none, errW_some] <;> rfl) | (simp [*, errW_none, errW_some] <;> rfl), by repeat (first | (with_reducible first | exact HB.out | apply Ze | apply Za | apply Zd | refine Zf ?_ GE101.out | refine Zf ?_ GE102.out | refine Zf ?_ GE118.out) | exact HB.out)⟩
                ·rw [if_neg c196] at H
                 have c196b0 : ((rd_T111 l0_1 x86_3).f6) = false := by simpa using c196
                 clear c196
                 replace H := Option.bind_eq_some_iff.mp H
                 obtain ⟨t123, A2000, H⟩ := H
                 have A200 := Aside0.mk A2000
                 clear A2000
                 by_cases c201 : t123 = true
                 ·subst c201
                  rw [if_pos rfl] at H
                  replace H := Option.bind_eq_some_iff.mp H
                  obtain ⟨t124, A2020, H⟩ := H
                  have A202 := Aside0.mk A2020
                  clear A2020
                  by_cases c203 : t124 = true
                  ·subst c203
                   rw [if_pos rfl] at H
                   have H' := Aside0.mk H
                   clear H
                   have hnb204 := NB118_101.out
                   have hnc204 := NB101_118.out
                   have hnb205 := NB118_102.out
                   have hnc205 := NB102_118.out
                   have hcz206_0 : wc.cell? ⟨gb118, 0, none⟩ = some (.int .i64 ((rd_T111 l0_1 x86_3).f0)) := (Zb BK118.out 0).trans rfl
                   have hcz206_1 : wc.cell? ⟨gb118, 1, none⟩ = some (.int .i64 ((rd_T111 l0_1 x86_3).f1)) := (Zb BK118.out 1).trans rfl
                   have hcz206_2 : wc.cell? ⟨gb118, 2, none⟩ = some (.int .i64 ((rd_T111 l0_1 x86_3).f2)) := (Zb BK118.out 2).trans rfl
                   have hcz206_3 : wc.cell? ⟨gb118, 3, none⟩ = some (.bool ((rd_T111 l0_1 x86_3).f3)) := (Zb BK118.out 3).trans rfl
                   have hcz206_4 : wc.cell? ⟨gb118, 4, none⟩ = some (.int .i64 ((rd_T111 l0_1 x86_3).f4)) := (Zb BK118.out 4).trans rfl
                   have hcz206_5 : wc.cell? ⟨gb118, 5, none⟩ = some (.int .i64 ((rd_T111 l0_1 x86_3).f5)) := (Zb BK118.out 5).trans rfl
                   have hcz206_6 : wc.cell? ⟨gb118, 6, none⟩ = some (.bool ((rd_T111 l0_1 x86_3).f6)) := (Zb BK118.out 6).trans rfl
                   have hfz206_0 := Zc BK118.out 0
                   have hfz206_1 := Zc BK118.out 1
                   have hfz206_2 := Zc BK118.out 2
                   have hfz206_3 := Zc BK118.out 3
                   have hfz206_4 := Zc BK118.out 4
                   have hfz206_5 := Zc BK118.out 5
                   have hfz206_6 := Zc BK118.out 6
                   go_wp2_with (first | (go_at_call 71; (with_reducible refine (impl_in.calls ((rd_T111 l0_1 x86_3).f4) (-1) 100 true _ A200.out).mono ?_); rintro e w' ⟨rfl, ⟨nd, rfl⟩⟩) | (go_at_call 71; (with_reducible refine (impl_in.calls ((rd_T111 l0_1 x86_3).f5) 0 30 true _ A202.out).mono ?_); rintro e w' ⟨rfl, ⟨nd, rfl⟩⟩))
                   go_roundg kj172
                   case measure => have := HJ1.out; have := HK2.out; have := HK3.out; have := HJ172.out; omega
                   case rel => exact ⟨(wrap64 (x86_3 + 1)), (by first | rfl | (simp; done) | (simp [*]; done)), H', ⟨by have := HJ1.out; have := HK2.out; have := HK3.out; have := HJ172.out; omega⟩, ⟨by (with_reducible repeat (first | refine Zg ?_ _ | refine Zi ?_ | refine Zh ?_ _)); exact BK101.out⟩, ⟨by (with_reducible repeat (first | refine Zg ?_ _ | refine Zi ?_ | refine Zh ?_ _)); exact BK102.out⟩, ⟨by repeat (first | (with_reducible first | exact HB.out | apply Ze | apply Za | apply Zd | refine Zf ?_ GE101.out | refine Zf ?_ GE102.out | refine Zf ?_ GE118.out) | exact HB.out)⟩⟩
                  ·replace c203 := Bool.eq_false_iff.mpr c203
                   subst c203
                   rw [if_neg (show ¬ (false = true) by decide)] at H
                   obtain rfl := Option.some.inj H
                   have hnb207 := NB118_101.out
                   have hnc207 := NB101_118.out
                   have hnb208 := NB118_102.out
                   have hnc208 := NB102_118.out
                   have hcz209_0 : wc.cell? ⟨gb118, 0, none⟩ = some (.int .i64 ((rd_T111 l0_1 x86_3).f0)) := (Zb BK118.out 0).trans rfl
                   have hcz209_1 : wc.cell? ⟨gb118, 1, none⟩ = some (.int .i64 ((rd_T111 l0_1 x86_3).f1)) := (Zb BK118.out 1).trans rfl
                   have hcz209_2 : wc.cell? ⟨gb118, 2, none⟩ = some (.int .i64 ((rd_T111 l0_1 x86_3).f2)) := (Zb BK118.out 2).trans rfl
                   have hcz209_3 : wc.cell? ⟨gb118, 3, none⟩ = some (.bool ((rd_T111 l0_1 x86_3).f3)) := (Zb BK118.out 3).trans rfl
                   have hcz209_4 : wc.cell? ⟨gb118, 4, none⟩ = some (.int .i64 ((rd_T111 l0_1 x86_3).f4)) := (Zb BK118.out 4).trans rfl
                   have hcz209_5 : wc.cell? ⟨gb118, 5, none⟩ = some (.int .i64 ((rd_T111 l0_1 x86_3).f5)) := (Zb BK118.out 5).trans rfl
                   have hcz209_6 : wc.cell? ⟨gb118, 6, none⟩ = some (.bool ((rd_T111 l0_1 x86_3).f6)) := (Zb BK118.out 6).trans rfl
                   have hfz209_0 := Zc BK118.out 0
                   have hfz209_1 := Zc BK118.out 1
                   have hfz209_2 := Zc BK118.out 2
                   have hfz209_3 := Zc BK118.out 3
                   have hfz209_4 := Zc BK118.out 4
                   have hfz209_5 := Zc BK118.out 5
                   have hfz209_6 := Zc BK118.out 6
                   go_wp2_with (first | (go_at_call 71; (with_reducible refine (impl_in.calls ((rd_T111 l0_1 x86_3).f4) (-1) 100 true _ A200.out).mono ?_); rintro e w' ⟨rfl, ⟨nd, rfl⟩⟩) | (go_at_call 71; (with_reducible refine (impl_in.calls ((rd_T111 l0_1 x86_3).f5) 0 30 false _ A202.out).mono ?_); rintro e w' ⟨rfl, ⟨nd, rfl⟩⟩))
                   go_ret
                   exact ⟨by first | rfl | (simp [errW_none, errW_some] <;> rfl) | (simp [*, errW_none, errW_some] <;> rfl), by repeat (first | (with_reducible first | exact HB.out | apply Ze | apply Za | apply Zd | refine Zf ?_ GE101.out | refine Zf ?_ GE102.out | refine Zf ?_ GE118.out) | exact HB.out)⟩
                 ·replace c201 := Bool.eq_false_iff.mpr c201
                  subst c201
                  rw [if_neg (show ¬ (false = true) by decide)] at H
                  obtain rfl := Option.some.inj H
                  have hnb210 := NB118_101.out
                  have hnc210 := NB101_118.out
                  have hnb211 := NB118_102.out
                  have hnc211 := NB102_118.out
                  have hcz212_0 : wc.cell? ⟨gb118, 0, none⟩ = some (.int .i64 ((rd_T111 l0_1 x86_3).f0)) := (Zb BK118.out 0).trans rfl
                  have hcz212_1 : wc.cell? ⟨gb118, 1, none⟩ = some (.int .i64 ((rd_T111 l0_1 x86_3).f1)) := (Zb BK118.out 1).trans rfl
                  have hcz212_2 : wc.cell? ⟨gb118, 2, none⟩ = some (.int .i64 ((rd_T111 l0_1 x86_3).f2)) := (Zb BK118.out 2).trans rfl
                  have hcz212_3 : wc.cell? ⟨gb118, 3, none⟩ = some (.bool ((rd_T111 l0_1 x86_3).f3)) := (Zb BK118.out 3).trans rfl
                  have hcz212_4 : wc.cell? ⟨gb118, 4, none⟩ = some (.int .i64 ((rd_T111 l0_1 x86_3).f4)) := (Zb BK118.out 4).trans rfl
                  have hcz212_5 : wc.cell? ⟨gb118, 5, none⟩ = some (.int .i64 ((rd_T111 l0_1 x86_3).f5)) := (Zb BK118.out 5).trans rfl
                  have hcz212_6 : wc.cell? ⟨gb118, 6, none⟩ = some (.bool ((rd_T111 l0_1 x86_3).f6)) := (Zb BK118.out 6).trans rfl
                  have hfz212_0 := Zc BK118.out 0
                  have hfz212_1 := Zc BK118.out 1
                  have hfz212_2 := Zc BK118.out 2
                  have hfz212_3 := Zc BK118.out 3
                  have hfz212_4 := Zc BK118.out 4
                  have hfz212_5 := Zc BK118.out 5
                  have hfz212_6 := Zc BK118.out 6
                  go_wp2_with (first | (go_at_call 71; (with_reducible refine (impl_in.calls ((rd_T111 l0_1 x86_3).f4) (-1) 100 false _ A200.out).mono ?_); rintro e w' ⟨rfl, ⟨nd, rfl⟩⟩))
                  go_ret
                  exact ⟨by first | rfl | (simp [errW_none, errW_some] <;> rfl) | (simp [*, errW_none, errW_some] <;> rfl), by repeat (first | (with_reducible first | exact HB.out | apply Ze | apply Za | apply Zd | refine Zf ?_ GE101.out | refine Zf ?_ GE102.out | refine Zf ?_ GE118.out) | exact HB.out)⟩
               ·rw [if_neg c195] at H
                have c195b0 : ((rd_T111 l0_1 x86_3).f3) = false := by simpa using c195
                clear c195
                by_cases c213 : ((rd_T111 l0_1 x86_3).f4) = 0
                ·rw [if_pos c213] at H
                 have c213b0 : (((rd_T111 l0_1 x86_3).f4) == 0) = true := beq_iff_eq.mpr c213
                 have c213b1 : (((rd_T111 l0_1 x86_3).f4) != 0) = false := bne_eq_false_iff_eq.mpr c213
                 clear c213
                 by_cases c214 : ((rd_T111 l0_1 x86_3).f5) = 0
                 ·rw [if_pos c214] at H
                  have c214b0 : (((rd_T111 l0_1 x86_3).f5) == 0) = true := beq_iff_eq.mpr c214
                  have c214b1 : (((rd_T111 l0_1 x86_3).f5) != 0) = false := bne_eq_false_iff_eq.mpr c214
                  clear c214
                  have H' := Aside0.mk H
                  clear H
                  have hnb215 := NB118_101.out
                  have hnc215 := NB101_118.out
                  have hnb216 := NB118_102.out
                  have hnc216 := NB102_118.out
                  have hcz217_0 : wc.cell? ⟨gb118, 0, none⟩ = some (.int .i64 ((rd_T111 l0_1 x86_3).f0)) := (Zb BK118.out 0).trans rfl
                  have hcz217_1 : wc.cell? ⟨gb118, 1, none⟩ = some (.int .i64 ((rd_T111 l0_1 x86_3).f1)) := (Zb BK118.out 1).trans rfl
                  have hcz217_2 : wc.cell? ⟨gb118, 2, none⟩ = some (.int .i64 ((rd_T111 l0_1 x86_3).f2)) := (Zb BK118.out 2).trans rfl
                  have hcz217_3 : wc.cell? ⟨gb118, 3, none⟩ = some (.bool ((rd_T111 l0_1 x86_3).f3)) := (Zb BK118.out 3).trans rfl
                  have hcz217_4 : wc.cell? ⟨gb118, 4, none⟩ = some (.int .i64 ((rd_T111 l0_1 x86_3).f4)) := (Zb BK118.out 4).trans rfl
                  have hcz217_5 : wc.cell? ⟨gb118, 5, none⟩ = some (.int .i64 ((rd_T111 l0_1 x86_3).f5)) := (Zb BK118.out 5).trans rfl
                  have hcz217_6 : wc.cell? ⟨gb118, 6, none⟩ = some (.bool ((rd_T111 l0_1 x86_3).f6)) := (Zb BK118.out 6).trans rfl
                  have hfz217_0 := Zc BK118.out 0
                  have hfz217_1 := Zc BK118.out 1
                  have hfz217_2 := Zc BK118.out 2
                  have hfz217_3 := Zc BK118.out 3
                  have hfz217_4 := Zc BK118.out 4
                  have hfz217_5 := Zc BK118.out 5
                  have hfz217_6 := Zc BK118.out 6
                  go_wp2
                  go_roundg kj172
                  case measure => have := HJ1.out; have := HK2.out; have := HK3.out; have := HJ172.out; omega
                  case rel => exact ⟨(wrap64 (x86_3 + 1)), (by first | rfl | (simp; done) | (simp [*]; done)), H', ⟨by have := HJ1.out; have := HK2.out; have := HK3.out; have := HJ172.out; omega⟩, ⟨by (with_reducible repeat (first | refine Zg ?_ _ | refine Zi ?_ | refine Zh ?_ _)); exact BK101.out⟩, ⟨by (with_reducible repeat (first | refine Zg ?_ _ | refine Zi ?_ | refine Zh ?_ _)); exact BK102.out⟩, ⟨by repeat (first | (with_reducible first | exact HB.out | apply Ze | apply Za | apply Zd | refine Zf ?_ GE101.out | refine Zf ?_ GE102.out | refine Zf ?_ GE118.out) | exact HB.out)⟩⟩
                 ·rw [if_neg c214] at H
                  have c214b0 : (((rd_T111 l0_1 x86_3).f5) == 0) = false := beq_eq_false_iff_ne.mpr c214
                  have c214b1 : (((rd_T111 l0_1 x86_3).f5) != 0) = true := bne_iff_ne.mpr c214
                  obtain rfl := Option.some.inj H
                  have hnb218 := NB118_101.out
                  have hnc218 := NB101_118.out
                  have hnb219 := NB118_102.out
                  have hnc219 := NB102_118.out
                  have hcz220_0 : wc.cell? ⟨gb118, 0, none⟩ = some (.int .i64 ((rd_T111 l0_1 x86_3).f0)) := (Zb BK118.out 0).trans rfl
                  have hcz220_1 : wc.cell? ⟨gb118, 1, none⟩ = some (.int .i64 ((rd_T111 l0_1 x86_3).f1)) := (Zb BK118.out 1).trans rfl
                  have hcz220_2 : wc.cell? ⟨gb118, 2, none⟩ = some (.int .i64 ((rd_T111 l0_1 x86_3).f2)) := (Zb BK118.out 2).trans rfl
                  have hcz220_3 : wc.cell? ⟨gb118, 3, none⟩ = some (.bool ((rd_T111 l0_1 x86_3).f3)) := (Zb BK118.out 3).trans rfl
                  have hcz220_4 : wc.cell? ⟨gb118, 4, none⟩ = some (.int .i64 ((rd_T111 l0_1 x86_3).f4)) := (Zb BK118.out 4).trans rfl
                  have hcz220_5 : wc.cell? ⟨gb118, 5, none⟩ = some (.int .i64 ((rd_T111 l0_1 x86_3).f5)) := (Zb BK118.out 5).trans rfl
                  have hcz220_6 : wc.cell? ⟨gb118, 6, none⟩ = some (.bool ((rd_T111 l0_1 x86_3).f6)) := (Zb BK118.out 6).trans rfl
                  have hfz220_0 := Zc BK118.out 0
                  have hfz220_1 := Zc BK118.out 1
                  have hfz220_2 := Zc BK118.out 2
                  have hfz220_3 := Zc BK118.out 3
                  have hfz220_4 := Zc BK118.out 4
                  have hfz220_5 := Zc BK118.out 5
                  have hfz220_6 := Zc BK118.out 6
                  go_wp2
                  go_ret
                  exact ⟨by first | rfl | (simp [errW_none, errW_some] <;> rfl) | (simp [*, errW_none, errW_some] <;> rfl), by repeat (first | (with_reducible first | exact HB.out | apply Ze | apply Za | apply Zd | refine Zf ?_ GE101.out | refine Zf ?_ GE102.out | refine Zf ?_ GE118.out) | exact HB.out)⟩
                ·rw [if_neg c213] at H
                 have c213b0 : (((rd_T111 l0_1 x86_3).f4) == 0) = false := beq_eq_false_iff_ne.mpr c213
                 have c213b1 : (((rd_T111 l0_1 x86_3).f4) != 0) = true := bne_iff_ne.mpr c213
                 obtain rfl := Option.some.inj H
                 have hnb221 := NB118_101.out
                 have hnc221 := NB101_118.out
                 have hnb222 := NB118_102.out
                 have hnc222 := NB102_118.out
                 have hcz223_0 : wc.cell? ⟨gb118, 0, none⟩ = some (.int .i64 ((rd_T111 l0_1 x86_3).f0)) := (Zb BK118.out 0).trans rfl
                 have hcz223_1 : wc.cell? ⟨gb118, 1, none⟩ = some (.int .i64 ((rd_T111 l0_1 x86_3).f1)) := (Zb BK118.out 1).trans rfl
                 have hcz223_2 : wc.cell? ⟨gb118, 2, none⟩ = some (.int .i64 ((rd_T111 l0_1 x86_3).f2)) := (Zb BK118.out 2).trans rfl
                 have hcz223_3 : wc.cell? ⟨gb118, 3, none⟩ = some (.bool ((rd_T111 l0_1 x86_3).f3)) := (Zb BK118.out 3).trans rfl
                 have hcz223_4 : wc.cell? ⟨gb118, 4, none⟩ = some (.int .i64 ((rd_T111 l0_1 x86_3).f4)) := (Zb BK118.out 4).trans rfl
                 have hcz223_5 : wc.cell? ⟨gb118, 5, none⟩ = some (.int .i64 ((rd_T111 l0_1 x86_3).f5)) := (Zb BK118.out 5).trans rfl
                 have hcz223_6 : wc.cell? ⟨gb118, 6, none⟩ = some (.bool ((rd_T111 l0_1 x86_3).f6)) := (Zb BK118.out 6).trans rfl
                 have hfz223_0 := Zc BK118.out 0
                 have hfz223_1 := Zc BK118.out 1
                 have hfz223_2 := Zc BK118.out 2
                 have hfz223_3 := Zc BK118.out 3
                 have hfz223_4 := Zc BK118.out 4
                 have hfz223_5 := Zc BK118.out 5
                 have hfz223_6 := Zc BK118.out 6
                 go_wp2
                 go_ret
                 exact ⟨by first | rfl | (simp [errW_none, errW_some] <;> rfl) | (simp [*, errW_none, errW_some] <;> rfl), by repeat (first | (with_reducible first | exact HB.out | apply Ze | apply Za | apply Zd | refine Zf ?_ GE101.out | refine Zf ?_ GE102.out | refine Zf ?_ GE118.out) | exact HB.out)⟩
           ·rw [if_neg c172] at H
            exact absurd H (by simp)
          ·rw [if_neg c171] at H
           exact absurd H (by simp)
         ·rw [if_neg c170] at H
          have c170b0 : decide (x86_3 < (l0_1.length : Int)) = false := decide_eq_false c170
          clear c170
          replace H := Option.bind_eq_some_iff.mp H
          obtain ⟨t116, A2240, H⟩ := H
          have A224 := Aside0.mk A2240
          clear A2240
          obtain rfl := Option.some.inj H
          have hnb225 := NB101_102.out
          have hnc225 := NB102_101.out
          have hcz226_0 : wr.cell? ⟨gb101, 0, none⟩ = some (.slice A0_0 l0_0.length c0_0) := (Zb BK101.out 0).trans rfl
          have hcz226_1 : wr.cell? ⟨gb101, 1, none⟩ = some (.slice A0_1 l0_1.length c0_1) := (Zb BK101.out 1).trans rfl
          have hcz226_2 : wr.cell? ⟨gb101, 2, none⟩ = some (.slice A0_2 l0_2.length c0_2) := (Zb BK101.out 2).trans rfl
          have hfz226_0 := Zc BK101.out 0
          have hfz226_1 := Zc BK101.out 1
          have hfz226_2 := Zc BK101.out 2
          go_wp2_with (first | (go_at_call 118; (with_reducible refine (impl_Vote_of_impl_isElection_1.calls k3 _ _ l0_2 gb102 (l0_0.length : Int) t116 _ ?side1 ?side2 ?side3 A224.out).mono ?_); (case side1 => repeat (first | exact (Kd.C_below HR0_2.out HB.out) | (with_reducible refine Kd.C_alloc ?_ _) | (with_reducible refine Kd.C_drewN ?_ _) | (with_reducible refine Kd.C_drew ?_))); (case side2 => exact HC0_2.out); (case side3 => (with_reducible repeat (first | refine Zg ?_ _ | refine Zi ?_ | refine Zh ?_ _)); exact BK102.out); rintro e w227 ⟨rfl, hb⟩; have n0_ := Aside0.mk (Zl (g := gb101) (o := .cells #[.slice A0_0 l0_0.length c0_0, .slice A0_1 l0_1.length c0_1, .slice A0_2 l0_2.length c0_2] 54 (0, 0)) (by (with_reducible repeat (first | refine Zg ?_ _ | refine Zi ?_ | refine Zh ?_ _)); exact BK101.out) hb); have n1_ := Aside0.mk (Zl (g := gb102) (o := .cells #[.int .i64 (l0_0.length : Int)] 3 (0, 0)) (by (with_reducible repeat (first | refine Zg ?_ _ | refine Zi ?_ | refine Zh ?_ _)); exact BK102.out) hb); have n2_ := Aside0.mk (Zk (by repeat (first | (with_reducible first | exact HB.out | apply Ze | apply Za | apply Zd | refine Zf ?_ GE101.out | refine Zf ?_ GE102.out) | exact HB.out)) hb); clear BK101; clear BK102; clear HB; have BK101 := n0_; have BK102 := n1_; have HB := n2_; clear n0_ n1_ n2_; (try clear hb)))
          go_ret
          exact ⟨by first | rfl | (simp [errW_none, errW_some] <;> rfl) | (simp [*, errW_none, errW_some] <;> rfl), by repeat (first | (with_reducible first | exact HB.out | apply Ze | apply Za | apply Zd | refine Zf ?_ GE101.out | refine Zf ?_ GE102.out) | exact HB.out)⟩
end Go.Proofs.Ytomdjipejoafgaa.P
end
