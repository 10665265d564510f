-- Written by programs of this session (wip/prune.py, wip/xp.py), out of the translation and the printed words; what the law does not reach is left out. Not trusted: Lean checks it.
import Derived.Test.YtmkiffemanmgcaaZXOnWayPx0
import Derived.Test.YtmkiffemanmgcaaZXOnWayPx1
import Derived.Test.YtmkiffemanmgcaaZXOnWayPx19
import Derived.Test.YtmkiffemanmgcaaZXOnWayPx20
import Derived.Test.YtmkiffemanmgcaaZXOnWayPx9
section
namespace Go.Proofs.Ytmkiffemanmgcaa.P
open Go.RowKit Go.Proofs.YtmkiffemanmgcaaW.PrintWords Go.Proofs.YtmkiffemanmgcaaW.PrintLast Go.Proofs.YtmkiffemanmgcaaW.PrintMore
attribute [local go_sem] max2_int min2_int max_two min_two max_three min_three max_four min_four   -- for this text's walks alone
set_option linter.unusedVariables false
set_option linter.unusedSimpArgs false
def Bm21 (n m : Nat) : Array Bool := ((List.range n).map (fun i => m.testBit i)).toArray
theorem Sa21 {α : Type} (l : List α) (i : Nat) (a : α) : l.toArray.setIfInBounds i a = (l.set i a).toArray := List.setIfInBounds_toArray l i a
theorem Sb21 {α : Type} (a b : α) (l : List α) : (a :: l).set 0 b = b :: l := rfl
theorem Sc21 {α : Type} (a b : α) (l : List α) (n : Nat) : (a :: l).set (n + 1) b = a :: l.set n b := rfl
mutual
def impl_isSnap.j0 : Nat → Int → Bool → List Int → List (S94) → List (S76) → Int → Int → Option (Bool)
 | 0, _, _, _, _, _, _, _ => none
 | k + 1, x3, x49, x102000, x102001, x102002, x102003, x102004 => if x49 = true then (some false) else (impl_isSnap.l0 k x3 0 x102000 (x102000.length : Int) 0 x102000 x102001 x102002 x102003 x102004)
def impl_isSnap.l0 : Nat → Int → Int → List Int → Int → Int → List Int → List (S94) → List (S76) → Int → Int → Option (Bool)
 | 0, _, _, _, _, _, _, _, _, _, _ => none
 | k + 1, x3, x4, x51, x52, x53, x102000, x102001, x102002, x102003, x102004 => if x53 < x52 then (if 0 ≤ x53 then (if x53 < (x51.length : Int) then ((impl_in.f (rd x51 x53) 0 1000).bind fun t106 => (if t106 = true then (if x53 < (x102002.length : Int) then ((impl_isPicture.f k ((rd_T76 x102002 x53).f0) ((rd_T76 x102002 x53).f1) ((rd_T76 x102002 x53).f2) ((rd_T76 x102002 x53).f3) x53 x3).bind fun t108 => (if t108 = true then (impl_isSnap.l0 k x3 (wrap64 (x4 + (rd x51 x53))) x51 x52 (wrap64 (x53 + 1)) x102000 x102001 x102002 x102003 x102004) else (some false))) else (none)) else (some false))) else (none)) else (none)) else ((impl_newSnap.f k x3 0).bind fun bt109 => (impl_isSnap.l1 k x4 x102001 (x102001.length : Int) 0 x102000 x102001 x102002 x102003 x102004 bt109.1 bt109.2.1 bt109.2.2.1 bt109.2.2.2.1 bt109.2.2.2.2))
def impl_isSnap.l1 : Nat → Int → List (S94) → Int → Int → List Int → List (S94) → List (S76) → Int → Int → List Int → List (S94) → List (S76) → Int → Int → Option (Bool)
 | 0, _, _, _, _, _, _, _, _, _, _, _, _, _, _ => none
 | k + 1, x4, x79, x80, x81, x102000, x102001, x102002, x102003, x102004, x121000, x121001, x121002, x121003, x121004 => if x81 < x80 then (if 0 ≤ x81 then (if x81 < (x79.length : Int) then (if x81 < (x121001.length : Int) then (if ((rd_T94 x79 x81).f0) = ((rd_T94 x121001 x81).f0) then (if ((rd_T94 x79 x81).f1) = ((rd_T94 x121001 x81).f1) then (impl_isSnap.j3 k x4 x79 x80 x81 (decide ((((rd_T94 x79 x81).f2).length : Int) > 8)) x102000 x102001 x102002 x102003 x102004 x121000 x121001 x121002 x121003 x121004 ((rd_T94 x79 x81).f0) ((rd_T94 x79 x81).f1) ((rd_T94 x79 x81).f2)) else (impl_isSnap.j3 k x4 x79 x80 x81 true x102000 x102001 x102002 x102003 x102004 x121000 x121001 x121002 x121003 x121004 ((rd_T94 x79 x81).f0) ((rd_T94 x79 x81).f1) ((rd_T94 x79 x81).f2))) else (impl_isSnap.j3 k x4 x79 x80 x81 true x102000 x102001 x102002 x102003 x102004 x121000 x121001 x121002 x121003 x121004 ((rd_T94 x79 x81).f0) ((rd_T94 x79 x81).f1) ((rd_T94 x79 x81).f2))) else (none)) else (none)) else (none)) else ((impl_Snap_onWay.f k x102000 x102001 x102002 x102003 x102004).bind fun t121 => (some ((wrap64 (x4 + t121)) == x102004)))
def impl_isSnap.j3 : Nat → Int → List (S94) → Int → Int → Bool → List Int → List (S94) → List (S76) → Int → Int → List Int → List (S94) → List (S76) → Int → Int → Int → Int → List Int → Option (Bool)
 | 0, _, _, _, _, _, _, _, _, _, _, _, _, _, _, _, _, _, _ => none
 | k + 1, x4, x79, x80, x81, x111, x102000, x102001, x102002, x102003, x102004, x121000, x121001, x121002, x121003, x121004, x124000, x124001, x124002 => if x111 = true then (some false) else (impl_isSnap.l2 k x4 0 x79 x80 x81 x124002 (x124002.length : Int) 0 x102000 x102001 x102002 x102003 x102004 x121000 x121001 x121002 x121003 x121004 x124000 x124001 x124002)
def impl_isSnap.l2 : Nat → Int → Int → List (S94) → Int → Int → List Int → Int → Int → List Int → List (S94) → List (S76) → Int → Int → List Int → List (S94) → List (S76) → Int → Int → Int → Int → List Int → Option (Bool)
 | 0, _, _, _, _, _, _, _, _, _, _, _, _, _, _, _, _, _, _, _, _, _ => none
 | k + 1, x4, x10, x79, x80, x81, x113, x114, x115, x102000, x102001, x102002, x102003, x102004, x121000, x121001, x121002, x121003, x121004, x124000, x124001, x124002 => if x115 < x114 then (if 0 ≤ x115 then (if x115 < (x113.length : Int) then ((impl_in.f (rd x113 x115) 0 1000).bind fun t127 => (if t127 = true then (if (rd x113 x115) = 0 then (impl_isSnap.l2 k x4 (wrap64 (x10 + 1)) x79 x80 x81 x113 x114 (wrap64 (x115 + 1)) x102000 x102001 x102002 x102003 x102004 x121000 x121001 x121002 x121003 x121004 x124000 x124001 x124002) else (impl_isSnap.l2 k x4 x10 x79 x80 x81 x113 x114 (wrap64 (x115 + 1)) x102000 x102001 x102002 x102003 x102004 x121000 x121001 x121002 x121003 x121004 x124000 x124001 x124002)) else (some false))) else (none)) else (none)) else (if 0 ≤ x124001 then (if x124001 < (x102002.length : Int) then (if 0 ≤ x124000 then (if x124000 < (((rd_T76 x102002 x124001).f3).length : Int) then (if x124000 < (x102002.length : Int) then (if (rd_T76 x102002 x124000).f0 = true then (impl_isSnap.j5 k x4 x10 0 (rdOf false ((rd_T76 x102002 x124001).f3) x124000) x79 x80 x81 (!(rdOf false ((rd_T76 x102002 x124001).f3) x124000)) x102000 x102001 x102002 x102003 x102004 x121000 x121001 x121002 x121003 x121004 x124000 x124001 x124002) else (impl_isSnap.j5 k x4 x10 0 (rdOf false ((rd_T76 x102002 x124001).f3) x124000) x79 x80 x81 false x102000 x102001 x102002 x102003 x102004 x121000 x121001 x121002 x121003 x121004 x124000 x124001 x124002)) else (none)) else (none)) else (none)) else (none)) else (none))
def impl_isSnap.j5 : Nat → Int → Int → Int → Bool → List (S94) → Int → Int → Bool → List Int → List (S94) → List (S76) → Int → Int → List Int → List (S94) → List (S76) → Int → Int → Int → Int → List Int → Option (Bool)
 | 0, _, _, _, _, _, _, _, _, _, _, _, _, _, _, _, _, _, _, _, _, _ => none
 | k + 1, x4, x10, x13, x14, x79, x80, x81, x148, x102000, x102001, x102002, x102003, x102004, x121000, x121001, x121002, x121003, x121004, x124000, x124001, x124002 => if x148 = true then (if x10 = 1 then (if x14 = true then (if 0 ≤ x124000 then (if x124000 < (x102002.length : Int) then (if ((rd_T76 x102002 x124000).f0 = true) then (impl_isSnap.l1 k x4 x79 x80 (wrap64 (x81 + 1)) x102000 x102001 x102002 x102003 x102004 x121000 x121001 x121002 x121003 x121004) else (some false)) else (none)) else (none)) else (impl_isSnap.l1 k x4 x79 x80 (wrap64 (x81 + 1)) x102000 x102001 x102002 x102003 x102004 x121000 x121001 x121002 x121003 x121004)) else (some false)) else (if x10 = x13 then (if x14 = true then (if 0 ≤ x124000 then (if x124000 < (x102002.length : Int) then (if ((rd_T76 x102002 x124000).f0 = true) then (impl_isSnap.l1 k x4 x79 x80 (wrap64 (x81 + 1)) x102000 x102001 x102002 x102003 x102004 x121000 x121001 x121002 x121003 x121004) else (some false)) else (none)) else (none)) else (impl_isSnap.l1 k x4 x79 x80 (wrap64 (x81 + 1)) x102000 x102001 x102002 x102003 x102004 x121000 x121001 x121002 x121003 x121004)) else (some false))
end
def impl_isSnap.f (k : Nat) (l0_0 : List Int) (l0_1 : List (S94)) (l0_2 : List (S76)) (a0_3 : Int) (a0_4 : Int) : Option (Bool) := (impl_in.f (l0_0.length : Int) 2 4).bind fun t102 => (if t102 = true then (if (l0_2.length : Int) = (l0_0.length : Int) then ((impl_in.f a0_3 0 1000).bind fun t103 => (if t103 = true then ((impl_in.f a0_4 0 1000).bind fun t104 => (if t104 = true then (impl_isSnap.j0 k (l0_0.length : Int) ((l0_1.length : Int) != (wrap64 ((l0_0.length : Int) * (wrap64 ((l0_0.length : Int) - 1))))) l0_0 l0_1 l0_2 a0_3 a0_4) else (impl_isSnap.j0 k (l0_0.length : Int) true l0_0 l0_1 l0_2 a0_3 a0_4))) else (impl_isSnap.j0 k (l0_0.length : Int) true l0_0 l0_1 l0_2 a0_3 a0_4))) else (impl_isSnap.j0 k (l0_0.length : Int) true l0_0 l0_1 l0_2 a0_3 a0_4)) else (impl_isSnap.j0 k (l0_0.length : Int) true l0_0 l0_1 l0_2 a0_3 a0_4))
def impl_isSnap.T16 : Bool × List (List Nat × List Nat) := (true, [([], []), ([0], [0]), ([], []), ([2], [2]), ([], []), ([3, 4], [3, 4]), ([5], [5]), ([6], [6]), ([1, 7], [1, 7]), ([8], [8]), ([9], [9]), ([10, 9], [9, 10]), ([9], [9]), ([12, 9], [9, 12]), ([9], [9]), ([13, 14, 9], [9, 13, 14]), ([15, 9], [9, 15]), ([16, 9], [9, 16]), ([11, 17, 9], [9, 11, 17]), ([9, 18], [9, 18]), ([19, 9], [19]), ([20], [20]), ([21, 20], [20, 21]), ([22, 20], [20, 22]), ([23, 20], [20, 23]), ([20, 24], [20, 24])])
def impl_isSnap.B16 : List Nat := [0, 1, 0, 4, 0, 28, 60, 124, 255, 511, 1023, 2047, 1023, 5119, 1023, 29695, 62463, 127999, 262143, 524287, 1048575, 2097151, 4194303, 8388607, 16777215, 33554431]
theorem impl_isSnap.tab16 : rtab .any (opsOf Try.f76 16) = impl_isSnap.T16 := by kernel_rfl
theorem impl_isSnap.bits16 : waitsOk impl_isSnap.T16.2 impl_isSnap.B16 = true := by kernel_rfl
def impl_isSnap.T28 : Bool × List (List Nat × List Nat) := (true, [([], []), ([0], [0]), ([], []), ([2], [2]), ([1, 3], [1, 3]), ([4], [4]), ([5], [5]), ([], []), ([7], [7]), ([6, 8], [6, 8]), ([9], [9]), ([10, 0, 1, 2, 3, 4, 5, 6, 7, 8, 9, 10], [10])])
def impl_isSnap.B28 : List Nat := [0, 1, 0, 4, 15, 31, 63, 0, 128, 511, 1023, 2047]
theorem impl_isSnap.tab28 : rtab .any (opsOf Try.f76 28) = impl_isSnap.T28 := by kernel_rfl
theorem impl_isSnap.bits28 : waitsOk impl_isSnap.T28.2 impl_isSnap.B28 = true := by kernel_rfl
def impl_isSnap.T34 : Bool × List (List Nat × List Nat) := (true, [([], []), ([], []), ([1], [1]), ([0, 2], [0, 2]), ([], []), ([4], [4]), ([3, 5], [3, 5]), ([6, 2, 0, 1, 2, 3, 4, 5, 6], [6])])
def impl_isSnap.B34 : List Nat := [0, 0, 2, 7, 0, 16, 63, 127]
theorem impl_isSnap.tab34 : rtab .any (opsOf Try.f76 34) = impl_isSnap.T34 := by kernel_rfl
theorem impl_isSnap.bits34 : waitsOk impl_isSnap.T34.2 impl_isSnap.B34 = true := by kernel_rfl
set_option maxHeartbeats 8000000 in
set_option maxRecDepth 100000 in
theorem impl_isSnap.calls (k : Nat) (A0_0 : Option Addr) (c0_0 : Nat) (l0_0 : List Int) (A0_1 : Option Addr) (c0_1 : Nat) (l0_1 : List (S94)) (A0_2 : Option Addr) (c0_2 : Nat) (l0_2 : List (S76)) (a0_3 : Int) (a0_4 : Int) (r : Bool) (w : World) (hr0_0 : Kd.C (Kd.int .i64) w A0_0 l0_0.length l0_0) (hc0_0 : l0_0.length ≤ c0_0) (hr0_1 : Kd.C k94 w A0_1 l0_1.length l0_1) (hc0_1 : l0_1.length ≤ c0_1) (hr0_2 : Kd.C k76 w A0_2 l0_2.length l0_2) (hc0_2 : l0_2.length ≤ c0_2) (h : impl_isSnap.f k l0_0 l0_1 l0_2 a0_3 a0_4 = some r) :
  Calls Try.prog 76 #[.agg #[.slice A0_0 l0_0.length c0_0, .slice A0_1 l0_1.length c0_1, .slice A0_2 l0_2.length c0_2, .int .i64 a0_3, .int .i64 a0_4]] w fun e w' => e = .returned (.bool r) ∧ Below w.heap.size w w' := by
 have hu35 := Try.underlying35
 have hu31 := Try.underlying31
 have hu76 := Try.underlying76
 have hu94 := Try.underlying94
 have HR0_0 := Aside0.mk hr0_0
 have HC0_0 := Aside0.mk hc0_0
 clear hr0_0 hc0_0
 have HR0_1 := Aside0.mk hr0_1
 have HC0_1 := Aside0.mk hc0_1
 clear hr0_1 hc0_1
 have HR0_2 := Aside0.mk hr0_2
 have HC0_2 := Aside0.mk hc0_2
 clear hr0_2 hc0_2
 have HB := Aside0.mk (Below.refl w.heap.size w)
 have H : ((impl_in.f (l0_0.length : Int) 2 4).bind fun t102 => (if t102 = true then (if (l0_2.length : Int) = (l0_0.length : Int) then ((impl_in.f a0_3 0 1000).bind fun t103 => (if t103 = true then ((impl_in.f a0_4 0 1000).bind fun t104 => (if t104 = true then (impl_isSnap.j0 k (l0_0.length : Int) ((l0_1.length : Int) != (wrap64 ((l0_0.length : Int) * (wrap64 ((l0_0.length : Int) - 1))))) l0_0 l0_1 l0_2 a0_3 a0_4) else (impl_isSnap.j0 k (l0_0.length : Int) true l0_0 l0_1 l0_2 a0_3 a0_4))) else (impl_isSnap.j0 k (l0_0.length : Int) true l0_0 l0_1 l0_2 a0_3 a0_4))) else (impl_isSnap.j0 k (l0_0.length : Int) true l0_0 l0_1 l0_2 a0_3 a0_4)) else (impl_isSnap.j0 k (l0_0.length : Int) true l0_0 l0_1 l0_2 a0_3 a0_4))) = some r := h
 clear h
 have HC2 := Aside0.mk H
 clear H
 go_enter Try.func76, Try.ntmps76
 go_upto_region 2 with (first | ((with_reducible refine Zv (N := 1) rfl ?_); (try (refine gate_guard (by rfl) ?_; dsimp only)); refine Zt ?hg (N := 1) ?hd (cs := #[.slice A0_0 l0_0.length c0_0, .slice A0_1 l0_1.length c0_1, .slice A0_2 l0_2.length c0_2, .int .i64 a0_3, .int .i64 a0_4]) (t := 35) ?hr ?_; (case hd => rfl); (case hg => rfl); (case hr => first | (go_simp; done) | (go_simp; rfl)); intro gb101 hg w3 hbox hb; have n0_ := Aside0.mk (Zo (by repeat (first | (with_reducible first | exact HB.out | apply Ze | apply Za | apply Zd) | exact HB.out)) hb); have n1_ := Aside0.mk (hbox); have n2_ := Aside0.mk ((by rw [hg]; exact (Zn (by repeat (first | (with_reducible first | exact HB.out | apply Ze | apply Za | apply Zd) | exact HB.out))) : w.heap.size ≤ gb101)); have n3_ := n2_; clear HB; have HB := n0_; have BK101 := n1_; have GW101 := n2_; have GE101 := n3_; clear n0_ n1_ n2_ n3_; clear hb hbox hg; have hcz4_0 : w3.cell? ⟨gb101, 0, none⟩ = some (.slice A0_0 l0_0.length c0_0) := (Zb BK101.out 0).trans rfl; have hcz4_1 : w3.cell? ⟨gb101, 1, none⟩ = some (.slice A0_1 l0_1.length c0_1) := (Zb BK101.out 1).trans rfl; have hcz4_2 : w3.cell? ⟨gb101, 2, none⟩ = some (.slice A0_2 l0_2.length c0_2) := (Zb BK101.out 2).trans rfl; have hcz4_3 : w3.cell? ⟨gb101, 3, none⟩ = some (.int .i64 a0_3) := (Zb BK101.out 3).trans rfl; have hcz4_4 : w3.cell? ⟨gb101, 4, none⟩ = some (.int .i64 a0_4) := (Zb BK101.out 4).trans rfl; have hfz4_0 := Zc BK101.out 0; have hfz4_1 := Zc BK101.out 1; have hfz4_2 := Zc BK101.out 2; have hfz4_3 := Zc BK101.out 3; have hfz4_4 := Zc BK101.out 4))
 (try simp only [Act.put, Sa21, Sb21, Sc21])
 go_cut [49] (fun v49 wc => ∃ (kq : Nat) (x49_1 : Bool), v49 = .bool x49_1 ∧ Aside0 (impl_isSnap.j0 kq (l0_0.length : Int) x49_1 l0_0 l0_1 l0_2 a0_3 a0_4 = some r) ∧ Aside0 (kq ≤ k) ∧ Aside0 (wc.heap[gb101]? = some (.cells #[(.slice A0_0 l0_0.length c0_0), (.slice A0_1 l0_1.length c0_1), (.slice A0_2 l0_2.length c0_2), .int .i64 a0_3, .int .i64 a0_4] 35 (0, 0))) ∧ Aside0 (Below w.heap.size w wc))
 case first =>
  have H := HC2.out
  clear HC2
  replace H := Option.bind_eq_some_iff.mp H
  obtain ⟨t102, A50, H⟩ := H
  have A5 := Aside0.mk A50
  clear A50
  by_cases c6 : t102 = true
  ·subst c6
   rw [if_pos rfl] at H
   by_cases c7 : (l0_2.length : Int) = (l0_0.length : Int)
   ·rw [if_pos c7] at H
    have c7b0 : ((l0_2.length : Int) == (l0_0.length : Int)) = true := beq_iff_eq.mpr c7
    have c7b1 : ((l0_2.length : Int) != (l0_0.length : Int)) = false := bne_eq_false_iff_eq.mpr c7
    have c7b2 : (l0_2.length == l0_0.length) = true := by first | simpa using c7 | (simp at c7 ⊢; omega)
    clear c7
    (first | rw [c7b0] | (simp only [Zk, Zl]; rw [c7b0]) | skip)
    replace H := Option.bind_eq_some_iff.mp H
    obtain ⟨t103, A80, H⟩ := H
    have A8 := Aside0.mk A80
    clear A80
    by_cases c9 : t103 = true
    ·subst c9
     rw [if_pos rfl] at H
     replace H := Option.bind_eq_some_iff.mp H
     obtain ⟨t104, A100, H⟩ := H
     have A10 := Aside0.mk A100
     clear A100
     by_cases c11 : t104 = true
     ·subst c11
      rw [if_pos rfl] at H
      have H' := Aside0.mk H
      clear H
      go_wp2_with (first | ((with_reducible refine Zp (f := 44) rfl ?_); refine Zw (some 19) rfl rfl Try.func44 (by kernel_rfl) rfl #[.int .i64 (l0_0.length : Int), .int .i64 2, .int .i64 4] rfl (by (try simp only [List.map_toArray, List.map_cons, List.map_nil]); first | done | rfl | (simp only [List.length_drop, List.length_take]; rfl)) ?_; (with_reducible refine (impl_in.calls (l0_0.length : Int) 2 4 true _ A5.out).mono ?_); rintro e w' ⟨rfl, ⟨nd, rfl⟩⟩; refine ⟨_, rfl, ?_⟩; have hcz12_0 : w3.cell? ⟨gb101, 0, none⟩ = some (.slice A0_0 l0_0.length c0_0) := (Zb BK101.out 0).trans rfl; have hcz12_1 : w3.cell? ⟨gb101, 1, none⟩ = some (.slice A0_1 l0_1.length c0_1) := (Zb BK101.out 1).trans rfl; have hcz12_2 : w3.cell? ⟨gb101, 2, none⟩ = some (.slice A0_2 l0_2.length c0_2) := (Zb BK101.out 2).trans rfl; have hcz12_3 : w3.cell? ⟨gb101, 3, none⟩ = some (.int .i64 a0_3) := (Zb BK101.out 3).trans rfl; have hcz12_4 : w3.cell? ⟨gb101, 4, none⟩ = some (.int .i64 a0_4) := (Zb BK101.out 4).trans rfl; have hfz12_0 := Zc BK101.out 0; have hfz12_1 := Zc BK101.out 1; have hfz12_2 := Zc BK101.out 2; have hfz12_3 := Zc BK101.out 3; have hfz12_4 := Zc BK101.out 4) | (go_at_call 44; (with_reducible refine (impl_in.calls a0_3 0 1000 true _ A8.out).mono ?_); rintro e w' ⟨rfl, ⟨nd, rfl⟩⟩) | (go_at_call 44; (with_reducible refine (impl_in.calls a0_4 0 1000 true _ A10.out).mono ?_); rintro e w' ⟨rfl, ⟨nd, rfl⟩⟩))
      go_meet
      case rel => exact ⟨_, (((l0_1.length : Int) != (wrap64 ((l0_0.length : Int) * (wrap64 ((l0_0.length : Int) - 1)))))), (by first | rfl | (simp; done) | (simp [*]; done)), H', ⟨by first | omega | exact Nat.le_refl _⟩, ⟨by (with_reducible repeat (first | refine Zh ?_ _ | refine Zi ?_ | refine Zg ?_ _)); exact BK101.out⟩, ⟨by repeat (first | (with_reducible first | exact HB.out | apply Ze | apply Za | apply Zd | refine Zf ?_ GE101.out) | exact HB.out)⟩⟩
     ·replace c11 := Bool.eq_false_iff.mpr c11
      subst c11
      rw [if_neg (show ¬ (false = true) by decide)] at H
      have H' := Aside0.mk H
      clear H
      go_wp2_with (first | ((with_reducible refine Zp (f := 44) rfl ?_); refine Zw (some 19) rfl rfl Try.func44 (by kernel_rfl) rfl #[.int .i64 (l0_0.length : Int), .int .i64 2, .int .i64 4] rfl (by (try simp only [List.map_toArray, List.map_cons, List.map_nil]); first | done | rfl | (simp only [List.length_drop, List.length_take]; rfl)) ?_; (with_reducible refine (impl_in.calls (l0_0.length : Int) 2 4 true _ A5.out).mono ?_); rintro e w' ⟨rfl, ⟨nd, rfl⟩⟩; refine ⟨_, rfl, ?_⟩; have hcz13_0 : w3.cell? ⟨gb101, 0, none⟩ = some (.slice A0_0 l0_0.length c0_0) := (Zb BK101.out 0).trans rfl; have hcz13_1 : w3.cell? ⟨gb101, 1, none⟩ = some (.slice A0_1 l0_1.length c0_1) := (Zb BK101.out 1).trans rfl; have hcz13_2 : w3.cell? ⟨gb101, 2, none⟩ = some (.slice A0_2 l0_2.length c0_2) := (Zb BK101.out 2).trans rfl; have hcz13_3 : w3.cell? ⟨gb101, 3, none⟩ = some (.int .i64 a0_3) := (Zb BK101.out 3).trans rfl; have hcz13_4 : w3.cell? ⟨gb101, 4, none⟩ = some (.int .i64 a0_4) := (Zb BK101.out 4).trans rfl; have hfz13_0 := Zc BK101.out 0; have hfz13_1 := Zc BK101.out 1; have hfz13_2 := Zc BK101.out 2; have hfz13_3 := Zc BK101.out 3; have hfz13_4 := Zc BK101.out 4) | (go_at_call 44; (with_reducible refine (impl_in.calls a0_3 0 1000 true _ A8.out).mono ?_); rintro e w' ⟨rfl, ⟨nd, rfl⟩⟩) | (go_at_call 44; (with_reducible refine (impl_in.calls a0_4 0 1000 false _ A10.out).mono ?_); rintro e w' ⟨rfl, ⟨nd, rfl⟩⟩))
      go_meet
      case rel => exact ⟨_, (true), (by first | rfl | (simp; done) | (simp [*]; done)), H', ⟨by first | omega | exact Nat.le_refl _⟩, ⟨by (with_reducible repeat (first | refine Zh ?_ _ | refine Zi ?_ | refine Zg ?_ _)); exact BK101.out⟩, ⟨by repeat (first | (with_reducible first | exact HB.out | apply Ze | apply Za | apply Zd | refine Zf ?_ GE101.out) | exact HB.out)⟩⟩
    ·replace c9 := Bool.eq_false_iff.mpr c9
     subst c9
     rw [if_neg (show ¬ (false = true) by decide)] at H
     have H' := Aside0.mk H
     clear H
     go_wp2_with (first | ((with_reducible refine Zp (f := 44) rfl ?_); refine Zw (some 19) rfl rfl Try.func44 (by kernel_rfl) rfl #[.int .i64 (l0_0.length : Int), .int .i64 2, .int .i64 4] rfl (by (try simp only [List.map_toArray, List.map_cons, List.map_nil]); first | done | rfl | (simp only [List.length_drop, List.length_take]; rfl)) ?_; (with_reducible refine (impl_in.calls (l0_0.length : Int) 2 4 true _ A5.out).mono ?_); rintro e w' ⟨rfl, ⟨nd, rfl⟩⟩; refine ⟨_, rfl, ?_⟩; have hcz14_0 : w3.cell? ⟨gb101, 0, none⟩ = some (.slice A0_0 l0_0.length c0_0) := (Zb BK101.out 0).trans rfl; have hcz14_1 : w3.cell? ⟨gb101, 1, none⟩ = some (.slice A0_1 l0_1.length c0_1) := (Zb BK101.out 1).trans rfl; have hcz14_2 : w3.cell? ⟨gb101, 2, none⟩ = some (.slice A0_2 l0_2.length c0_2) := (Zb BK101.out 2).trans rfl; have hcz14_3 : w3.cell? ⟨gb101, 3, none⟩ = some (.int .i64 a0_3) := (Zb BK101.out 3).trans rfl; have hcz14_4 : w3.cell? ⟨gb101, 4, none⟩ = some (.int .i64 a0_4) := (Zb BK101.out 4).trans rfl; have hfz14_0 := Zc BK101.out 0; have hfz14_1 := Zc BK101.out 1; have hfz14_2 := Zc BK101.out 2; have hfz14_3 := Zc BK101.out 3; have hfz14_4 := Zc BK101.out 4) | (go_at_call 44; (with_reducible refine (impl_in.calls a0_3 0 1000 false _ A8.out).mono ?_); rintro e w' ⟨rfl, ⟨nd, rfl⟩⟩))
     go_meet
     case rel => exact ⟨_, (true), (by first | rfl | (simp; done) | (simp [*]; done)), H', ⟨by first | omega | exact Nat.le_refl _⟩, ⟨by (with_reducible repeat (first | refine Zh ?_ _ | refine Zi ?_ | refine Zg ?_ _)); exact BK101.out⟩, ⟨by repeat (first | (with_reducible first | exact HB.out | apply Ze | apply Za | apply Zd | refine Zf ?_ GE101.out) | exact HB.out)⟩⟩
   ·rw [if_neg c7] at H
    have c7b0 : ((l0_2.length : Int) == (l0_0.length : Int)) = false := beq_eq_false_iff_ne.mpr c7
    have c7b1 : ((l0_2.length : Int) != (l0_0.length : Int)) = true := bne_iff_ne.mpr c7
    have c7b2 : (l0_2.length == l0_0.length) = false := by first | simpa using c7 | (simp at c7 ⊢; omega)
    (first | rw [c7b0] | (simp only [Zk, Zl]; rw [c7b0]) | skip)
    have H' := Aside0.mk H
    clear H
    go_wp2_with (first | ((with_reducible refine Zp (f := 44) rfl ?_); refine Zw (some 19) rfl rfl Try.func44 (by kernel_rfl) rfl #[.int .i64 (l0_0.length : Int), .int .i64 2, .int .i64 4] rfl (by (try simp only [List.map_toArray, List.map_cons, List.map_nil]); first | done | rfl | (simp only [List.length_drop, List.length_take]; rfl)) ?_; (with_reducible refine (impl_in.calls (l0_0.length : Int) 2 4 true _ A5.out).mono ?_); rintro e w' ⟨rfl, ⟨nd, rfl⟩⟩; refine ⟨_, rfl, ?_⟩; have hcz15_0 : w3.cell? ⟨gb101, 0, none⟩ = some (.slice A0_0 l0_0.length c0_0) := (Zb BK101.out 0).trans rfl; have hcz15_1 : w3.cell? ⟨gb101, 1, none⟩ = some (.slice A0_1 l0_1.length c0_1) := (Zb BK101.out 1).trans rfl; have hcz15_2 : w3.cell? ⟨gb101, 2, none⟩ = some (.slice A0_2 l0_2.length c0_2) := (Zb BK101.out 2).trans rfl; have hcz15_3 : w3.cell? ⟨gb101, 3, none⟩ = some (.int .i64 a0_3) := (Zb BK101.out 3).trans rfl; have hcz15_4 : w3.cell? ⟨gb101, 4, none⟩ = some (.int .i64 a0_4) := (Zb BK101.out 4).trans rfl; have hfz15_0 := Zc BK101.out 0; have hfz15_1 := Zc BK101.out 1; have hfz15_2 := Zc BK101.out 2; have hfz15_3 := Zc BK101.out 3; have hfz15_4 := Zc BK101.out 4))
    go_meet
    case rel => exact ⟨_, (true), (by first | rfl | (simp; done) | (simp [*]; done)), H', ⟨by first | omega | exact Nat.le_refl _⟩, ⟨by (with_reducible repeat (first | refine Zh ?_ _ | refine Zi ?_ | refine Zg ?_ _)); exact BK101.out⟩, ⟨by repeat (first | (with_reducible first | exact HB.out | apply Ze | apply Za | apply Zd | refine Zf ?_ GE101.out) | exact HB.out)⟩⟩
  ·replace c6 := Bool.eq_false_iff.mpr c6
   subst c6
   rw [if_neg (show ¬ (false = true) by decide)] at H
   have H' := Aside0.mk H
   clear H
   go_wp2_with (first | ((with_reducible refine Zp (f := 44) rfl ?_); refine Zw (some 19) rfl rfl Try.func44 (by kernel_rfl) rfl #[.int .i64 (l0_0.length : Int), .int .i64 2, .int .i64 4] rfl (by (try simp only [List.map_toArray, List.map_cons, List.map_nil]); first | done | rfl | (simp only [List.length_drop, List.length_take]; rfl)) ?_; (with_reducible refine (impl_in.calls (l0_0.length : Int) 2 4 false _ A5.out).mono ?_); rintro e w' ⟨rfl, ⟨nd, rfl⟩⟩; refine ⟨_, rfl, ?_⟩))
   go_meet
   case rel => exact ⟨_, (true), (by first | rfl | (simp; done) | (simp [*]; done)), H', ⟨by first | omega | exact Nat.le_refl _⟩, ⟨by (with_reducible repeat (first | refine Zh ?_ _ | refine Zi ?_ | refine Zg ?_ _)); exact BK101.out⟩, ⟨by repeat (first | (with_reducible first | exact HB.out | apply Ze | apply Za | apply Zd | refine Zf ?_ GE101.out) | exact HB.out)⟩⟩
 case rest =>
  clear HC2
  try clear hcz4_0
  try clear hcz4_1
  try clear hcz4_2
  try clear hcz4_3
  try clear hcz4_4
  try clear hfz4_0
  try clear hfz4_1
  try clear hfz4_2
  try clear hfz4_3
  try clear hfz4_4
  obtain ⟨kq, x49_1, rfl, HA, HJ1, BK101, HB⟩ := hcut
  cases kq with
  | zero => exact absurd HA.out (by simp [impl_isSnap.j0])
  | succ kj1 =>
   have H := HA.out
   clear HA
   simp only [impl_isSnap.j0] at H
   by_cases c16 : x49_1 = true
   ·subst c16
    rw [if_pos rfl] at H
    obtain rfl := Option.some.inj H
    go_wp2
    go_ret
    exact ⟨by first | rfl | (simp [errW_none, errW_some] <;> rfl) | (simp [*, errW_none, errW_some] <;> rfl), by repeat (first | (with_reducible first | exact HB.out | apply Ze | apply Za | apply Zd | refine Zf ?_ GE101.out) | exact HB.out)⟩
   ·replace c16 := Bool.eq_false_iff.mpr c16
    subst c16
    rw [if_neg (show ¬ (false = true) by decide)] at H
    have H' := Aside0.mk H
    clear H
    have hcz17_0 : wc.cell? ⟨gb101, 0, none⟩ = some (.slice A0_0 l0_0.length c0_0) := (Zb BK101.out 0).trans rfl
    have hcz17_1 : wc.cell? ⟨gb101, 1, none⟩ = some (.slice A0_1 l0_1.length c0_1) := (Zb BK101.out 1).trans rfl
    have hcz17_2 : wc.cell? ⟨gb101, 2, none⟩ = some (.slice A0_2 l0_2.length c0_2) := (Zb BK101.out 2).trans rfl
    have hcz17_3 : wc.cell? ⟨gb101, 3, none⟩ = some (.int .i64 a0_3) := (Zb BK101.out 3).trans rfl
    have hcz17_4 : wc.cell? ⟨gb101, 4, none⟩ = some (.int .i64 a0_4) := (Zb BK101.out 4).trans rfl
    have hfz17_0 := Zc BK101.out 0
    have hfz17_1 := Zc BK101.out 1
    have hfz17_2 := Zc BK101.out 2
    have hfz17_3 := Zc BK101.out 3
    have hfz17_4 := Zc BK101.out 4
    go_wp2
    go_loopg [4, 53] kj1 (fun kq v4 v53 w' => ∃ (x4_2 : Int) (x53_2 : Int), v4 = .int .i64 x4_2 ∧ v53 = .int .i64 x53_2 ∧ Aside0 (impl_isSnap.l0 kq (l0_0.length : Int) x4_2 l0_0 (l0_0.length : Int) x53_2 l0_0 l0_1 l0_2 a0_3 a0_4 = some r) ∧ Aside0 (kq ≤ kj1) ∧ Aside0 (w'.heap[gb101]? = some (.cells #[(.slice A0_0 l0_0.length c0_0), (.slice A0_1 l0_1.length c0_1), (.slice A0_2 l0_2.length c0_2), .int .i64 a0_3, .int .i64 a0_4] 35 (0, 0))) ∧ Aside0 (Below w.heap.size w w'))
    case atStart => exact ⟨(0), (0), (by first | rfl | (simp; done) | (simp [*]; done)), (by first | rfl | (simp; done) | (simp [*]; done)), H', ⟨Nat.le_refl _⟩, ⟨by (with_reducible repeat (first | refine Zh ?_ _ | refine Zi ?_ | refine Zg ?_ _)); exact BK101.out⟩, ⟨by repeat (first | (with_reducible first | exact HB.out | apply Ze | apply Za | apply Zd | refine Zf ?_ GE101.out) | exact HB.out)⟩⟩
    case round =>
     clear H'
     try clear c16
     try clear hcz17_0
     try clear hcz17_1
     try clear hcz17_2
     try clear hcz17_3
     try clear hcz17_4
     try clear hcz4_0
     try clear hcz4_1
     try clear hcz4_2
     try clear hcz4_3
     try clear hcz4_4
     try clear hfz17_0
     try clear hfz17_1
     try clear hfz17_2
     try clear hfz17_3
     try clear hfz17_4
     try clear hfz4_0
     try clear hfz4_1
     try clear hfz4_2
     try clear hfz4_3
     try clear hfz4_4
     obtain ⟨x4_2, x53_2, rfl, rfl, HA, HK2, BK101, HB⟩ := hrel
     cases gk with
     | zero => exact absurd HA.out (by simp [impl_isSnap.l0])
     | succ k2 =>
      have H := HA.out
      clear HA
      simp only [impl_isSnap.l0] at H
      by_cases c18 : x53_2 < (l0_0.length : Int)
      ·rw [if_pos c18] at H
       have c18b0 : decide (x53_2 < (l0_0.length : Int)) = true := decide_eq_true c18
       clear c18
       by_cases c19 : 0 ≤ x53_2
       case neg => rw [if_neg c19] at H; exact absurd H (by simp)
       rw [if_pos c19] at H
       have c19b0 : decide (0 ≤ x53_2) = true := decide_eq_true c19
       clear c19
       by_cases c20 : x53_2 < (l0_0.length : Int)
       case neg => rw [if_neg c20] at H; exact absurd H (by simp)
       rw [if_pos c20] at H
       have c20b0 : decide (x53_2 < (l0_0.length : Int)) = true := decide_eq_true c20
       clear c20
       replace H := Option.bind_eq_some_iff.mp H
       obtain ⟨t106, A210, H⟩ := H
       have A21 := Aside0.mk A210
       clear A210
       by_cases c22 : t106 = true
       ·subst c22
        rw [if_pos rfl] at H
        by_cases c23 : x53_2 < (l0_2.length : Int)
        case neg => rw [if_neg c23] at H; exact absurd H (by simp)
        rw [if_pos c23] at H
        have c23b0 : decide (x53_2 < (l0_2.length : Int)) = true := decide_eq_true c23
        clear c23
        replace H := Option.bind_eq_some_iff.mp H
        obtain ⟨t108, A240, H⟩ := H
        have A24 := Aside0.mk A240
        clear A240
        by_cases c25 : t108 = true
        ·subst c25
         rw [if_pos rfl] at H
         have H' := Aside0.mk H
         clear H
         have p105 : 0 ≤ (x53_2 : Int) := of_decide_eq_true (by assumption)
         have q105 : x53_2 < (l0_0.length : Int) := of_decide_eq_true (by assumption)
         obtain ⟨ad105, e105, hx105_0⟩ := Kd.at_int HR0_0.out x53_2 p105 q105
         cases e105
         replace hx105_0 := (HB.out.cell (World.block_lt_of_cell? w _ hx105_0)).trans hx105_0
         replace p105 := eq_true p105
         replace q105 := eq_true q105
         go_wp2_with (first | ((with_reducible refine Zp (f := 44) rfl ?_); refine Zw (some 59) rfl rfl Try.func44 (by kernel_rfl) rfl #[.int .i64 (rd l0_0 x53_2), .int .i64 0, .int .i64 1000] rfl (by (try simp only [List.map_toArray, List.map_cons, List.map_nil]); first | done | rfl | (simp only [List.length_drop, List.length_take]; rfl)) ?_; (with_reducible refine (impl_in.calls (rd l0_0 x53_2) 0 1000 true _ A21.out).mono ?_); rintro e w' ⟨rfl, ⟨nd, rfl⟩⟩; refine ⟨_, rfl, ?_⟩; have hcz26_0 : wr.cell? ⟨gb101, 0, none⟩ = some (.slice (some ad105) l0_0.length c0_0) := (Zb BK101.out 0).trans rfl; have hcz26_1 : wr.cell? ⟨gb101, 1, none⟩ = some (.slice A0_1 l0_1.length c0_1) := (Zb BK101.out 1).trans rfl; have hcz26_2 : wr.cell? ⟨gb101, 2, none⟩ = some (.slice A0_2 l0_2.length c0_2) := (Zb BK101.out 2).trans rfl; have hcz26_3 : wr.cell? ⟨gb101, 3, none⟩ = some (.int .i64 a0_3) := (Zb BK101.out 3).trans rfl; have hcz26_4 : wr.cell? ⟨gb101, 4, none⟩ = some (.int .i64 a0_4) := (Zb BK101.out 4).trans rfl; have hfz26_0 := Zc BK101.out 0; have hfz26_1 := Zc BK101.out 1; have hfz26_2 := Zc BK101.out 2; have hfz26_3 := Zc BK101.out 3; have hfz26_4 := Zc BK101.out 4; have p107 : 0 ≤ (x53_2 : Int) := of_decide_eq_true (by assumption); have q107 : x53_2 < (l0_2.length : Int) := of_decide_eq_true (by assumption); obtain ⟨ad107, A107_2, c107_2, A107_3, c107_3, e107, hx107_0, hx107_1, hx107_2, hx107_3, hl107_2, hi107_2, hl107_3, hi107_3⟩ := at_T76 HR0_2.out x53_2 p107 q107; cases e107; replace hx107_0 := (HB.out.cell (World.block_lt_of_cell? w _ hx107_0)).trans hx107_0; replace hx107_1 := (HB.out.cell (World.block_lt_of_cell? w _ hx107_1)).trans hx107_1; replace hx107_2 := (HB.out.cell (World.block_lt_of_cell? w _ hx107_2)).trans hx107_2; replace hx107_3 := (HB.out.cell (World.block_lt_of_cell? w _ hx107_3)).trans hx107_3; have HR107_2 := Aside0.mk hi107_2; have HC107_2 := Aside0.mk hl107_2; clear hi107_2 hl107_2; have HR107_3 := Aside0.mk hi107_3; have HC107_3 := Aside0.mk hl107_3; clear hi107_3 hl107_3; replace p107 := eq_true p107; replace q107 := eq_true q107) | (go_at_call 100; (with_reducible refine (impl_isPicture.calls k2 ((rd_T76 l0_2 x53_2).f0) ((rd_T76 l0_2 x53_2).f1) _ _ ((rd_T76 l0_2 x53_2).f2) _ _ ((rd_T76 l0_2 x53_2).f3) x53_2 (l0_0.length : Int) true _ ?side1 ?side2 ?side3 ?side4 A24.out).mono ?_); (case side1 => repeat (first | exact (Kd.C_below HR107_2.out (by repeat (first | (with_reducible first | exact HB.out | apply Ze | apply Za | apply Zd | refine Zf ?_ GE101.out) | exact HB.out))) | (with_reducible refine Kd.C_alloc ?_ _) | (with_reducible refine Kd.C_drewN ?_ _) | (with_reducible refine Kd.C_drew ?_))); (case side2 => exact HC107_2.out); (case side3 => repeat (first | exact (Kd.C_below HR107_3.out (by repeat (first | (with_reducible first | exact HB.out | apply Ze | apply Za | apply Zd | refine Zf ?_ GE101.out) | exact HB.out))) | (with_reducible refine Kd.C_alloc ?_ _) | (with_reducible refine Kd.C_drewN ?_ _) | (with_reducible refine Kd.C_drew ?_))); (case side4 => exact HC107_3.out); rintro e w27 ⟨rfl, hb⟩; have n0_ := Aside0.mk (Zq (g := gb101) (o := .cells #[.slice (some ad105) l0_0.length c0_0, .slice A0_1 l0_1.length c0_1, .slice (some ad107) l0_2.length c0_2, .int .i64 a0_3, .int .i64 a0_4] 35 (0, 0)) (by (with_reducible repeat (first | refine Zh ?_ _ | refine Zi ?_ | refine Zg ?_ _)); exact BK101.out) hb); have n1_ := Aside0.mk (Zo (by repeat (first | (with_reducible first | exact HB.out | apply Ze | apply Za | apply Zd | refine Zf ?_ GE101.out) | exact HB.out)) hb); clear BK101; clear HB; have BK101 := n0_; have HB := n1_; clear n0_ n1_; (try clear hb)))
         go_roundg k2
         case measure => have := HJ1.out; have := HK2.out; omega
         case rel => exact ⟨(wrap64 (x4_2 + (rd l0_0 x53_2))), (wrap64 (x53_2 + 1)), (by first | rfl | (simp; done) | (simp [*]; done)), (by first | rfl | (simp; done) | (simp [*]; done)), H', ⟨by have := HJ1.out; have := HK2.out; omega⟩, ⟨by (with_reducible repeat (first | refine Zh ?_ _ | refine Zi ?_ | refine Zg ?_ _)); exact BK101.out⟩, ⟨by repeat (first | (with_reducible first | exact HB.out | apply Ze | apply Za | apply Zd | refine Zf ?_ GE101.out) | exact HB.out)⟩⟩
        ·replace c25 := Bool.eq_false_iff.mpr c25
         subst c25
         rw [if_neg (show ¬ (false = true) by decide)] at H
         obtain rfl := Option.some.inj H
         have p105 : 0 ≤ (x53_2 : Int) := of_decide_eq_true (by assumption)
         have q105 : x53_2 < (l0_0.length : Int) := of_decide_eq_true (by assumption)
         obtain ⟨ad105, e105, hx105_0⟩ := Kd.at_int HR0_0.out x53_2 p105 q105
         cases e105
         replace hx105_0 := (HB.out.cell (World.block_lt_of_cell? w _ hx105_0)).trans hx105_0
         replace p105 := eq_true p105
         replace q105 := eq_true q105
         go_wp2_with (first | ((with_reducible refine Zp (f := 44) rfl ?_); refine Zw (some 59) rfl rfl Try.func44 (by kernel_rfl) rfl #[.int .i64 (rd l0_0 x53_2), .int .i64 0, .int .i64 1000] rfl (by (try simp only [List.map_toArray, List.map_cons, List.map_nil]); first | done | rfl | (simp only [List.length_drop, List.length_take]; rfl)) ?_; (with_reducible refine (impl_in.calls (rd l0_0 x53_2) 0 1000 true _ A21.out).mono ?_); rintro e w' ⟨rfl, ⟨nd, rfl⟩⟩; refine ⟨_, rfl, ?_⟩; have hcz28_0 : wr.cell? ⟨gb101, 0, none⟩ = some (.slice (some ad105) l0_0.length c0_0) := (Zb BK101.out 0).trans rfl; have hcz28_1 : wr.cell? ⟨gb101, 1, none⟩ = some (.slice A0_1 l0_1.length c0_1) := (Zb BK101.out 1).trans rfl; have hcz28_2 : wr.cell? ⟨gb101, 2, none⟩ = some (.slice A0_2 l0_2.length c0_2) := (Zb BK101.out 2).trans rfl; have hcz28_3 : wr.cell? ⟨gb101, 3, none⟩ = some (.int .i64 a0_3) := (Zb BK101.out 3).trans rfl; have hcz28_4 : wr.cell? ⟨gb101, 4, none⟩ = some (.int .i64 a0_4) := (Zb BK101.out 4).trans rfl; have hfz28_0 := Zc BK101.out 0; have hfz28_1 := Zc BK101.out 1; have hfz28_2 := Zc BK101.out 2; have hfz28_3 := Zc BK101.out 3; have hfz28_4 := Zc BK101.out 4; have p107 : 0 ≤ (x53_2 : Int) := of_decide_eq_true (by assumption); have q107 : x53_2 < (l0_2.length : Int) := of_decide_eq_true (by assumption); obtain ⟨ad107, A107_2, c107_2, A107_3, c107_3, e107, hx107_0, hx107_1, hx107_2, hx107_3, hl107_2, hi107_2, hl107_3, hi107_3⟩ := at_T76 HR0_2.out x53_2 p107 q107; cases e107; replace hx107_0 := (HB.out.cell (World.block_lt_of_cell? w _ hx107_0)).trans hx107_0; replace hx107_1 := (HB.out.cell (World.block_lt_of_cell? w _ hx107_1)).trans hx107_1; replace hx107_2 := (HB.out.cell (World.block_lt_of_cell? w _ hx107_2)).trans hx107_2; replace hx107_3 := (HB.out.cell (World.block_lt_of_cell? w _ hx107_3)).trans hx107_3; have HR107_2 := Aside0.mk hi107_2; have HC107_2 := Aside0.mk hl107_2; clear hi107_2 hl107_2; have HR107_3 := Aside0.mk hi107_3; have HC107_3 := Aside0.mk hl107_3; clear hi107_3 hl107_3; replace p107 := eq_true p107; replace q107 := eq_true q107) | (go_at_call 100; (with_reducible refine (impl_isPicture.calls k2 ((rd_T76 l0_2 x53_2).f0) ((rd_T76 l0_2 x53_2).f1) _ _ ((rd_T76 l0_2 x53_2).f2) _ _ ((rd_T76 l0_2 x53_2).f3) x53_2 (l0_0.length : Int) false _ ?side1 ?side2 ?side3 ?side4 A24.out).mono ?_); (case side1 => repeat (first | exact (Kd.C_below HR107_2.out (by repeat (first | (with_reducible first | exact HB.out | apply Ze | apply Za | apply Zd | refine Zf ?_ GE101.out) | exact HB.out))) | (with_reducible refine Kd.C_alloc ?_ _) | (with_reducible refine Kd.C_drewN ?_ _) | (with_reducible refine Kd.C_drew ?_))); (case side2 => exact HC107_2.out); (case side3 => repeat (first | exact (Kd.C_below HR107_3.out (by repeat (first | (with_reducible first | exact HB.out | apply Ze | apply Za | apply Zd | refine Zf ?_ GE101.out) | exact HB.out))) | (with_reducible refine Kd.C_alloc ?_ _) | (with_reducible refine Kd.C_drewN ?_ _) | (with_reducible refine Kd.C_drew ?_))); (case side4 => exact HC107_3.out); rintro e w29 ⟨rfl, hb⟩; have n0_ := Aside0.mk (Zq (g := gb101) (o := .cells #[.slice (some ad105) l0_0.length c0_0, .slice A0_1 l0_1.length c0_1, .slice (some ad107) l0_2.length c0_2, .int .i64 a0_3, .int .i64 a0_4] 35 (0, 0)) (by (with_reducible repeat (first | refine Zh ?_ _ | refine Zi ?_ | refine Zg ?_ _)); exact BK101.out) hb); have n1_ := Aside0.mk (Zo (by repeat (first | (with_reducible first | exact HB.out | apply Ze | apply Za | apply Zd | refine Zf ?_ GE101.out) | exact HB.out)) hb); clear BK101; clear HB; have BK101 := n0_; have HB := n1_; clear n0_ n1_; (try clear hb)))
         go_ret
         exact ⟨by first | rfl | (simp [errW_none, errW_some] <;> rfl) | (simp [*, errW_none, errW_some] <;> rfl), by repeat (first | (with_reducible first | exact HB.out | apply Ze | apply Za | apply Zd | refine Zf ?_ GE101.out) | exact HB.out)⟩
       ·replace c22 := Bool.eq_false_iff.mpr c22
        subst c22
        rw [if_neg (show ¬ (false = true) by decide)] at H
        obtain rfl := Option.some.inj H
        have p105 : 0 ≤ (x53_2 : Int) := of_decide_eq_true (by assumption)
        have q105 : x53_2 < (l0_0.length : Int) := of_decide_eq_true (by assumption)
        obtain ⟨ad105, e105, hx105_0⟩ := Kd.at_int HR0_0.out x53_2 p105 q105
        cases e105
        replace hx105_0 := (HB.out.cell (World.block_lt_of_cell? w _ hx105_0)).trans hx105_0
        replace p105 := eq_true p105
        replace q105 := eq_true q105
        go_wp2_with (first | ((with_reducible refine Zp (f := 44) rfl ?_); refine Zw (some 59) rfl rfl Try.func44 (by kernel_rfl) rfl #[.int .i64 (rd l0_0 x53_2), .int .i64 0, .int .i64 1000] rfl (by (try simp only [List.map_toArray, List.map_cons, List.map_nil]); first | done | rfl | (simp only [List.length_drop, List.length_take]; rfl)) ?_; (with_reducible refine (impl_in.calls (rd l0_0 x53_2) 0 1000 false _ A21.out).mono ?_); rintro e w' ⟨rfl, ⟨nd, rfl⟩⟩; refine ⟨_, rfl, ?_⟩))
        go_ret
        exact ⟨by first | rfl | (simp [errW_none, errW_some] <;> rfl) | (simp [*, errW_none, errW_some] <;> rfl), by repeat (first | (with_reducible first | exact HB.out | apply Ze | apply Za | apply Zd | refine Zf ?_ GE101.out) | exact HB.out)⟩
      ·rw [if_neg c18] at H
       have c18b0 : decide (x53_2 < (l0_0.length : Int)) = false := decide_eq_false c18
       clear c18
       replace H := Option.bind_eq_some_iff.mp H
       obtain ⟨⟨t109, t112, t115, t118, t119⟩, A300, H⟩ := H
       replace H : (impl_isSnap.l1 k2 x4_2 l0_1 (l0_1.length : Int) 0 l0_0 l0_1 l0_2 a0_3 a0_4 t109 t112 t115 t118 t119) = some r := H
       have A30 := Aside0.mk A300
       clear A300
       have H' := Aside0.mk H
       clear H
       go_wp2_with (first | ((with_reducible refine Zp (f := 53) rfl ?_); refine Zw (some 77) rfl rfl Try.func53 (by kernel_rfl) rfl #[.int .i64 (l0_0.length : Int), .int .i64 0] rfl (by (try simp only [List.map_toArray, List.map_cons, List.map_nil]); first | done | rfl | (simp only [List.length_drop, List.length_take]; rfl)) ?_; (with_reducible refine (impl_newSnap.calls k2 (l0_0.length : Int) 0 t109 t112 t115 t118 t119 _ A30.out).mono ?_); rintro e w31 ⟨v110, v113, v116, rfl, ho0, ho1, ho2, hb⟩; refine ⟨_, rfl, ?_⟩; have n0_ := Aside0.mk (Kd.R_lower ho0 (Zn (by repeat (first | (with_reducible first | exact HB.out | apply Ze | apply Za | apply Zd | refine Zf ?_ GE101.out) | exact HB.out)))); have n1_ := Aside0.mk (Kd.S_lower ho1 (Zn (by repeat (first | (with_reducible first | exact HB.out | apply Ze | apply Za | apply Zd | refine Zf ?_ GE101.out) | exact HB.out)))); have n2_ := Aside0.mk (Kd.S_lower ho2 (Zn (by repeat (first | (with_reducible first | exact HB.out | apply Ze | apply Za | apply Zd | refine Zf ?_ GE101.out) | exact HB.out)))); have n3_ := Aside0.mk (Zq (g := gb101) (o := .cells #[.slice A0_0 l0_0.length c0_0, .slice A0_1 l0_1.length c0_1, .slice A0_2 l0_2.length c0_2, .int .i64 a0_3, .int .i64 a0_4] 35 (0, 0)) (by (with_reducible repeat (first | refine Zh ?_ _ | refine Zi ?_ | refine Zg ?_ _)); exact BK101.out) hb); have n4_ := Aside0.mk (Zo (by repeat (first | (with_reducible first | exact HB.out | apply Ze | apply Za | apply Zd | refine Zf ?_ GE101.out) | exact HB.out)) hb); clear BK101; clear HB; have HO111 := n0_; have HO114 := n1_; have HO117 := n2_; have BK101 := n3_; have HB := n4_; clear n0_ n1_ n2_ n3_ n4_; (try clear hb); (try clear ho0); (try clear ho1); (try clear ho2)) | ((with_reducible refine Zv (N := 7) rfl ?_); (try (refine gate_guard (by rfl) ?_; dsimp only)); refine Zt ?hg (N := 7) ?hd (cs := #[.slice none 0 0, .slice none 0 0, .slice none 0 0, .int .i64 0, .int .i64 0]) (t := 35) ?hr ?_; (case hd => rfl); (case hg => rfl); (case hr => first | (go_simp; done) | (go_simp; rfl)); intro gb120 hg w32 hbox hb; have n0_ := Aside0.mk (Kd.R_below (by (with_reducible repeat (first | apply Kd.R_alloc | apply Kd.R_drewN | apply Kd.R_drew)); exact HO111.out) hb); have n1_ := Aside0.mk (Kd.S_below (by (with_reducible repeat (first | apply Kd.S_alloc | apply Kd.S_drewN | apply Kd.S_drew)); exact HO114.out) hb); have n2_ := Aside0.mk (Kd.S_below (by (with_reducible repeat (first | apply Kd.S_alloc | apply Kd.S_drewN | apply Kd.S_drew)); exact HO117.out) hb); have n3_ := Aside0.mk (Zq (g := gb101) (o := .cells #[.slice A0_0 l0_0.length c0_0, .slice A0_1 l0_1.length c0_1, .slice A0_2 l0_2.length c0_2, .int .i64 a0_3, .int .i64 a0_4] 35 (0, 0)) (by (with_reducible repeat (first | refine Zh ?_ _ | refine Zi ?_ | refine Zg ?_ _)); exact BK101.out) hb); have n4_ := Aside0.mk (Zo (by repeat (first | (with_reducible first | exact HB.out | apply Ze | apply Za | apply Zd | refine Zf ?_ GE101.out) | exact HB.out)) hb); have n5_ := Aside0.mk (hbox); have n6_ := Aside0.mk ((by rw [hg]; exact (Zn (by repeat (first | (with_reducible first | exact HB.out | apply Ze | apply Za | apply Zd | refine Zf ?_ GE101.out) | exact HB.out))) : w.heap.size ≤ gb120)); have n7_ := n6_; have n8_ := Aside0.mk ((by rw [hg]; exact Nat.ne_of_lt (Zx (g := gb101) (o := .cells #[.slice A0_0 l0_0.length c0_0, .slice A0_1 l0_1.length c0_1, .slice A0_2 l0_2.length c0_2, .int .i64 a0_3, .int .i64 a0_4] 35 (0, 0)) (by (with_reducible repeat (first | refine Zh ?_ _ | refine Zi ?_ | refine Zg ?_ _)); exact BK101.out)) : gb101 ≠ gb120)); have n9_ := Aside0.mk n8_.out.symm; clear HO111; clear HO114; clear HO117; clear BK101; clear HB; have HO111 := n0_; have HO114 := n1_; have HO117 := n2_; have BK101 := n3_; have HB := n4_; have BK120 := n5_; have GW120 := n6_; have GE120 := n7_; have NB101_120 := n8_; have NB120_101 := n9_; clear n0_ n1_ n2_ n3_ n4_ n5_ n6_ n7_ n8_ n9_; clear hb hbox hg; obtain ⟨Ao33, co33, eo33⟩ := Kd.R_slice HO111.out; subst eo33; have hnb34 := NB120_101.out; have hnc34 := NB101_120.out; have hcz35_0 : w32.cell? ⟨gb120, 0, none⟩ = some (.slice none 0 0) := (Zb BK120.out 0).trans rfl; have hcz35_1 : w32.cell? ⟨gb120, 1, none⟩ = some (.slice none 0 0) := (Zb BK120.out 1).trans rfl; have hcz35_2 : w32.cell? ⟨gb120, 2, none⟩ = some (.slice none 0 0) := (Zb BK120.out 2).trans rfl; have hcz35_3 : w32.cell? ⟨gb120, 3, none⟩ = some (.int .i64 0) := (Zb BK120.out 3).trans rfl; have hcz35_4 : w32.cell? ⟨gb120, 4, none⟩ = some (.int .i64 0) := (Zb BK120.out 4).trans rfl; have hfz35_0 := Zc BK120.out 0; have hfz35_1 := Zc BK120.out 1; have hfz35_2 := Zc BK120.out 2; have hfz35_3 := Zc BK120.out 3; have hfz35_4 := Zc BK120.out 4; obtain ⟨Ao36, co36, eo36⟩ := Kd.S_slice HO114.out; subst eo36; obtain ⟨Ao37, co37, eo37⟩ := Kd.S_slice HO117.out; subst eo37; have hcz38_0 : w32.cell? ⟨gb101, 0, none⟩ = some (.slice A0_0 l0_0.length c0_0) := (Zb BK101.out 0).trans rfl; have hcz38_1 : w32.cell? ⟨gb101, 1, none⟩ = some (.slice A0_1 l0_1.length c0_1) := (Zb BK101.out 1).trans rfl; have hcz38_2 : w32.cell? ⟨gb101, 2, none⟩ = some (.slice A0_2 l0_2.length c0_2) := (Zb BK101.out 2).trans rfl; have hcz38_3 : w32.cell? ⟨gb101, 3, none⟩ = some (.int .i64 a0_3) := (Zb BK101.out 3).trans rfl; have hcz38_4 : w32.cell? ⟨gb101, 4, none⟩ = some (.int .i64 a0_4) := (Zb BK101.out 4).trans rfl; have hfz38_0 := Zc BK101.out 0; have hfz38_1 := Zc BK101.out 1; have hfz38_2 := Zc BK101.out 2; have hfz38_3 := Zc BK101.out 3; have hfz38_4 := Zc BK101.out 4))
       go_loopg [81] k2 (fun kq v81 w' => ∃ (x81_3 : Int), v81 = .int .i64 x81_3 ∧ Aside0 (impl_isSnap.l1 kq x4_2 l0_1 (l0_1.length : Int) x81_3 l0_0 l0_1 l0_2 a0_3 a0_4 t109 t112 t115 t118 t119 = some r) ∧ Aside0 (kq ≤ k2) ∧ Aside0 (Kd.R (Kd.int .i64) 3 w' w.heap.size (fun _ => True) (.slice Ao33 t109.length co33) t109) ∧ Aside0 (Kd.S k94 94 w' w.heap.size (fun k_ => some k_ ≠ ((.slice Ao33 t109.length co33) : Value).ownBlock) (.slice Ao36 t112.length co36) t112) ∧ Aside0 (Kd.S k76 76 w' w.heap.size (fun k_ => some k_ ≠ ((.slice Ao33 t109.length co33) : Value).ownBlock) (.slice Ao37 t115.length co37) t115) ∧ Aside0 (w'.heap[gb101]? = some (.cells #[(.slice A0_0 l0_0.length c0_0), (.slice A0_1 l0_1.length c0_1), (.slice A0_2 l0_2.length c0_2), .int .i64 a0_3, .int .i64 a0_4] 35 (0, 0))) ∧ Aside0 (w'.heap[gb120]? = some (.cells #[(.slice Ao33 t109.length co33), (.slice Ao36 t112.length co36), (.slice Ao37 t115.length co37), .int .i64 t118, .int .i64 t119] 35 (0, 0))) ∧ Aside0 (Below w.heap.size w w'))
       case atStart => exact ⟨(0), (by first | rfl | (simp; done) | (simp [*]; done)), H', ⟨Nat.le_refl _⟩, ⟨by (with_reducible repeat (first | apply Kd.R_alloc | apply Kd.R_drewN | apply Kd.R_drew)); exact Kd.R_mono (Kd.R_far (p := ⟨gb120, 4, none⟩) (Kd.R_far (p := ⟨gb120, 3, none⟩) (Kd.R_far (p := ⟨gb120, 2, none⟩) (Kd.R_far (p := ⟨gb120, 1, none⟩) (Kd.R_far (p := ⟨gb120, 0, none⟩) (Kd.R_types HO111.out BK120.out (by decide)) (fun _ hk => hk.2) (.slice Ao33 t109.length co33)) (fun _ hk => hk.2) (.slice Ao36 t112.length co36)) (fun _ hk => hk.2) (.slice Ao37 t115.length co37)) (fun _ hk => hk.2) (.int .i64 t118)) (fun _ hk => hk.2) (.int .i64 t119)) (fun _ hk => trivial)⟩, ⟨by (with_reducible repeat (first | apply Kd.S_alloc | apply Kd.S_drewN | apply Kd.S_drew)); exact Kd.S_mono (Kd.S_far (p := ⟨gb120, 4, none⟩) (Kd.S_far (p := ⟨gb120, 3, none⟩) (Kd.S_far (p := ⟨gb120, 2, none⟩) (Kd.S_far (p := ⟨gb120, 1, none⟩) (Kd.S_far (p := ⟨gb120, 0, none⟩) (Kd.S_types HO114.out BK120.out (by decide)) (fun _ hk => hk.2) (.slice Ao33 t109.length co33)) (fun _ hk => hk.2) (.slice Ao36 t112.length co36)) (fun _ hk => hk.2) (.slice Ao37 t115.length co37)) (fun _ hk => hk.2) (.int .i64 t118)) (fun _ hk => hk.2) (.int .i64 t119)) (fun _ hk => hk.1)⟩, ⟨by (with_reducible repeat (first | apply Kd.S_alloc | apply Kd.S_drewN | apply Kd.S_drew)); exact Kd.S_mono (Kd.S_far (p := ⟨gb120, 4, none⟩) (Kd.S_far (p := ⟨gb120, 3, none⟩) (Kd.S_far (p := ⟨gb120, 2, none⟩) (Kd.S_far (p := ⟨gb120, 1, none⟩) (Kd.S_far (p := ⟨gb120, 0, none⟩) (Kd.S_types HO117.out BK120.out (by decide)) (fun _ hk => hk.2) (.slice Ao33 t109.length co33)) (fun _ hk => hk.2) (.slice Ao36 t112.length co36)) (fun _ hk => hk.2) (.slice Ao37 t115.length co37)) (fun _ hk => hk.2) (.int .i64 t118)) (fun _ hk => hk.2) (.int .i64 t119)) (fun _ hk => hk.1)⟩, ⟨by (with_reducible repeat (first | refine Zh ?_ _ | refine Zi ?_ | refine Zg ?_ _)); refine Zs ?_ NB101_120.out _; (with_reducible repeat (first | refine Zh ?_ _ | refine Zi ?_ | refine Zg ?_ _)); refine Zs ?_ NB101_120.out _; (with_reducible repeat (first | refine Zh ?_ _ | refine Zi ?_ | refine Zg ?_ _)); refine Zs ?_ NB101_120.out _; (with_reducible repeat (first | refine Zh ?_ _ | refine Zi ?_ | refine Zg ?_ _)); refine Zs ?_ NB101_120.out _; (with_reducible repeat (first | refine Zh ?_ _ | refine Zi ?_ | refine Zg ?_ _)); refine Zs ?_ NB101_120.out _; (with_reducible repeat (first | refine Zh ?_ _ | refine Zi ?_ | refine Zg ?_ _)); exact BK101.out⟩, ⟨by (with_reducible repeat (first | refine Zh ?_ _ | refine Zi ?_ | refine Zg ?_ _)); refine Zu (cs := #[.slice Ao33 t109.length co33, .slice Ao36 t112.length co36, .slice Ao37 t115.length co37, .int .i64 t118, .int .i64 0]) ?_ 4 _ rfl; (with_reducible repeat (first | refine Zh ?_ _ | refine Zi ?_ | refine Zg ?_ _)); refine Zu (cs := #[.slice Ao33 t109.length co33, .slice Ao36 t112.length co36, .slice Ao37 t115.length co37, .int .i64 0, .int .i64 0]) ?_ 3 _ rfl; (with_reducible repeat (first | refine Zh ?_ _ | refine Zi ?_ | refine Zg ?_ _)); refine Zu (cs := #[.slice Ao33 t109.length co33, .slice Ao36 t112.length co36, .slice none 0 0, .int .i64 0, .int .i64 0]) ?_ 2 _ rfl; (with_reducible repeat (first | refine Zh ?_ _ | refine Zi ?_ | refine Zg ?_ _)); refine Zu (cs := #[.slice Ao33 t109.length co33, .slice none 0 0, .slice none 0 0, .int .i64 0, .int .i64 0]) ?_ 1 _ rfl; (with_reducible repeat (first | refine Zh ?_ _ | refine Zi ?_ | refine Zg ?_ _)); refine Zu (cs := #[.slice none 0 0, .slice none 0 0, .slice none 0 0, .int .i64 0, .int .i64 0]) ?_ 0 _ rfl; (with_reducible repeat (first | refine Zh ?_ _ | refine Zi ?_ | refine Zg ?_ _)); exact BK120.out⟩, ⟨by repeat (first | (with_reducible first | exact HB.out | apply Ze | apply Za | apply Zd | refine Zf ?_ GE101.out | refine Zf ?_ GE120.out) | exact HB.out)⟩⟩
       case round =>
        clear H'
        try clear c16
        try clear c18
        try clear c18b0
        try clear hcz17_0
        try clear hcz17_1
        try clear hcz17_2
        try clear hcz17_3
        try clear hcz17_4
        try clear hcz35_0
        try clear hcz35_1
        try clear hcz35_2
        try clear hcz35_3
        try clear hcz35_4
        try clear hcz38_0
        try clear hcz38_1
        try clear hcz38_2
        try clear hcz38_3
        try clear hcz38_4
        try clear hcz4_0
        try clear hcz4_1
        try clear hcz4_2
        try clear hcz4_3
        try clear hcz4_4
        try clear hfz17_0
        try clear hfz17_1
        try clear hfz17_2
        try clear hfz17_3
        try clear hfz17_4
        try clear hfz35_0
        try clear hfz35_1
        try clear hfz35_2
        try clear hfz35_3
        try clear hfz35_4
        try clear hfz38_0
        try clear hfz38_1
        try clear hfz38_2
        try clear hfz38_3
        try clear hfz38_4
        try clear hfz4_0
        try clear hfz4_1
        try clear hfz4_2
        try clear hfz4_3
        try clear hfz4_4
        obtain ⟨x81_3, rfl, HA, HK3, HO_121000, HO_121001, HO_121002, BK101, BK120, HB⟩ := hrel
        cases gk with
        | zero => exact absurd HA.out (by simp [impl_isSnap.l1])
        | succ k3 =>
         have H := HA.out
         clear HA
         simp only [impl_isSnap.l1] at H
         by_cases c39 : x81_3 < (l0_1.length : Int)
         ·rw [if_pos c39] at H
          have c39b0 : decide (x81_3 < (l0_1.length : Int)) = true := decide_eq_true c39
          clear c39
          by_cases c40 : 0 ≤ x81_3
          case neg => rw [if_neg c40] at H; exact absurd H (by simp)
          rw [if_pos c40] at H
          have c40b0 : decide (0 ≤ x81_3) = true := decide_eq_true c40
          clear c40
          by_cases c41 : x81_3 < (l0_1.length : Int)
          case neg => rw [if_neg c41] at H; exact absurd H (by simp)
          rw [if_pos c41] at H
          have c41b0 : decide (x81_3 < (l0_1.length : Int)) = true := decide_eq_true c41
          clear c41
          have HC42 := Aside0.mk H
          clear H
          have p122 : 0 ≤ (x81_3 : Int) := of_decide_eq_true (by assumption)
          have q122 : x81_3 < (l0_1.length : Int) := of_decide_eq_true (by assumption)
          obtain ⟨ad122, A122_2, c122_2, e122, hx122_0, hx122_1, hx122_2, hl122_2, hi122_2⟩ := at_T94 HR0_1.out x81_3 p122 q122
          cases e122
          replace hx122_0 := (HB.out.cell (World.block_lt_of_cell? w _ hx122_0)).trans hx122_0
          replace hx122_1 := (HB.out.cell (World.block_lt_of_cell? w _ hx122_1)).trans hx122_1
          replace hx122_2 := (HB.out.cell (World.block_lt_of_cell? w _ hx122_2)).trans hx122_2
          have HR122_2 := Aside0.mk hi122_2
          have HC122_2 := Aside0.mk hl122_2
          clear hi122_2 hl122_2
          replace p122 := eq_true p122
          replace q122 := eq_true q122
          go_upto_region 16 with (first | ((with_reducible refine Zv (N := 9) rfl ?_); (try (refine gate_guard (by rfl) ?_; dsimp only)); refine Zt ?hg (N := 9) ?hd (cs := #[.int .i64 0, .int .i64 0, .slice none 0 0]) (t := 94) ?hr ?_; (case hd => rfl); (case hg => rfl); (case hr => first | (go_simp; done) | (go_simp; rfl)); intro gb123 hg w43 hbox hb; have n0_ := Aside0.mk (Kd.R_below (by (with_reducible repeat (first | apply Kd.R_alloc | apply Kd.R_drewN | apply Kd.R_drew)); exact HO_121000.out) hb); have n1_ := Aside0.mk (Kd.S_below (Kd.S_elderB (by (with_reducible repeat (first | apply Kd.S_alloc | apply Kd.S_drewN | apply Kd.S_drew)); exact HO_121001.out) gb123 (Nat.le_of_eq hg.symm)) hb); have n2_ := Aside0.mk (Kd.S_below (by (with_reducible repeat (first | apply Kd.S_alloc | apply Kd.S_drewN | apply Kd.S_drew)); exact HO_121002.out) hb); have n3_ := Aside0.mk (Zq (g := gb101) (o := .cells #[.slice A0_0 l0_0.length c0_0, .slice (some ad122) l0_1.length c0_1, .slice A0_2 l0_2.length c0_2, .int .i64 a0_3, .int .i64 a0_4] 35 (0, 0)) (by (with_reducible repeat (first | refine Zh ?_ _ | refine Zi ?_ | refine Zg ?_ _)); exact BK101.out) hb); have n4_ := Aside0.mk (Zq (g := gb120) (o := .cells #[.slice Ao33 t109.length co33, .slice Ao36 t112.length co36, .slice Ao37 t115.length co37, .int .i64 t118, .int .i64 t119] 35 (0, 0)) (by (with_reducible repeat (first | refine Zh ?_ _ | refine Zi ?_ | refine Zg ?_ _)); exact BK120.out) hb); have n5_ := Aside0.mk (Zo (by repeat (first | (with_reducible first | exact HB.out | apply Ze | apply Za | apply Zd | refine Zf ?_ GE101.out | refine Zf ?_ GE120.out) | exact HB.out)) hb); have n6_ := Aside0.mk (hbox); have n7_ := Aside0.mk ((by rw [hg]; exact (Zn (by repeat (first | (with_reducible first | exact HB.out | apply Ze | apply Za | apply Zd | refine Zf ?_ GE101.out | refine Zf ?_ GE120.out) | exact HB.out))) : w.heap.size ≤ gb123)); have n8_ := n7_; have n9_ := Aside0.mk ((by rw [hg]; exact Nat.ne_of_lt (Zx (g := gb101) (o := .cells #[.slice A0_0 l0_0.length c0_0, .slice (some ad122) l0_1.length c0_1, .slice A0_2 l0_2.length c0_2, .int .i64 a0_3, .int .i64 a0_4] 35 (0, 0)) (by (with_reducible repeat (first | refine Zh ?_ _ | refine Zi ?_ | refine Zg ?_ _)); exact BK101.out)) : gb101 ≠ gb123)); have n10_ := Aside0.mk n9_.out.symm; have n11_ := Aside0.mk ((by rw [hg]; exact Nat.ne_of_lt (Zx (g := gb120) (o := .cells #[.slice Ao33 t109.length co33, .slice Ao36 t112.length co36, .slice Ao37 t115.length co37, .int .i64 t118, .int .i64 t119] 35 (0, 0)) (by (with_reducible repeat (first | refine Zh ?_ _ | refine Zi ?_ | refine Zg ?_ _)); exact BK120.out)) : gb120 ≠ gb123)); have n12_ := Aside0.mk n11_.out.symm; clear HO_121000; clear HO_121001; clear HO_121002; clear BK101; clear BK120; clear HB; have HO_121000 := n0_; have HO_121001 := n1_; have HO_121002 := n2_; have BK101 := n3_; have BK120 := n4_; have HB := n5_; have BK123 := n6_; have GW123 := n7_; have GE123 := n8_; have NB101_123 := n9_; have NB123_101 := n10_; have NB120_123 := n11_; have NB123_120 := n12_; clear n0_ n1_ n2_ n3_ n4_ n5_ n6_ n7_ n8_ n9_ n10_ n11_ n12_; clear hb hbox hg; have hnb44 := NB123_101.out; have hnc44 := NB101_123.out; have hnb45 := NB123_120.out; have hnc45 := NB120_123.out; have hcz46_0 : w43.cell? ⟨gb123, 0, none⟩ = some (.int .i64 0) := (Zb BK123.out 0).trans rfl; have hcz46_1 : w43.cell? ⟨gb123, 1, none⟩ = some (.int .i64 0) := (Zb BK123.out 1).trans rfl; have hcz46_2 : w43.cell? ⟨gb123, 2, none⟩ = some (.slice none 0 0) := (Zb BK123.out 2).trans rfl; have hfz46_0 := Zc BK123.out 0; have hfz46_1 := Zc BK123.out 1; have hfz46_2 := Zc BK123.out 2))
          (try simp only [Act.put, Sa21, Sb21, Sc21])
          go_cut [111] (fun v111 wc => ∃ (kq : Nat) (x111_41 : Bool), v111 = .bool x111_41 ∧ Aside0 (impl_isSnap.j3 kq x4_2 l0_1 (l0_1.length : Int) x81_3 x111_41 l0_0 l0_1 l0_2 a0_3 a0_4 t109 t112 t115 t118 t119 ((rd_T94 l0_1 x81_3).f0) ((rd_T94 l0_1 x81_3).f1) ((rd_T94 l0_1 x81_3).f2) = some r) ∧ Aside0 (kq ≤ k3) ∧ Aside0 (Kd.R (Kd.int .i64) 3 wc w.heap.size (fun _ => True) (.slice Ao33 t109.length co33) t109) ∧ Aside0 (Kd.S k94 94 wc w.heap.size (fun k_ => some k_ ≠ ((.slice Ao33 t109.length co33) : Value).ownBlock ∧ k_ ≠ gb123) (.slice Ao36 t112.length co36) t112) ∧ Aside0 (Kd.S k76 76 wc w.heap.size (fun k_ => some k_ ≠ ((.slice Ao33 t109.length co33) : Value).ownBlock) (.slice Ao37 t115.length co37) t115) ∧ Aside0 (wc.heap[gb101]? = some (.cells #[(.slice A0_0 l0_0.length c0_0), (.slice (some ad122) l0_1.length c0_1), (.slice A0_2 l0_2.length c0_2), .int .i64 a0_3, .int .i64 a0_4] 35 (0, 0))) ∧ Aside0 (wc.heap[gb120]? = some (.cells #[(.slice Ao33 t109.length co33), (.slice Ao36 t112.length co36), (.slice Ao37 t115.length co37), .int .i64 t118, .int .i64 t119] 35 (0, 0))) ∧ Aside0 (wc.heap[gb123]? = some (.cells #[.int .i64 ((rd_T94 l0_1 x81_3).f0), .int .i64 ((rd_T94 l0_1 x81_3).f1), (.slice A122_2 ((rd_T94 l0_1 x81_3).f2).length c122_2)] 94 (0, 0))) ∧ Aside0 (Below w.heap.size w wc))
          case first =>
           have H := HC42.out
           clear HC42
           by_cases c47 : x81_3 < (t112.length : Int)
           case neg => rw [if_neg c47] at H; exact absurd H (by simp)
           rw [if_pos c47] at H
           have c47b0 : decide (x81_3 < (t112.length : Int)) = true := decide_eq_true c47
           clear c47
           (first | rw [c47b0] | (simp only [Zk, Zl]; rw [c47b0]) | skip)
           by_cases c48 : ((rd_T94 l0_1 x81_3).f0) = ((rd_T94 t112 x81_3).f0)
           ·rw [if_pos c48] at H
            have c48b0 : (((rd_T94 l0_1 x81_3).f0) == ((rd_T94 t112 x81_3).f0)) = true := beq_iff_eq.mpr c48
            have c48b1 : (((rd_T94 l0_1 x81_3).f0) != ((rd_T94 t112 x81_3).f0)) = false := bne_eq_false_iff_eq.mpr c48
            clear c48
            by_cases c49 : ((rd_T94 l0_1 x81_3).f1) = ((rd_T94 t112 x81_3).f1)
            ·rw [if_pos c49] at H
             have c49b0 : (((rd_T94 l0_1 x81_3).f1) == ((rd_T94 t112 x81_3).f1)) = true := beq_iff_eq.mpr c49
             have c49b1 : (((rd_T94 l0_1 x81_3).f1) != ((rd_T94 t112 x81_3).f1)) = false := bne_eq_false_iff_eq.mpr c49
             clear c49
             have H' := Aside0.mk H
             clear H
             try go_wp2
             have n0_ : Aside0 (Kd.R (Kd.int .i64) 3 (((w43.setCell ⟨gb123, 0, none⟩ (.int .i64 ((rd_T94 l0_1 x81_3).f0))).setCell ⟨gb123, 1, none⟩ (.int .i64 ((rd_T94 l0_1 x81_3).f1))).setCell ⟨gb123, 2, none⟩ (.slice A122_2 ((rd_T94 l0_1 x81_3).f2).length c122_2)) w.heap.size (fun _ => True) (.slice Ao33 t109.length co33) t109) := ⟨by (with_reducible repeat (first | apply Kd.R_alloc | apply Kd.R_drewN | apply Kd.R_drew)); exact Kd.R_mono (Kd.R_far (p := ⟨gb123, 2, none⟩) (Kd.R_far (p := ⟨gb123, 1, none⟩) (Kd.R_far (p := ⟨gb123, 0, none⟩) (Kd.R_types HO_121000.out BK123.out (by decide)) (fun _ hk => hk.2) (.int .i64 ((rd_T94 l0_1 x81_3).f0))) (fun _ hk => hk.2) (.int .i64 ((rd_T94 l0_1 x81_3).f1))) (fun _ hk => hk.2) (.slice A122_2 ((rd_T94 l0_1 x81_3).f2).length c122_2)) (fun _ hk => trivial)⟩
             have n1_ : Aside0 (Kd.S k94 94 (((w43.setCell ⟨gb123, 0, none⟩ (.int .i64 ((rd_T94 l0_1 x81_3).f0))).setCell ⟨gb123, 1, none⟩ (.int .i64 ((rd_T94 l0_1 x81_3).f1))).setCell ⟨gb123, 2, none⟩ (.slice A122_2 ((rd_T94 l0_1 x81_3).f2).length c122_2)) w.heap.size (fun k_ => some k_ ≠ (.slice Ao33 t109.length co33 : Value).ownBlock ∧ k_ ≠ gb123) (.slice Ao36 t112.length co36) t112) := ⟨by (with_reducible repeat (first | apply Kd.S_alloc | apply Kd.S_drewN | apply Kd.S_drew)); exact Kd.S_mono (Kd.S_far (p := ⟨gb123, 2, none⟩) (Kd.S_far (p := ⟨gb123, 1, none⟩) (Kd.S_far (p := ⟨gb123, 0, none⟩) (Kd.S_mono HO_121001.out (fun k_ hk => (⟨hk, hk.2⟩ : _ ∧ k_ ≠ gb123))) (fun _ hk => hk.2) (.int .i64 ((rd_T94 l0_1 x81_3).f0))) (fun _ hk => hk.2) (.int .i64 ((rd_T94 l0_1 x81_3).f1))) (fun _ hk => hk.2) (.slice A122_2 ((rd_T94 l0_1 x81_3).f2).length c122_2)) (fun _ hk => ⟨hk.1.1, hk.1.2⟩)⟩
             have n2_ : Aside0 (Kd.S k76 76 (((w43.setCell ⟨gb123, 0, none⟩ (.int .i64 ((rd_T94 l0_1 x81_3).f0))).setCell ⟨gb123, 1, none⟩ (.int .i64 ((rd_T94 l0_1 x81_3).f1))).setCell ⟨gb123, 2, none⟩ (.slice A122_2 ((rd_T94 l0_1 x81_3).f2).length c122_2)) w.heap.size (fun k_ => some k_ ≠ (.slice Ao33 t109.length co33 : Value).ownBlock) (.slice Ao37 t115.length co37) t115) := ⟨by (with_reducible repeat (first | apply Kd.S_alloc | apply Kd.S_drewN | apply Kd.S_drew)); exact Kd.S_mono (Kd.S_far (p := ⟨gb123, 2, none⟩) (Kd.S_far (p := ⟨gb123, 1, none⟩) (Kd.S_far (p := ⟨gb123, 0, none⟩) (Kd.S_types HO_121002.out BK123.out (by decide)) (fun _ hk => hk.2) (.int .i64 ((rd_T94 l0_1 x81_3).f0))) (fun _ hk => hk.2) (.int .i64 ((rd_T94 l0_1 x81_3).f1))) (fun _ hk => hk.2) (.slice A122_2 ((rd_T94 l0_1 x81_3).f2).length c122_2)) (fun _ hk => hk.1)⟩
             have n3_ : Aside0 ((((w43.setCell ⟨gb123, 0, none⟩ (.int .i64 ((rd_T94 l0_1 x81_3).f0))).setCell ⟨gb123, 1, none⟩ (.int .i64 ((rd_T94 l0_1 x81_3).f1))).setCell ⟨gb123, 2, none⟩ (.slice A122_2 ((rd_T94 l0_1 x81_3).f2).length c122_2)).heap[gb101]? = some (.cells #[.slice A0_0 l0_0.length c0_0, .slice (some ad122) l0_1.length c0_1, .slice A0_2 l0_2.length c0_2, .int .i64 a0_3, .int .i64 a0_4] 35 (0, 0))) := ⟨by (with_reducible repeat (first | refine Zh ?_ _ | refine Zi ?_ | refine Zg ?_ _)); refine Zs ?_ NB101_123.out _; (with_reducible repeat (first | refine Zh ?_ _ | refine Zi ?_ | refine Zg ?_ _)); refine Zs ?_ NB101_123.out _; (with_reducible repeat (first | refine Zh ?_ _ | refine Zi ?_ | refine Zg ?_ _)); refine Zs ?_ NB101_123.out _; (with_reducible repeat (first | refine Zh ?_ _ | refine Zi ?_ | refine Zg ?_ _)); exact BK101.out⟩
             have n4_ : Aside0 ((((w43.setCell ⟨gb123, 0, none⟩ (.int .i64 ((rd_T94 l0_1 x81_3).f0))).setCell ⟨gb123, 1, none⟩ (.int .i64 ((rd_T94 l0_1 x81_3).f1))).setCell ⟨gb123, 2, none⟩ (.slice A122_2 ((rd_T94 l0_1 x81_3).f2).length c122_2)).heap[gb120]? = some (.cells #[.slice Ao33 t109.length co33, .slice Ao36 t112.length co36, .slice Ao37 t115.length co37, .int .i64 t118, .int .i64 t119] 35 (0, 0))) := ⟨by (with_reducible repeat (first | refine Zh ?_ _ | refine Zi ?_ | refine Zg ?_ _)); refine Zs ?_ NB120_123.out _; (with_reducible repeat (first | refine Zh ?_ _ | refine Zi ?_ | refine Zg ?_ _)); refine Zs ?_ NB120_123.out _; (with_reducible repeat (first | refine Zh ?_ _ | refine Zi ?_ | refine Zg ?_ _)); refine Zs ?_ NB120_123.out _; (with_reducible repeat (first | refine Zh ?_ _ | refine Zi ?_ | refine Zg ?_ _)); exact BK120.out⟩
             have n5_ : Aside0 ((((w43.setCell ⟨gb123, 0, none⟩ (.int .i64 ((rd_T94 l0_1 x81_3).f0))).setCell ⟨gb123, 1, none⟩ (.int .i64 ((rd_T94 l0_1 x81_3).f1))).setCell ⟨gb123, 2, none⟩ (.slice A122_2 ((rd_T94 l0_1 x81_3).f2).length c122_2)).heap[gb123]? = some (.cells #[.int .i64 ((rd_T94 l0_1 x81_3).f0), .int .i64 ((rd_T94 l0_1 x81_3).f1), .slice A122_2 ((rd_T94 l0_1 x81_3).f2).length c122_2] 94 (0, 0))) := ⟨by (with_reducible repeat (first | refine Zh ?_ _ | refine Zi ?_ | refine Zg ?_ _)); refine Zu (cs := #[.int .i64 ((rd_T94 l0_1 x81_3).f0), .int .i64 ((rd_T94 l0_1 x81_3).f1), .slice none 0 0]) ?_ 2 _ rfl; (with_reducible repeat (first | refine Zh ?_ _ | refine Zi ?_ | refine Zg ?_ _)); refine Zu (cs := #[.int .i64 ((rd_T94 l0_1 x81_3).f0), .int .i64 0, .slice none 0 0]) ?_ 1 _ rfl; (with_reducible repeat (first | refine Zh ?_ _ | refine Zi ?_ | refine Zg ?_ _)); refine Zu (cs := #[.int .i64 0, .int .i64 0, .slice none 0 0]) ?_ 0 _ rfl; (with_reducible repeat (first | refine Zh ?_ _ | refine Zi ?_ | refine Zg ?_ _)); exact BK123.out⟩
             have n6_ : Aside0 (Below w.heap.size w (((w43.setCell ⟨gb123, 0, none⟩ (.int .i64 ((rd_T94 l0_1 x81_3).f0))).setCell ⟨gb123, 1, none⟩ (.int .i64 ((rd_T94 l0_1 x81_3).f1))).setCell ⟨gb123, 2, none⟩ (.slice A122_2 ((rd_T94 l0_1 x81_3).f2).length c122_2))) := ⟨by repeat (first | (with_reducible first | exact HB.out | apply Ze | apply Za | apply Zd | refine Zf ?_ GE101.out | refine Zf ?_ GE120.out | refine Zf ?_ GE123.out) | exact HB.out)⟩
             (try clear HO_121000)
             (try clear HO_121001)
             (try clear HO_121002)
             (try clear BK101)
             (try clear BK120)
             (try clear BK123)
             (try clear HB)
             generalize (((w43.setCell ⟨gb123, 0, none⟩ (.int .i64 ((rd_T94 l0_1 x81_3).f0))).setCell ⟨gb123, 1, none⟩ (.int .i64 ((rd_T94 l0_1 x81_3).f1))).setCell ⟨gb123, 2, none⟩ (.slice A122_2 ((rd_T94 l0_1 x81_3).f2).length c122_2)) = w50 at n0_ n1_ n2_ n3_ n4_ n5_ n6_ ⊢
             have HO_121000 := n0_
             have HO_121001 := n1_
             have HO_121002 := n2_
             have BK101 := n3_
             have BK120 := n4_
             have BK123 := n5_
             have HB := n6_
             clear n0_ n1_ n2_ n3_ n4_ n5_ n6_
             have n0_ := Aside0.mk (Kd.R_drew HO_121000.out)
             have n1_ := Aside0.mk (Kd.S_drew HO_121001.out)
             have n2_ := Aside0.mk (Kd.S_drew HO_121002.out)
             have n3_ := Aside0.mk (Zi BK101.out)
             have n4_ := Aside0.mk (Zi BK120.out)
             have n5_ := Aside0.mk (Zi BK123.out)
             have n6_ := Aside0.mk (Zd HB.out)
             clear HO_121000
             clear HO_121001
             clear HO_121002
             clear BK101
             clear BK120
             clear BK123
             clear HB
             have HO_121000 := n0_
             have HO_121001 := n1_
             have HO_121002 := n2_
             have BK101 := n3_
             have BK120 := n4_
             have BK123 := n5_
             have HB := n6_
             clear n0_ n1_ n2_ n3_ n4_ n5_ n6_
             have p124 : 0 ≤ (x81_3 : Int) := of_decide_eq_true (by assumption)
             have q124 : x81_3 < (t112.length : Int) := of_decide_eq_true (by assumption)
             obtain ⟨ad124, A124_2, c124_2, e124, hx124_0, hx124_1, hx124_2, hl124_2, hi124_2⟩ := at_T94 (Kd.S_reads' HO_121001.out).2.2 x81_3 p124 q124
             cases e124
             obtain ⟨ce124, hce124, hMe124, hcc124⟩ := Kd.S_get HO_121001.out z94 x81_3 p124 (by first | exact q124 | exact of_decide_eq_true (by assumption) | (have e_ := (Kd.S_reads' HO_121001.out).1; omega))
             obtain ⟨ve124_2, rfl, ge124_2⟩ := k94_openM hMe124
             have hv124_2 := hcc124 2 _ rfl
             rw [add_field _ _ 2 (by omega)] at hv124_2
             replace hv124_2 := Option.some.inj (hv124_2.symm.trans hx124_2)
             rw [hv124_2] at ge124_2
             have HL124_2 := Aside0.mk (show Kd.R (Kd.int .i64) 3 _ _ _ _ ((rd_T94 t112 x81_3).f2) from ge124_2)
             clear hv124_2 ge124_2
             clear hcc124 hce124
             have HR124_2 := Aside0.mk hi124_2
             have HC124_2 := Aside0.mk hl124_2
             clear hi124_2 hl124_2
             replace p124 := eq_true p124
             replace q124 := eq_true q124
             have p125 : 0 ≤ (x81_3 : Int) := of_decide_eq_true (by assumption)
             have q125 : x81_3 < (t112.length : Int) := of_decide_eq_true (by assumption)
             obtain ⟨ad125, A125_2, c125_2, e125, hx125_0, hx125_1, hx125_2, hl125_2, hi125_2⟩ := at_T94 (Kd.S_reads' HO_121001.out).2.2 x81_3 p125 q125
             obtain rfl : ad124 = ad125 := (by injection e125)
             obtain ⟨ce125, hce125, hMe125, hcc125⟩ := Kd.S_get HO_121001.out z94 x81_3 p125 (by first | exact q125 | exact of_decide_eq_true (by assumption) | (have e_ := (Kd.S_reads' HO_121001.out).1; omega))
             obtain ⟨ve125_2, rfl, ge125_2⟩ := k94_openM hMe125
             have hv125_2 := hcc125 2 _ rfl
             rw [add_field _ _ 2 (by omega)] at hv125_2
             replace hv125_2 := Option.some.inj (hv125_2.symm.trans hx125_2)
             rw [hv125_2] at ge125_2
             have HL125_2 := Aside0.mk (show Kd.R (Kd.int .i64) 3 _ _ _ _ ((rd_T94 t112 x81_3).f2) from ge125_2)
             clear hv125_2 ge125_2
             clear hcc125 hce125
             have HR125_2 := Aside0.mk hi125_2
             have HC125_2 := Aside0.mk hl125_2
             clear hi125_2 hl125_2
             replace p125 := eq_true p125
             replace q125 := eq_true q125
             have ea_ := Option.some.inj (hx124_2.symm.trans hx125_2)
             injection ea_ with ea_ en_ ec_
             subst ea_
             subst ec_
             clear en_
             refine start_ (n := 26) (S := fun w' => w'.cell? ⟨gb123, 0, none⟩ = some (.int .i64 ((rd_T94 l0_1 x81_3).f0)) ∧ w'.cell? ⟨gb123, 1, none⟩ = some (.int .i64 ((rd_T94 l0_1 x81_3).f1)) ∧ w'.cell? ⟨gb123, 2, none⟩ = some (.slice A122_2 ((rd_T94 l0_1 x81_3).f2).length c122_2) ∧ w'.cell? ⟨gb120, 0, none⟩ = some (.slice Ao33 t109.length co33) ∧ w'.cell? ⟨gb120, 1, none⟩ = some (.slice (some ad124) t112.length co36) ∧ w'.cell? ⟨gb120, 2, none⟩ = some (.slice Ao37 t115.length co37) ∧ w'.cell? ⟨gb120, 3, none⟩ = some (.int .i64 t118) ∧ w'.cell? ⟨gb120, 4, none⟩ = some (.int .i64 t119) ∧ w'.cell? (ad124.add ((x81_3).toNat * 3)) = some (.int .i64 ((rd_T94 t112 x81_3).f0)) ∧ w'.cell? ⟨(ad124.add ((x81_3).toNat * 3)).block, (ad124.add ((x81_3).toNat * 3)).off + 1, none⟩ = some (.int .i64 ((rd_T94 t112 x81_3).f1)) ∧ w'.cell? ⟨(ad124.add ((x81_3).toNat * 3)).block, (ad124.add ((x81_3).toNat * 3)).off + 2, none⟩ = some (.slice A124_2 ((rd_T94 t112 x81_3).f2).length c124_2) ∧ w'.cell? (ad124.add ((x81_3).toNat * 3)) = some (.int .i64 ((rd_T94 t112 x81_3).f0)) ∧ w'.cell? ⟨(ad124.add ((x81_3).toNat * 3)).block, (ad124.add ((x81_3).toNat * 3)).off + 1, none⟩ = some (.int .i64 ((rd_T94 t112 x81_3).f1)) ∧ w'.cell? ⟨(ad124.add ((x81_3).toNat * 3)).block, (ad124.add ((x81_3).toNat * 3)).off + 2, none⟩ = some (.slice A124_2 ((rd_T94 t112 x81_3).f2).length c124_2)) (ds := []) #[false, false, false, false, false, false, false, false, false, false, false, false, false, false, false, false, false, false, false, false, false, false, false, false, false, false] (by kernel_rfl) rfl rfl ⟨(Zb BK123.out 0).trans rfl, (Zb BK123.out 1).trans rfl, (Zb BK123.out 2).trans rfl, (Zb BK120.out 0).trans rfl, (Zb BK120.out 1).trans rfl, (Zb BK120.out 2).trans rfl, (Zb BK120.out 3).trans rfl, (Zb BK120.out 4).trans rfl, hx124_0, hx124_1, hx124_2, hx125_0, hx125_1, hx125_2⟩ (fun hHeld => ?_); refine with_tabW impl_isSnap.tab16 impl_isSnap.bits16 (fun HT_ HW_ => ?_)
             generalize w50.drew = w51 at HO_121000 HO_121001 HO_121002 BK101 BK120 BK123 HB HL124_2 HL125_2 HR124_2 HR125_2 hx124_0 hx124_1 hx124_2 hx125_0 hx125_1 hx125_2 hHeld ⊢
             refine Zm (i := 0) (N := some 86) (v := ?_) (a' := ?_) (Bm21 26 1) rfl rfl (Zj HT_.out (by kernel_rfl)) (fun _ _ _ h => h) (Or.inl ⟨by rfl, ?_⟩) ?_ ?_
             rotate_left
             ·intro w'
              go_simp
              with_reducible rfl
             rotate_left
             ·simp only [Act.put, Sa21, Sb21, Sc21, Zk, Zl]
              rfl
             refine Zm (i := 2) (N := some 88) (v := ?_) (a' := ?_) (Bm21 26 5) rfl rfl (Zj HT_.out (by kernel_rfl)) (fun _ _ _ h => h) (Or.inl ⟨by rfl, ?_⟩) ?_ ?_
             rotate_left
             ·intro w'
              go_simp
              with_reducible rfl
             rotate_left
             ·simp only [Act.put, Sa21, Sb21, Sc21, Zk, Zl]
              rfl
             refine Zm (i := 4) (N := some 90) (v := ?_) (a' := ?_) (Bm21 26 21) rfl rfl (Zj HT_.out (by kernel_rfl)) (fun _ _ _ h => h) (Or.inl ⟨by rfl, ?_⟩) ?_ ?_
             rotate_left
             ·intro w'
              go_simp
              with_reducible rfl
             rotate_left
             ·simp only [Act.put, Sa21, Sb21, Sc21, Zk, Zl]
              rfl
             refine take_ (i := 1) (N := some 87) (v := ?_) (a' := ?_) (Bm21 26 23) rfl rfl (Zr HT_.out HW_.out (by kernel_rfl)) (fun _ _ _ h => h) (Or.inl ⟨by rfl, ?_⟩) hHeld ?_ ?_
             rotate_left
             ·rintro w' ⟨s0, s1, s2, s3, s4, s5, s6, s7, s8, s9, s10, s11, s12, s13⟩
              go_simp
              with_reducible rfl
             rotate_left
             ·simp only [Act.put, Sa21, Sb21, Sc21, Zk, Zl]
              rfl
             refine take_ (i := 3) (N := some 89) (v := ?_) (a' := ?_) (Bm21 26 31) rfl rfl (Zr HT_.out HW_.out (by kernel_rfl)) (fun _ _ _ h => h) (Or.inl ⟨by rfl, ?_⟩) hHeld ?_ ?_
             rotate_left
             ·rintro w' ⟨s0, s1, s2, s3, s4, s5, s6, s7, s8, s9, s10, s11, s12, s13⟩
              go_simp
              with_reducible rfl
             rotate_left
             ·simp only [Act.put, Sa21, Sb21, Sc21, Zk, Zl]
              rfl
             refine Zm (i := 5) (N := some 91) (v := ?_) (a' := ?_) (Bm21 26 63) rfl rfl (Zj HT_.out (by kernel_rfl)) (fun _ _ _ h => h) (Or.inl ⟨by rfl, ?_⟩) ?_ ?_
             rotate_left
             ·intro w'
              go_simp
              with_reducible rfl
             rotate_left
             ·simp only [Act.put, Sa21, Sb21, Sc21, Zk, Zl]
              rfl
             refine Zm (i := 6) (N := some 92) (v := ?_) (a' := ?_) (Bm21 26 127) rfl rfl (Zj HT_.out (by kernel_rfl)) (fun _ _ _ h => h) (Or.inl ⟨by rfl, ?_⟩) ?_ ?_
             rotate_left
             ·intro w'
              go_simp
              with_reducible rfl
             rotate_left
             ·simp only [Act.put, Sa21, Sb21, Sc21, Zk, Zl]
              rfl
             refine take_ (i := 7) (N := some 93) (v := ?_) (a' := ?_) (Bm21 26 255) rfl rfl (Zr HT_.out HW_.out (by kernel_rfl)) (fun _ _ _ h => h) (Or.inl ⟨by rfl, ?_⟩) hHeld ?_ ?_
             rotate_left
             ·rintro w' ⟨s0, s1, s2, s3, s4, s5, s6, s7, s8, s9, s10, s11, s12, s13⟩
              go_simp
              with_reducible rfl
             rotate_left
             ·simp only [Act.put, Sa21, Sb21, Sc21, Zk, Zl]
              rfl
             refine Zm (i := 8) (N := some 94) (v := ?_) (a' := ?_) (Bm21 26 511) rfl rfl (Zj HT_.out (by kernel_rfl)) (fun _ _ _ h => h) (Or.inl ⟨by rfl, ?_⟩) ?_ ?_
             rotate_left
             ·intro w'
              go_simp
              with_reducible rfl
             rotate_left
             ·simp only [Act.put, Sa21, Sb21, Sc21, Zk, Zl]
              rfl
             refine Zm (i := 9) (N := some 95) (v := ?_) (a' := ?_) (Bm21 26 1023) rfl rfl (Zj HT_.out (by kernel_rfl)) (fun _ _ _ h => h) (Or.inl ⟨by rfl, ?_⟩) ?_ ?_
             rotate_left
             ·intro w'
              go_simp
              with_reducible rfl
             rotate_left
             ·simp only [Act.put, Sa21, Sb21, Sc21, Zk, Zl]
              rfl
             refine Zm (i := 10) (N := some 96) (v := ?_) (a' := ?_) (Bm21 26 2047) rfl rfl (Zj HT_.out (by kernel_rfl)) (fun _ _ _ h => h) (Or.inl ⟨by rfl, ?_⟩) ?_ ?_
             rotate_left
             ·intro w'
              go_simp
              with_reducible rfl
             rotate_left
             ·simp only [Act.put, Sa21, Sb21, Sc21, Zk, Zl]
              rfl
             refine Zm (i := 12) (N := some 98) (v := ?_) (a' := ?_) (Bm21 26 6143) rfl rfl (Zj HT_.out (by kernel_rfl)) (fun _ _ _ h => h) (Or.inl ⟨by rfl, ?_⟩) ?_ ?_
             rotate_left
             ·intro w'
              go_simp
              with_reducible rfl
             rotate_left
             ·simp only [Act.put, Sa21, Sb21, Sc21, Zk, Zl]
              rfl
             refine Zm (i := 14) (N := some 100) (v := ?_) (a' := ?_) (Bm21 26 22527) rfl rfl (Zj HT_.out (by kernel_rfl)) (fun _ _ _ h => h) (Or.inl ⟨by rfl, ?_⟩) ?_ ?_
             rotate_left
             ·intro w'
              go_simp
              with_reducible rfl
             rotate_left
             ·simp only [Act.put, Sa21, Sb21, Sc21, Zk, Zl]
              rfl
             refine take_ (i := 11) (N := some 97) (v := ?_) (a' := ?_) (Bm21 26 24575) rfl rfl (Zr HT_.out HW_.out (by kernel_rfl)) (fun _ _ _ h => h) (Or.inl ⟨by rfl, ?_⟩) hHeld ?_ ?_
             rotate_left
             ·rintro w' ⟨s0, s1, s2, s3, s4, s5, s6, s7, s8, s9, s10, s11, s12, s13⟩
              go_simp
              with_reducible rfl
             rotate_left
             ·simp only [Act.put, Sa21, Sb21, Sc21, Zk, Zl]
              rfl
             refine take_ (i := 13) (N := some 99) (v := ?_) (a' := ?_) (Bm21 26 32767) rfl rfl (Zr HT_.out HW_.out (by kernel_rfl)) (fun _ _ _ h => h) (Or.inl ⟨by rfl, ?_⟩) hHeld ?_ ?_
             rotate_left
             ·rintro w' ⟨s0, s1, s2, s3, s4, s5, s6, s7, s8, s9, s10, s11, s12, s13⟩
              go_simp
              with_reducible rfl
             rotate_left
             ·simp only [Act.put, Sa21, Sb21, Sc21, Zk, Zl]
              rfl
             refine Zm (i := 15) (N := some 101) (v := ?_) (a' := ?_) (Bm21 26 65535) rfl rfl (Zj HT_.out (by kernel_rfl)) (fun _ _ _ h => h) (Or.inl ⟨by rfl, ?_⟩) ?_ ?_
             rotate_left
             ·intro w'
              go_simp
              with_reducible rfl
             rotate_left
             ·simp only [Act.put, Sa21, Sb21, Sc21, Zk, Zl]
              rfl
             refine Zm (i := 16) (N := some 102) (v := ?_) (a' := ?_) (Bm21 26 131071) rfl rfl (Zj HT_.out (by kernel_rfl)) (fun _ _ _ h => h) (Or.inl ⟨by rfl, ?_⟩) ?_ ?_
             rotate_left
             ·intro w'
              go_simp
              with_reducible rfl
             rotate_left
             ·simp only [Act.put, Sa21, Sb21, Sc21, Zk, Zl]
              rfl
             refine take_ (i := 17) (N := some 103) (v := ?_) (a' := ?_) (Bm21 26 262143) rfl rfl (Zr HT_.out HW_.out (by kernel_rfl)) (fun _ _ _ h => h) (Or.inl ⟨by rfl, ?_⟩) hHeld ?_ ?_
             rotate_left
             ·rintro w' ⟨s0, s1, s2, s3, s4, s5, s6, s7, s8, s9, s10, s11, s12, s13⟩
              go_simp
              with_reducible rfl
             rotate_left
             ·simp only [Act.put, Sa21, Sb21, Sc21, Zk, Zl]
              rfl
             refine Zm (i := 18) (N := some 104) (v := ?_) (a' := ?_) (Bm21 26 524287) rfl rfl (Zj HT_.out (by kernel_rfl)) (fun _ _ _ h => h) (Or.inl ⟨by rfl, ?_⟩) ?_ ?_
             rotate_left
             ·intro w'
              go_simp
              with_reducible rfl
             rotate_left
             ·simp only [Act.put, Sa21, Sb21, Sc21, Zk, Zl]
              rfl
             refine Zm (i := 19) (N := some 105) (v := ?_) (a' := ?_) (Bm21 26 1048575) rfl rfl (Zj HT_.out (by kernel_rfl)) (fun _ _ _ h => h) (Or.inl ⟨by rfl, ?_⟩) ?_ ?_
             rotate_left
             ·intro w'
              go_simp
              with_reducible rfl
             rotate_left
             ·simp only [Act.put, Sa21, Sb21, Sc21, Zk, Zl]
              rfl
             refine Zm (i := 20) (N := some 106) (v := ?_) (a' := ?_) (Bm21 26 2097151) rfl rfl (Zj HT_.out (by kernel_rfl)) (fun _ _ _ h => h) (Or.inl ⟨by rfl, ?_⟩) ?_ ?_
             rotate_left
             ·intro w'
              go_simp
              with_reducible rfl
             rotate_left
             ·simp only [Act.put, Sa21, Sb21, Sc21, Zk, Zl]
              rfl
             refine Zm (i := 21) (N := some 107) (v := ?_) (a' := ?_) (Bm21 26 4194303) rfl rfl (Zj HT_.out (by kernel_rfl)) (fun _ _ _ h => h) (Or.inl ⟨by rfl, ?_⟩) ?_ ?_
             rotate_left
             ·intro w'
              go_simp
              with_reducible rfl
             rotate_left
             ·simp only [Act.put, Sa21, Sb21, Sc21, Zk, Zl]
              rfl
             refine take_ (i := 22) (N := some 108) (v := ?_) (a' := ?_) (Bm21 26 8388607) rfl rfl (Zr HT_.out HW_.out (by kernel_rfl)) (fun _ _ _ h => h) (Or.inl ⟨by rfl, ?_⟩) hHeld ?_ ?_
             rotate_left
             ·rintro w' ⟨s0, s1, s2, s3, s4, s5, s6, s7, s8, s9, s10, s11, s12, s13⟩
              go_simp
              with_reducible rfl
             rotate_left
             ·simp only [Act.put, Sa21, Sb21, Sc21, Zk, Zl]
              rfl
             refine Zm (i := 23) (N := some 109) (v := ?_) (a' := ?_) (Bm21 26 16777215) rfl rfl (Zj HT_.out (by kernel_rfl)) (fun _ _ _ h => h) (Or.inl ⟨by rfl, ?_⟩) ?_ ?_
             rotate_left
             ·intro w'
              go_simp
              with_reducible rfl
             rotate_left
             ·simp only [Act.put, Sa21, Sb21, Sc21, Zk, Zl]
              rfl
             refine Zm (i := 24) (N := some 110) (v := ?_) (a' := ?_) (Bm21 26 33554431) rfl rfl (Zj HT_.out (by kernel_rfl)) (fun _ _ _ h => h) (Or.inl ⟨by rfl, ?_⟩) ?_ ?_
             rotate_left
             ·intro w'
              go_simp
              with_reducible rfl
             rotate_left
             ·simp only [Act.put, Sa21, Sb21, Sc21, Zk, Zl]
              rfl
             refine Zm (i := 25) (N := some 111) (v := ?_) (a' := ?_) (Bm21 26 67108863) rfl rfl (Zj HT_.out (by kernel_rfl)) (fun _ _ _ h => h) (Or.inl ⟨by rfl, ?_⟩) ?_ ?_
             rotate_left
             ·intro w'
              go_simp
              with_reducible rfl
             rotate_left
             ·simp only [Act.put, Sa21, Sb21, Sc21, Zk, Zl]
              rfl
             refine done_ (done_of HT_.out (by kernel_rfl)) ?_
             try go_wp2
             go_meet
             case rel => exact ⟨_, (decide ((((rd_T94 l0_1 x81_3).f2).length : Int) > 8)), (by first | rfl | (simp; done) | (simp [*]; done)), H', ⟨by have := HJ1.out; have := HK2.out; have := HK3.out; first | omega | exact Nat.le_refl _⟩, ⟨by (with_reducible repeat (first | apply Kd.R_alloc | apply Kd.R_drewN | apply Kd.R_drew)); exact HO_121000.out⟩, ⟨by (with_reducible repeat (first | apply Kd.S_alloc | apply Kd.S_drewN | apply Kd.S_drew)); exact HO_121001.out⟩, ⟨by (with_reducible repeat (first | apply Kd.S_alloc | apply Kd.S_drewN | apply Kd.S_drew)); exact HO_121002.out⟩, ⟨by (with_reducible repeat (first | refine Zh ?_ _ | refine Zi ?_ | refine Zg ?_ _)); exact BK101.out⟩, ⟨by (with_reducible repeat (first | refine Zh ?_ _ | refine Zi ?_ | refine Zg ?_ _)); exact BK120.out⟩, ⟨by (with_reducible repeat (first | refine Zh ?_ _ | refine Zi ?_ | refine Zg ?_ _)); exact BK123.out⟩, ⟨by repeat (first | (with_reducible first | exact HB.out | apply Ze | apply Za | apply Zd | refine Zf ?_ GE101.out | refine Zf ?_ GE120.out | refine Zf ?_ GE123.out) | exact HB.out)⟩⟩
            ·rw [if_neg c49] at H
             have c49b0 : (((rd_T94 l0_1 x81_3).f1) == ((rd_T94 t112 x81_3).f1)) = false := beq_eq_false_iff_ne.mpr c49
             have c49b1 : (((rd_T94 l0_1 x81_3).f1) != ((rd_T94 t112 x81_3).f1)) = true := bne_iff_ne.mpr c49
             have H' := Aside0.mk H
             clear H
             try go_wp2
             have n0_ : Aside0 (Kd.R (Kd.int .i64) 3 (((w43.setCell ⟨gb123, 0, none⟩ (.int .i64 ((rd_T94 l0_1 x81_3).f0))).setCell ⟨gb123, 1, none⟩ (.int .i64 ((rd_T94 l0_1 x81_3).f1))).setCell ⟨gb123, 2, none⟩ (.slice A122_2 ((rd_T94 l0_1 x81_3).f2).length c122_2)) w.heap.size (fun _ => True) (.slice Ao33 t109.length co33) t109) := ⟨by (with_reducible repeat (first | apply Kd.R_alloc | apply Kd.R_drewN | apply Kd.R_drew)); exact Kd.R_mono (Kd.R_far (p := ⟨gb123, 2, none⟩) (Kd.R_far (p := ⟨gb123, 1, none⟩) (Kd.R_far (p := ⟨gb123, 0, none⟩) (Kd.R_types HO_121000.out BK123.out (by decide)) (fun _ hk => hk.2) (.int .i64 ((rd_T94 l0_1 x81_3).f0))) (fun _ hk => hk.2) (.int .i64 ((rd_T94 l0_1 x81_3).f1))) (fun _ hk => hk.2) (.slice A122_2 ((rd_T94 l0_1 x81_3).f2).length c122_2)) (fun _ hk => trivial)⟩
             have n1_ : Aside0 (Kd.S k94 94 (((w43.setCell ⟨gb123, 0, none⟩ (.int .i64 ((rd_T94 l0_1 x81_3).f0))).setCell ⟨gb123, 1, none⟩ (.int .i64 ((rd_T94 l0_1 x81_3).f1))).setCell ⟨gb123, 2, none⟩ (.slice A122_2 ((rd_T94 l0_1 x81_3).f2).length c122_2)) w.heap.size (fun k_ => some k_ ≠ (.slice Ao33 t109.length co33 : Value).ownBlock ∧ k_ ≠ gb123) (.slice Ao36 t112.length co36) t112) := ⟨by (with_reducible repeat (first | apply Kd.S_alloc | apply Kd.S_drewN | apply Kd.S_drew)); exact Kd.S_mono (Kd.S_far (p := ⟨gb123, 2, none⟩) (Kd.S_far (p := ⟨gb123, 1, none⟩) (Kd.S_far (p := ⟨gb123, 0, none⟩) (Kd.S_mono HO_121001.out (fun k_ hk => (⟨hk, hk.2⟩ : _ ∧ k_ ≠ gb123))) (fun _ hk => hk.2) (.int .i64 ((rd_T94 l0_1 x81_3).f0))) (fun _ hk => hk.2) (.int .i64 ((rd_T94 l0_1 x81_3).f1))) (fun _ hk => hk.2) (.slice A122_2 ((rd_T94 l0_1 x81_3).f2).length c122_2)) (fun _ hk => ⟨hk.1.1, hk.1.2⟩)⟩
             have n2_ : Aside0 (Kd.S k76 76 (((w43.setCell ⟨gb123, 0, none⟩ (.int .i64 ((rd_T94 l0_1 x81_3).f0))).setCell ⟨gb123, 1, none⟩ (.int .i64 ((rd_T94 l0_1 x81_3).f1))).setCell ⟨gb123, 2, none⟩ (.slice A122_2 ((rd_T94 l0_1 x81_3).f2).length c122_2)) w.heap.size (fun k_ => some k_ ≠ (.slice Ao33 t109.length co33 : Value).ownBlock) (.slice Ao37 t115.length co37) t115) := ⟨by (with_reducible repeat (first | apply Kd.S_alloc | apply Kd.S_drewN | apply Kd.S_drew)); exact Kd.S_mono (Kd.S_far (p := ⟨gb123, 2, none⟩) (Kd.S_far (p := ⟨gb123, 1, none⟩) (Kd.S_far (p := ⟨gb123, 0, none⟩) (Kd.S_types HO_121002.out BK123.out (by decide)) (fun _ hk => hk.2) (.int .i64 ((rd_T94 l0_1 x81_3).f0))) (fun _ hk => hk.2) (.int .i64 ((rd_T94 l0_1 x81_3).f1))) (fun _ hk => hk.2) (.slice A122_2 ((rd_T94 l0_1 x81_3).f2).length c122_2)) (fun _ hk => hk.1)⟩
             have n3_ : Aside0 ((((w43.setCell ⟨gb123, 0, none⟩ (.int .i64 ((rd_T94 l0_1 x81_3).f0))).setCell ⟨gb123, 1, none⟩ (.int .i64 ((rd_T94 l0_1 x81_3).f1))).setCell ⟨gb123, 2, none⟩ (.slice A122_2 ((rd_T94 l0_1 x81_3).f2).length c122_2)).heap[gb101]? = some (.cells #[.slice A0_0 l0_0.length c0_0, .slice (some ad122) l0_1.length c0_1, .slice A0_2 l0_2.length c0_2, .int .i64 a0_3, .int .i64 a0_4] 35 (0, 0))) := ⟨by (with_reducible repeat (first | refine Zh ?_ _ | refine Zi ?_ | refine Zg ?_ _)); refine Zs ?_ NB101_123.out _; (with_reducible repeat (first | refine Zh ?_ _ | refine Zi ?_ | refine Zg ?_ _)); refine Zs ?_ NB101_123.out _; (with_reducible repeat (first | refine Zh ?_ _ | refine Zi ?_ | refine Zg ?_ _)); refine Zs ?_ NB101_123.out _; (with_reducible repeat (first | refine Zh ?_ _ | refine Zi ?_ | refine Zg ?_ _)); exact BK101.out⟩
             have n4_ : Aside0 ((((w43.setCell ⟨gb123, 0, none⟩ (.int .i64 ((rd_T94 l0_1 x81_3).f0))).setCell ⟨gb123, 1, none⟩ (.int .i64 ((rd_T94 l0_1 x81_3).f1))).setCell ⟨gb123, 2, none⟩ (.slice A122_2 ((rd_T94 l0_1 x81_3).f2).length c122_2)).heap[gb120]? = some (.cells #[.slice Ao33 t109.length co33, .slice Ao36 t112.length co36, .slice Ao37 t115.length co37, .int .i64 t118, .int .i64 t119] 35 (0, 0))) := ⟨by (with_reducible repeat (first | refine Zh ?_ _ | refine Zi ?_ | refine Zg ?_ _)); refine Zs ?_ NB120_123.out _; (with_reducible repeat (first | refine Zh ?_ _ | refine Zi ?_ | refine Zg ?_ _)); refine Zs ?_ NB120_123.out _; (with_reducible repeat (first | refine Zh ?_ _ | refine Zi ?_ | refine Zg ?_ _)); refine Zs ?_ NB120_123.out _; (with_reducible repeat (first | refine Zh ?_ _ | refine Zi ?_ | refine Zg ?_ _)); exact BK120.out⟩
             have n5_ : Aside0 ((((w43.setCell ⟨gb123, 0, none⟩ (.int .i64 ((rd_T94 l0_1 x81_3).f0))).setCell ⟨gb123, 1, none⟩ (.int .i64 ((rd_T94 l0_1 x81_3).f1))).setCell ⟨gb123, 2, none⟩ (.slice A122_2 ((rd_T94 l0_1 x81_3).f2).length c122_2)).heap[gb123]? = some (.cells #[.int .i64 ((rd_T94 l0_1 x81_3).f0), .int .i64 ((rd_T94 l0_1 x81_3).f1), .slice A122_2 ((rd_T94 l0_1 x81_3).f2).length c122_2] 94 (0, 0))) := ⟨by (with_reducible repeat (first | refine Zh ?_ _ | refine Zi ?_ | refine Zg ?_ _)); refine Zu (cs := #[.int .i64 ((rd_T94 l0_1 x81_3).f0), .int .i64 ((rd_T94 l0_1 x81_3).f1), .slice none 0 0]) ?_ 2 _ rfl; (with_reducible repeat (first | refine Zh ?_ _ | refine Zi ?_ | refine Zg ?_ _)); refine Zu (cs := #[.int .i64 ((rd_T94 l0_1 x81_3).f0), .int .i64 0, .slice none 0 0]) ?_ 1 _ rfl; (with_reducible repeat (first | refine Zh ?_ _ | refine Zi ?_ | refine Zg ?_ _)); refine Zu (cs := #[.int .i64 0, .int .i64 0, .slice none 0 0]) ?_ 0 _ rfl; (with_reducible repeat (first | refine Zh ?_ _ | refine Zi ?_ | refine Zg ?_ _)); exact BK123.out⟩
             have n6_ : Aside0 (Below w.heap.size w (((w43.setCell ⟨gb123, 0, none⟩ (.int .i64 ((rd_T94 l0_1 x81_3).f0))).setCell ⟨gb123, 1, none⟩ (.int .i64 ((rd_T94 l0_1 x81_3).f1))).setCell ⟨gb123, 2, none⟩ (.slice A122_2 ((rd_T94 l0_1 x81_3).f2).length c122_2))) := ⟨by repeat (first | (with_reducible first | exact HB.out | apply Ze | apply Za | apply Zd | refine Zf ?_ GE101.out | refine Zf ?_ GE120.out | refine Zf ?_ GE123.out) | exact HB.out)⟩
             (try clear HO_121000)
             (try clear HO_121001)
             (try clear HO_121002)
             (try clear BK101)
             (try clear BK120)
             (try clear BK123)
             (try clear HB)
             generalize (((w43.setCell ⟨gb123, 0, none⟩ (.int .i64 ((rd_T94 l0_1 x81_3).f0))).setCell ⟨gb123, 1, none⟩ (.int .i64 ((rd_T94 l0_1 x81_3).f1))).setCell ⟨gb123, 2, none⟩ (.slice A122_2 ((rd_T94 l0_1 x81_3).f2).length c122_2)) = w52 at n0_ n1_ n2_ n3_ n4_ n5_ n6_ ⊢
             have HO_121000 := n0_
             have HO_121001 := n1_
             have HO_121002 := n2_
             have BK101 := n3_
             have BK120 := n4_
             have BK123 := n5_
             have HB := n6_
             clear n0_ n1_ n2_ n3_ n4_ n5_ n6_
             have n0_ := Aside0.mk (Kd.R_drew HO_121000.out)
             have n1_ := Aside0.mk (Kd.S_drew HO_121001.out)
             have n2_ := Aside0.mk (Kd.S_drew HO_121002.out)
             have n3_ := Aside0.mk (Zi BK101.out)
             have n4_ := Aside0.mk (Zi BK120.out)
             have n5_ := Aside0.mk (Zi BK123.out)
             have n6_ := Aside0.mk (Zd HB.out)
             clear HO_121000
             clear HO_121001
             clear HO_121002
             clear BK101
             clear BK120
             clear BK123
             clear HB
             have HO_121000 := n0_
             have HO_121001 := n1_
             have HO_121002 := n2_
             have BK101 := n3_
             have BK120 := n4_
             have BK123 := n5_
             have HB := n6_
             clear n0_ n1_ n2_ n3_ n4_ n5_ n6_
             have p124 : 0 ≤ (x81_3 : Int) := of_decide_eq_true (by assumption)
             have q124 : x81_3 < (t112.length : Int) := of_decide_eq_true (by assumption)
             obtain ⟨ad124, A124_2, c124_2, e124, hx124_0, hx124_1, hx124_2, hl124_2, hi124_2⟩ := at_T94 (Kd.S_reads' HO_121001.out).2.2 x81_3 p124 q124
             cases e124
             obtain ⟨ce124, hce124, hMe124, hcc124⟩ := Kd.S_get HO_121001.out z94 x81_3 p124 (by first | exact q124 | exact of_decide_eq_true (by assumption) | (have e_ := (Kd.S_reads' HO_121001.out).1; omega))
             obtain ⟨ve124_2, rfl, ge124_2⟩ := k94_openM hMe124
             have hv124_2 := hcc124 2 _ rfl
             rw [add_field _ _ 2 (by omega)] at hv124_2
             replace hv124_2 := Option.some.inj (hv124_2.symm.trans hx124_2)
             rw [hv124_2] at ge124_2
             have HL124_2 := Aside0.mk (show Kd.R (Kd.int .i64) 3 _ _ _ _ ((rd_T94 t112 x81_3).f2) from ge124_2)
             clear hv124_2 ge124_2
             clear hcc124 hce124
             have HR124_2 := Aside0.mk hi124_2
             have HC124_2 := Aside0.mk hl124_2
             clear hi124_2 hl124_2
             replace p124 := eq_true p124
             replace q124 := eq_true q124
             have p125 : 0 ≤ (x81_3 : Int) := of_decide_eq_true (by assumption)
             have q125 : x81_3 < (t112.length : Int) := of_decide_eq_true (by assumption)
             obtain ⟨ad125, A125_2, c125_2, e125, hx125_0, hx125_1, hx125_2, hl125_2, hi125_2⟩ := at_T94 (Kd.S_reads' HO_121001.out).2.2 x81_3 p125 q125
             obtain rfl : ad124 = ad125 := (by injection e125)
             obtain ⟨ce125, hce125, hMe125, hcc125⟩ := Kd.S_get HO_121001.out z94 x81_3 p125 (by first | exact q125 | exact of_decide_eq_true (by assumption) | (have e_ := (Kd.S_reads' HO_121001.out).1; omega))
             obtain ⟨ve125_2, rfl, ge125_2⟩ := k94_openM hMe125
             have hv125_2 := hcc125 2 _ rfl
             rw [add_field _ _ 2 (by omega)] at hv125_2
             replace hv125_2 := Option.some.inj (hv125_2.symm.trans hx125_2)
             rw [hv125_2] at ge125_2
             have HL125_2 := Aside0.mk (show Kd.R (Kd.int .i64) 3 _ _ _ _ ((rd_T94 t112 x81_3).f2) from ge125_2)
             clear hv125_2 ge125_2
             clear hcc125 hce125
             have HR125_2 := Aside0.mk hi125_2
             have HC125_2 := Aside0.mk hl125_2
             clear hi125_2 hl125_2
             replace p125 := eq_true p125
             replace q125 := eq_true q125
             have ea_ := Option.some.inj (hx124_2.symm.trans hx125_2)
             injection ea_ with ea_ en_ ec_
             subst ea_
             subst ec_
             clear en_
             refine start_ (n := 26) (S := fun w' => w'.cell? ⟨gb123, 0, none⟩ = some (.int .i64 ((rd_T94 l0_1 x81_3).f0)) ∧ w'.cell? ⟨gb123, 1, none⟩ = some (.int .i64 ((rd_T94 l0_1 x81_3).f1)) ∧ w'.cell? ⟨gb123, 2, none⟩ = some (.slice A122_2 ((rd_T94 l0_1 x81_3).f2).length c122_2) ∧ w'.cell? ⟨gb120, 0, none⟩ = some (.slice Ao33 t109.length co33) ∧ w'.cell? ⟨gb120, 1, none⟩ = some (.slice (some ad124) t112.length co36) ∧ w'.cell? ⟨gb120, 2, none⟩ = some (.slice Ao37 t115.length co37) ∧ w'.cell? ⟨gb120, 3, none⟩ = some (.int .i64 t118) ∧ w'.cell? ⟨gb120, 4, none⟩ = some (.int .i64 t119) ∧ w'.cell? (ad124.add ((x81_3).toNat * 3)) = some (.int .i64 ((rd_T94 t112 x81_3).f0)) ∧ w'.cell? ⟨(ad124.add ((x81_3).toNat * 3)).block, (ad124.add ((x81_3).toNat * 3)).off + 1, none⟩ = some (.int .i64 ((rd_T94 t112 x81_3).f1)) ∧ w'.cell? ⟨(ad124.add ((x81_3).toNat * 3)).block, (ad124.add ((x81_3).toNat * 3)).off + 2, none⟩ = some (.slice A124_2 ((rd_T94 t112 x81_3).f2).length c124_2) ∧ w'.cell? (ad124.add ((x81_3).toNat * 3)) = some (.int .i64 ((rd_T94 t112 x81_3).f0)) ∧ w'.cell? ⟨(ad124.add ((x81_3).toNat * 3)).block, (ad124.add ((x81_3).toNat * 3)).off + 1, none⟩ = some (.int .i64 ((rd_T94 t112 x81_3).f1)) ∧ w'.cell? ⟨(ad124.add ((x81_3).toNat * 3)).block, (ad124.add ((x81_3).toNat * 3)).off + 2, none⟩ = some (.slice A124_2 ((rd_T94 t112 x81_3).f2).length c124_2)) (ds := []) #[false, false, false, false, false, false, false, false, false, false, false, false, false, false, false, false, false, false, false, false, false, false, false, false, false, false] (by kernel_rfl) rfl rfl ⟨(Zb BK123.out 0).trans rfl, (Zb BK123.out 1).trans rfl, (Zb BK123.out 2).trans rfl, (Zb BK120.out 0).trans rfl, (Zb BK120.out 1).trans rfl, (Zb BK120.out 2).trans rfl, (Zb BK120.out 3).trans rfl, (Zb BK120.out 4).trans rfl, hx124_0, hx124_1, hx124_2, hx125_0, hx125_1, hx125_2⟩ (fun hHeld => ?_); refine with_tabW impl_isSnap.tab16 impl_isSnap.bits16 (fun HT_ HW_ => ?_)
             generalize w52.drew = w53 at HO_121000 HO_121001 HO_121002 BK101 BK120 BK123 HB HL124_2 HL125_2 HR124_2 HR125_2 hx124_0 hx124_1 hx124_2 hx125_0 hx125_1 hx125_2 hHeld ⊢
             refine Zm (i := 0) (N := some 86) (v := ?_) (a' := ?_) (Bm21 26 1) rfl rfl (Zj HT_.out (by kernel_rfl)) (fun _ _ _ h => h) (Or.inl ⟨by rfl, ?_⟩) ?_ ?_
             rotate_left
             ·intro w'
              go_simp
              with_reducible rfl
             rotate_left
             ·simp only [Act.put, Sa21, Sb21, Sc21, Zk, Zl]
              rfl
             refine Zm (i := 2) (N := some 88) (v := ?_) (a' := ?_) (Bm21 26 5) rfl rfl (Zj HT_.out (by kernel_rfl)) (fun _ _ _ h => h) (Or.inl ⟨by rfl, ?_⟩) ?_ ?_
             rotate_left
             ·intro w'
              go_simp
              with_reducible rfl
             rotate_left
             ·simp only [Act.put, Sa21, Sb21, Sc21, Zk, Zl]
              rfl
             refine Zm (i := 4) (N := some 90) (v := ?_) (a' := ?_) (Bm21 26 21) rfl rfl (Zj HT_.out (by kernel_rfl)) (fun _ _ _ h => h) (Or.inl ⟨by rfl, ?_⟩) ?_ ?_
             rotate_left
             ·intro w'
              go_simp
              with_reducible rfl
             rotate_left
             ·simp only [Act.put, Sa21, Sb21, Sc21, Zk, Zl]
              rfl
             refine take_ (i := 1) (N := some 87) (v := ?_) (a' := ?_) (Bm21 26 23) rfl rfl (Zr HT_.out HW_.out (by kernel_rfl)) (fun _ _ _ h => h) (Or.inl ⟨by rfl, ?_⟩) hHeld ?_ ?_
             rotate_left
             ·rintro w' ⟨s0, s1, s2, s3, s4, s5, s6, s7, s8, s9, s10, s11, s12, s13⟩
              go_simp
              with_reducible rfl
             rotate_left
             ·simp only [Act.put, Sa21, Sb21, Sc21, Zk, Zl]
              rfl
             refine take_ (i := 3) (N := some 89) (v := ?_) (a' := ?_) (Bm21 26 31) rfl rfl (Zr HT_.out HW_.out (by kernel_rfl)) (fun _ _ _ h => h) (Or.inl ⟨by rfl, ?_⟩) hHeld ?_ ?_
             rotate_left
             ·rintro w' ⟨s0, s1, s2, s3, s4, s5, s6, s7, s8, s9, s10, s11, s12, s13⟩
              go_simp
              with_reducible rfl
             rotate_left
             ·simp only [Act.put, Sa21, Sb21, Sc21, Zk, Zl]
              rfl
             refine Zm (i := 5) (N := some 91) (v := ?_) (a' := ?_) (Bm21 26 63) rfl rfl (Zj HT_.out (by kernel_rfl)) (fun _ _ _ h => h) (Or.inl ⟨by rfl, ?_⟩) ?_ ?_
             rotate_left
             ·intro w'
              go_simp
              with_reducible rfl
             rotate_left
             ·simp only [Act.put, Sa21, Sb21, Sc21, Zk, Zl]
              rfl
             refine Zm (i := 6) (N := some 92) (v := ?_) (a' := ?_) (Bm21 26 127) rfl rfl (Zj HT_.out (by kernel_rfl)) (fun _ _ _ h => h) (Or.inl ⟨by rfl, ?_⟩) ?_ ?_
             rotate_left
             ·intro w'
              go_simp
              with_reducible rfl
             rotate_left
             ·simp only [Act.put, Sa21, Sb21, Sc21, Zk, Zl]
              rfl
             refine take_ (i := 7) (N := some 93) (v := ?_) (a' := ?_) (Bm21 26 255) rfl rfl (Zr HT_.out HW_.out (by kernel_rfl)) (fun _ _ _ h => h) (Or.inl ⟨by rfl, ?_⟩) hHeld ?_ ?_
             rotate_left
             ·rintro w' ⟨s0, s1, s2, s3, s4, s5, s6, s7, s8, s9, s10, s11, s12, s13⟩
              go_simp
              with_reducible rfl
             rotate_left
             ·simp only [Act.put, Sa21, Sb21, Sc21, Zk, Zl]
              rfl
             refine Zm (i := 8) (N := some 94) (v := ?_) (a' := ?_) (Bm21 26 511) rfl rfl (Zj HT_.out (by kernel_rfl)) (fun _ _ _ h => h) (Or.inl ⟨by rfl, ?_⟩) ?_ ?_
             rotate_left
             ·intro w'
              go_simp
              with_reducible rfl
             rotate_left
             ·simp only [Act.put, Sa21, Sb21, Sc21, Zk, Zl]
              rfl
             refine Zm (i := 9) (N := some 95) (v := ?_) (a' := ?_) (Bm21 26 1023) rfl rfl (Zj HT_.out (by kernel_rfl)) (fun _ _ _ h => h) (Or.inl ⟨by rfl, ?_⟩) ?_ ?_
             rotate_left
             ·intro w'
              go_simp
              with_reducible rfl
             rotate_left
             ·simp only [Act.put, Sa21, Sb21, Sc21, Zk, Zl]
              rfl
             refine Zm (i := 10) (N := some 96) (v := ?_) (a' := ?_) (Bm21 26 2047) rfl rfl (Zj HT_.out (by kernel_rfl)) (fun _ _ _ h => h) (Or.inl ⟨by rfl, ?_⟩) ?_ ?_
             rotate_left
             ·intro w'
              go_simp
              with_reducible rfl
             rotate_left
             ·simp only [Act.put, Sa21, Sb21, Sc21, Zk, Zl]
              rfl
             refine Zm (i := 12) (N := some 98) (v := ?_) (a' := ?_) (Bm21 26 6143) rfl rfl (Zj HT_.out (by kernel_rfl)) (fun _ _ _ h => h) (Or.inl ⟨by rfl, ?_⟩) ?_ ?_
             rotate_left
             ·intro w'
              go_simp
              with_reducible rfl
             rotate_left
             ·simp only [Act.put, Sa21, Sb21, Sc21, Zk, Zl]
              rfl
             refine Zm (i := 14) (N := some 100) (v := ?_) (a' := ?_) (Bm21 26 22527) rfl rfl (Zj HT_.out (by kernel_rfl)) (fun _ _ _ h => h) (Or.inl ⟨by rfl, ?_⟩) ?_ ?_
             rotate_left
             ·intro w'
              go_simp
              with_reducible rfl
             rotate_left
             ·simp only [Act.put, Sa21, Sb21, Sc21, Zk, Zl]
              rfl
             refine take_ (i := 11) (N := some 97) (v := ?_) (a' := ?_) (Bm21 26 24575) rfl rfl (Zr HT_.out HW_.out (by kernel_rfl)) (fun _ _ _ h => h) (Or.inl ⟨by rfl, ?_⟩) hHeld ?_ ?_
             rotate_left
             ·rintro w' ⟨s0, s1, s2, s3, s4, s5, s6, s7, s8, s9, s10, s11, s12, s13⟩
              go_simp
              with_reducible rfl
             rotate_left
             ·simp only [Act.put, Sa21, Sb21, Sc21, Zk, Zl]
              rfl
             refine take_ (i := 13) (N := some 99) (v := ?_) (a' := ?_) (Bm21 26 32767) rfl rfl (Zr HT_.out HW_.out (by kernel_rfl)) (fun _ _ _ h => h) (Or.inl ⟨by rfl, ?_⟩) hHeld ?_ ?_
             rotate_left
             ·rintro w' ⟨s0, s1, s2, s3, s4, s5, s6, s7, s8, s9, s10, s11, s12, s13⟩
              go_simp
              with_reducible rfl
             rotate_left
             ·simp only [Act.put, Sa21, Sb21, Sc21, Zk, Zl]
              rfl
             refine Zm (i := 15) (N := some 101) (v := ?_) (a' := ?_) (Bm21 26 65535) rfl rfl (Zj HT_.out (by kernel_rfl)) (fun _ _ _ h => h) (Or.inl ⟨by rfl, ?_⟩) ?_ ?_
             rotate_left
             ·intro w'
              go_simp
              with_reducible rfl
             rotate_left
             ·simp only [Act.put, Sa21, Sb21, Sc21, Zk, Zl]
              rfl
             refine Zm (i := 16) (N := some 102) (v := ?_) (a' := ?_) (Bm21 26 131071) rfl rfl (Zj HT_.out (by kernel_rfl)) (fun _ _ _ h => h) (Or.inl ⟨by rfl, ?_⟩) ?_ ?_
             rotate_left
             ·intro w'
              go_simp
              with_reducible rfl
             rotate_left
             ·simp only [Act.put, Sa21, Sb21, Sc21, Zk, Zl]
              rfl
             refine take_ (i := 17) (N := some 103) (v := ?_) (a' := ?_) (Bm21 26 262143) rfl rfl (Zr HT_.out HW_.out (by kernel_rfl)) (fun _ _ _ h => h) (Or.inl ⟨by rfl, ?_⟩) hHeld ?_ ?_
             rotate_left
             ·rintro w' ⟨s0, s1, s2, s3, s4, s5, s6, s7, s8, s9, s10, s11, s12, s13⟩
              go_simp
              with_reducible rfl
             rotate_left
             ·simp only [Act.put, Sa21, Sb21, Sc21, Zk, Zl]
              rfl
             refine Zm (i := 18) (N := some 104) (v := ?_) (a' := ?_) (Bm21 26 524287) rfl rfl (Zj HT_.out (by kernel_rfl)) (fun _ _ _ h => h) (Or.inl ⟨by rfl, ?_⟩) ?_ ?_
             rotate_left
             ·intro w'
              go_simp
              with_reducible rfl
             rotate_left
             ·simp only [Act.put, Sa21, Sb21, Sc21, Zk, Zl]
              rfl
             refine Zm (i := 19) (N := some 105) (v := ?_) (a' := ?_) (Bm21 26 1048575) rfl rfl (Zj HT_.out (by kernel_rfl)) (fun _ _ _ h => h) (Or.inl ⟨by rfl, ?_⟩) ?_ ?_
             rotate_left
             ·intro w'
              go_simp
              with_reducible rfl
             rotate_left
             ·simp only [Act.put, Sa21, Sb21, Sc21, Zk, Zl]
              rfl
             refine Zm (i := 20) (N := some 106) (v := ?_) (a' := ?_) (Bm21 26 2097151) rfl rfl (Zj HT_.out (by kernel_rfl)) (fun _ _ _ h => h) (Or.inl ⟨by rfl, ?_⟩) ?_ ?_
             rotate_left
             ·intro w'
              go_simp
              with_reducible rfl
             rotate_left
             ·simp only [Act.put, Sa21, Sb21, Sc21, Zk, Zl]
              rfl
             refine Zm (i := 21) (N := some 107) (v := undef) (a' := ?_) (Bm21 26 4194303) rfl rfl (Zj HT_.out (by kernel_rfl)) (fun _ _ _ h => h) (Or.inr ⟨by rfl, rfl⟩) ?_ ?_
             rotate_left
             ·simp only [Act.put, Sa21, Sb21, Sc21, Zk, Zl]
              rfl
             refine Zm (i := 22) (N := some 108) (v := undef) (a' := ?_) (Bm21 26 8388607) rfl rfl (Zj HT_.out (by kernel_rfl)) (fun _ _ _ h => h) (Or.inr ⟨by rfl, rfl⟩) ?_ ?_
             rotate_left
             ·simp only [Act.put, Sa21, Sb21, Sc21, Zk, Zl]
              rfl
             refine Zm (i := 23) (N := some 109) (v := undef) (a' := ?_) (Bm21 26 16777215) rfl rfl (Zj HT_.out (by kernel_rfl)) (fun _ _ _ h => h) (Or.inr ⟨by rfl, rfl⟩) ?_ ?_
             rotate_left
             ·simp only [Act.put, Sa21, Sb21, Sc21, Zk, Zl]
              rfl
             refine Zm (i := 24) (N := some 110) (v := undef) (a' := ?_) (Bm21 26 33554431) rfl rfl (Zj HT_.out (by kernel_rfl)) (fun _ _ _ h => h) (Or.inr ⟨by rfl, rfl⟩) ?_ ?_
             rotate_left
             ·simp only [Act.put, Sa21, Sb21, Sc21, Zk, Zl]
              rfl
             refine Zm (i := 25) (N := some 111) (v := ?_) (a' := ?_) (Bm21 26 67108863) rfl rfl (Zj HT_.out (by kernel_rfl)) (fun _ _ _ h => h) (Or.inl ⟨by rfl, ?_⟩) ?_ ?_
             rotate_left
             ·intro w'
              go_simp
              with_reducible rfl
             rotate_left
             ·simp only [Act.put, Sa21, Sb21, Sc21, Zk, Zl]
              rfl
             refine done_ (done_of HT_.out (by kernel_rfl)) ?_
             try go_wp2
             go_meet
             case rel => exact ⟨_, (true), (by first | rfl | (simp; done) | (simp [*]; done)), H', ⟨by have := HJ1.out; have := HK2.out; have := HK3.out; first | omega | exact Nat.le_refl _⟩, ⟨by (with_reducible repeat (first | apply Kd.R_alloc | apply Kd.R_drewN | apply Kd.R_drew)); exact HO_121000.out⟩, ⟨by (with_reducible repeat (first | apply Kd.S_alloc | apply Kd.S_drewN | apply Kd.S_drew)); exact HO_121001.out⟩, ⟨by (with_reducible repeat (first | apply Kd.S_alloc | apply Kd.S_drewN | apply Kd.S_drew)); exact HO_121002.out⟩, ⟨by (with_reducible repeat (first | refine Zh ?_ _ | refine Zi ?_ | refine Zg ?_ _)); exact BK101.out⟩, ⟨by (with_reducible repeat (first | refine Zh ?_ _ | refine Zi ?_ | refine Zg ?_ _)); exact BK120.out⟩, ⟨by (with_reducible repeat (first | refine Zh ?_ _ | refine Zi ?_ | refine Zg ?_ _)); exact BK123.out⟩, ⟨by repeat (first | (with_reducible first | exact HB.out | apply Ze | apply Za | apply Zd | refine Zf ?_ GE101.out | refine Zf ?_ GE120.out | refine Zf ?_ GE123.out) | exact HB.out)⟩⟩
           ·rw [if_neg c48] at H
            have c48b0 : (((rd_T94 l0_1 x81_3).f0) == ((rd_T94 t112 x81_3).f0)) = false := beq_eq_false_iff_ne.mpr c48
            have c48b1 : (((rd_T94 l0_1 x81_3).f0) != ((rd_T94 t112 x81_3).f0)) = true := bne_iff_ne.mpr c48
            have H' := Aside0.mk H
            clear H
            try go_wp2
            have n0_ : Aside0 (Kd.R (Kd.int .i64) 3 (((w43.setCell ⟨gb123, 0, none⟩ (.int .i64 ((rd_T94 l0_1 x81_3).f0))).setCell ⟨gb123, 1, none⟩ (.int .i64 ((rd_T94 l0_1 x81_3).f1))).setCell ⟨gb123, 2, none⟩ (.slice A122_2 ((rd_T94 l0_1 x81_3).f2).length c122_2)) w.heap.size (fun _ => True) (.slice Ao33 t109.length co33) t109) := ⟨by (with_reducible repeat (first | apply Kd.R_alloc | apply Kd.R_drewN | apply Kd.R_drew)); exact Kd.R_mono (Kd.R_far (p := ⟨gb123, 2, none⟩) (Kd.R_far (p := ⟨gb123, 1, none⟩) (Kd.R_far (p := ⟨gb123, 0, none⟩) (Kd.R_types HO_121000.out BK123.out (by decide)) (fun _ hk => hk.2) (.int .i64 ((rd_T94 l0_1 x81_3).f0))) (fun _ hk => hk.2) (.int .i64 ((rd_T94 l0_1 x81_3).f1))) (fun _ hk => hk.2) (.slice A122_2 ((rd_T94 l0_1 x81_3).f2).length c122_2)) (fun _ hk => trivial)⟩
            have n1_ : Aside0 (Kd.S k94 94 (((w43.setCell ⟨gb123, 0, none⟩ (.int .i64 ((rd_T94 l0_1 x81_3).f0))).setCell ⟨gb123, 1, none⟩ (.int .i64 ((rd_T94 l0_1 x81_3).f1))).setCell ⟨gb123, 2, none⟩ (.slice A122_2 ((rd_T94 l0_1 x81_3).f2).length c122_2)) w.heap.size (fun k_ => some k_ ≠ (.slice Ao33 t109.length co33 : Value).ownBlock ∧ k_ ≠ gb123) (.slice Ao36 t112.length co36) t112) := ⟨by (with_reducible repeat (first | apply Kd.S_alloc | apply Kd.S_drewN | apply Kd.S_drew)); exact Kd.S_mono (Kd.S_far (p := ⟨gb123, 2, none⟩) (Kd.S_far (p := ⟨gb123, 1, none⟩) (Kd.S_far (p := ⟨gb123, 0, none⟩) (Kd.S_mono HO_121001.out (fun k_ hk => (⟨hk, hk.2⟩ : _ ∧ k_ ≠ gb123))) (fun _ hk => hk.2) (.int .i64 ((rd_T94 l0_1 x81_3).f0))) (fun _ hk => hk.2) (.int .i64 ((rd_T94 l0_1 x81_3).f1))) (fun _ hk => hk.2) (.slice A122_2 ((rd_T94 l0_1 x81_3).f2).length c122_2)) (fun _ hk => ⟨hk.1.1, hk.1.2⟩)⟩
            have n2_ : Aside0 (Kd.S k76 76 (((w43.setCell ⟨gb123, 0, none⟩ (.int .i64 ((rd_T94 l0_1 x81_3).f0))).setCell ⟨gb123, 1, none⟩ (.int .i64 ((rd_T94 l0_1 x81_3).f1))).setCell ⟨gb123, 2, none⟩ (.slice A122_2 ((rd_T94 l0_1 x81_3).f2).length c122_2)) w.heap.size (fun k_ => some k_ ≠ (.slice Ao33 t109.length co33 : Value).ownBlock) (.slice Ao37 t115.length co37) t115) := ⟨by (with_reducible repeat (first | apply Kd.S_alloc | apply Kd.S_drewN | apply Kd.S_drew)); exact Kd.S_mono (Kd.S_far (p := ⟨gb123, 2, none⟩) (Kd.S_far (p := ⟨gb123, 1, none⟩) (Kd.S_far (p := ⟨gb123, 0, none⟩) (Kd.S_types HO_121002.out BK123.out (by decide)) (fun _ hk => hk.2) (.int .i64 ((rd_T94 l0_1 x81_3).f0))) (fun _ hk => hk.2) (.int .i64 ((rd_T94 l0_1 x81_3).f1))) (fun _ hk => hk.2) (.slice A122_2 ((rd_T94 l0_1 x81_3).f2).length c122_2)) (fun _ hk => hk.1)⟩
            have n3_ : Aside0 ((((w43.setCell ⟨gb123, 0, none⟩ (.int .i64 ((rd_T94 l0_1 x81_3).f0))).setCell ⟨gb123, 1, none⟩ (.int .i64 ((rd_T94 l0_1 x81_3).f1))).setCell ⟨gb123, 2, none⟩ (.slice A122_2 ((rd_T94 l0_1 x81_3).f2).length c122_2)).heap[gb101]? = some (.cells #[.slice A0_0 l0_0.length c0_0, .slice (some ad122) l0_1.length c0_1, .slice A0_2 l0_2.length c0_2, .int .i64 a0_3, .int .i64 a0_4] 35 (0, 0))) := ⟨by (with_reducible repeat (first | refine Zh ?_ _ | refine Zi ?_ | refine Zg ?_ _)); refine Zs ?_ NB101_123.out _; (with_reducible repeat (first | refine Zh ?_ _ | refine Zi ?_ | refine Zg ?_ _)); refine Zs ?_ NB101_123.out _; (with_reducible repeat (first | refine Zh ?_ _ | refine Zi ?_ | refine Zg ?_ _)); refine Zs ?_ NB101_123.out _; (with_reducible repeat (first | refine Zh ?_ _ | refine Zi ?_ | refine Zg ?_ _)); exact BK101.out⟩
            have n4_ : Aside0 ((((w43.setCell ⟨gb123, 0, none⟩ (.int .i64 ((rd_T94 l0_1 x81_3).f0))).setCell ⟨gb123, 1, none⟩ (.int .i64 ((rd_T94 l0_1 x81_3).f1))).setCell ⟨gb123, 2, none⟩ (.slice A122_2 ((rd_T94 l0_1 x81_3).f2).length c122_2)).heap[gb120]? = some (.cells #[.slice Ao33 t109.length co33, .slice Ao36 t112.length co36, .slice Ao37 t115.length co37, .int .i64 t118, .int .i64 t119] 35 (0, 0))) := ⟨by (with_reducible repeat (first | refine Zh ?_ _ | refine Zi ?_ | refine Zg ?_ _)); refine Zs ?_ NB120_123.out _; (with_reducible repeat (first | refine Zh ?_ _ | refine Zi ?_ | refine Zg ?_ _)); refine Zs ?_ NB120_123.out _; (with_reducible repeat (first | refine Zh ?_ _ | refine Zi ?_ | refine Zg ?_ _)); refine Zs ?_ NB120_123.out _; (with_reducible repeat (first | refine Zh ?_ _ | refine Zi ?_ | refine Zg ?_ _)); exact BK120.out⟩
            have n5_ : Aside0 ((((w43.setCell ⟨gb123, 0, none⟩ (.int .i64 ((rd_T94 l0_1 x81_3).f0))).setCell ⟨gb123, 1, none⟩ (.int .i64 ((rd_T94 l0_1 x81_3).f1))).setCell ⟨gb123, 2, none⟩ (.slice A122_2 ((rd_T94 l0_1 x81_3).f2).length c122_2)).heap[gb123]? = some (.cells #[.int .i64 ((rd_T94 l0_1 x81_3).f0), .int .i64 ((rd_T94 l0_1 x81_3).f1), .slice A122_2 ((rd_T94 l0_1 x81_3).f2).length c122_2] 94 (0, 0))) := ⟨by (with_reducible repeat (first | refine Zh ?_ _ | refine Zi ?_ | refine Zg ?_ _)); refine Zu (cs := #[.int .i64 ((rd_T94 l0_1 x81_3).f0), .int .i64 ((rd_T94 l0_1 x81_3).f1), .slice none 0 0]) ?_ 2 _ rfl; (with_reducible repeat (first | refine Zh ?_ _ | refine Zi ?_ | refine Zg ?_ _)); refine Zu (cs := #[.int .i64 ((rd_T94 l0_1 x81_3).f0), .int .i64 0, .slice none 0 0]) ?_ 1 _ rfl; (with_reducible repeat (first | refine Zh ?_ _ | refine Zi ?_ | refine Zg ?_ _)); refine Zu (cs := #[.int .i64 0, .int .i64 0, .slice none 0 0]) ?_ 0 _ rfl; (with_reducible repeat (first | refine Zh ?_ _ | refine Zi ?_ | refine Zg ?_ _)); exact BK123.out⟩
            have n6_ : Aside0 (Below w.heap.size w (((w43.setCell ⟨gb123, 0, none⟩ (.int .i64 ((rd_T94 l0_1 x81_3).f0))).setCell ⟨gb123, 1, none⟩ (.int .i64 ((rd_T94 l0_1 x81_3).f1))).setCell ⟨gb123, 2, none⟩ (.slice A122_2 ((rd_T94 l0_1 x81_3).f2).length c122_2))) := ⟨by repeat (first | (with_reducible first | exact HB.out | apply Ze | apply Za | apply Zd | refine Zf ?_ GE101.out | refine Zf ?_ GE120.out | refine Zf ?_ GE123.out) | exact HB.out)⟩
            (try clear HO_121000)
            (try clear HO_121001)
            (try clear HO_121002)
            (try clear BK101)
            (try clear BK120)
            (try clear BK123)
            (try clear HB)
            generalize (((w43.setCell ⟨gb123, 0, none⟩ (.int .i64 ((rd_T94 l0_1 x81_3).f0))).setCell ⟨gb123, 1, none⟩ (.int .i64 ((rd_T94 l0_1 x81_3).f1))).setCell ⟨gb123, 2, none⟩ (.slice A122_2 ((rd_T94 l0_1 x81_3).f2).length c122_2)) = w54 at n0_ n1_ n2_ n3_ n4_ n5_ n6_ ⊢
            have HO_121000 := n0_
            have HO_121001 := n1_
            have HO_121002 := n2_
            have BK101 := n3_
            have BK120 := n4_
            have BK123 := n5_
            have HB := n6_
            clear n0_ n1_ n2_ n3_ n4_ n5_ n6_
            have n0_ := Aside0.mk (Kd.R_drew HO_121000.out)
            have n1_ := Aside0.mk (Kd.S_drew HO_121001.out)
            have n2_ := Aside0.mk (Kd.S_drew HO_121002.out)
            have n3_ := Aside0.mk (Zi BK101.out)
            have n4_ := Aside0.mk (Zi BK120.out)
            have n5_ := Aside0.mk (Zi BK123.out)
            have n6_ := Aside0.mk (Zd HB.out)
            clear HO_121000
            clear HO_121001
            clear HO_121002
            clear BK101
            clear BK120
            clear BK123
            clear HB
            have HO_121000 := n0_
            have HO_121001 := n1_
            have HO_121002 := n2_
            have BK101 := n3_
            have BK120 := n4_
            have BK123 := n5_
            have HB := n6_
            clear n0_ n1_ n2_ n3_ n4_ n5_ n6_
            have p124 : 0 ≤ (x81_3 : Int) := of_decide_eq_true (by assumption)
            have q124 : x81_3 < (t112.length : Int) := of_decide_eq_true (by assumption)
            obtain ⟨ad124, A124_2, c124_2, e124, hx124_0, hx124_1, hx124_2, hl124_2, hi124_2⟩ := at_T94 (Kd.S_reads' HO_121001.out).2.2 x81_3 p124 q124
            cases e124
            obtain ⟨ce124, hce124, hMe124, hcc124⟩ := Kd.S_get HO_121001.out z94 x81_3 p124 (by first | exact q124 | exact of_decide_eq_true (by assumption) | (have e_ := (Kd.S_reads' HO_121001.out).1; omega))
            obtain ⟨ve124_2, rfl, ge124_2⟩ := k94_openM hMe124
            have hv124_2 := hcc124 2 _ rfl
            rw [add_field _ _ 2 (by omega)] at hv124_2
            replace hv124_2 := Option.some.inj (hv124_2.symm.trans hx124_2)
            rw [hv124_2] at ge124_2
            have HL124_2 := Aside0.mk (show Kd.R (Kd.int .i64) 3 _ _ _ _ ((rd_T94 t112 x81_3).f2) from ge124_2)
            clear hv124_2 ge124_2
            clear hcc124 hce124
            have HR124_2 := Aside0.mk hi124_2
            have HC124_2 := Aside0.mk hl124_2
            clear hi124_2 hl124_2
            replace p124 := eq_true p124
            replace q124 := eq_true q124
            refine start_ (n := 26) (S := fun w' => w'.cell? ⟨gb123, 0, none⟩ = some (.int .i64 ((rd_T94 l0_1 x81_3).f0)) ∧ w'.cell? ⟨gb123, 1, none⟩ = some (.int .i64 ((rd_T94 l0_1 x81_3).f1)) ∧ w'.cell? ⟨gb123, 2, none⟩ = some (.slice A122_2 ((rd_T94 l0_1 x81_3).f2).length c122_2) ∧ w'.cell? ⟨gb120, 0, none⟩ = some (.slice Ao33 t109.length co33) ∧ w'.cell? ⟨gb120, 1, none⟩ = some (.slice (some ad124) t112.length co36) ∧ w'.cell? ⟨gb120, 2, none⟩ = some (.slice Ao37 t115.length co37) ∧ w'.cell? ⟨gb120, 3, none⟩ = some (.int .i64 t118) ∧ w'.cell? ⟨gb120, 4, none⟩ = some (.int .i64 t119) ∧ w'.cell? (ad124.add ((x81_3).toNat * 3)) = some (.int .i64 ((rd_T94 t112 x81_3).f0)) ∧ w'.cell? ⟨(ad124.add ((x81_3).toNat * 3)).block, (ad124.add ((x81_3).toNat * 3)).off + 1, none⟩ = some (.int .i64 ((rd_T94 t112 x81_3).f1)) ∧ w'.cell? ⟨(ad124.add ((x81_3).toNat * 3)).block, (ad124.add ((x81_3).toNat * 3)).off + 2, none⟩ = some (.slice A124_2 ((rd_T94 t112 x81_3).f2).length c124_2)) (ds := []) #[false, false, false, false, false, false, false, false, false, false, false, false, false, false, false, false, false, false, false, false, false, false, false, false, false, false] (by kernel_rfl) rfl rfl ⟨(Zb BK123.out 0).trans rfl, (Zb BK123.out 1).trans rfl, (Zb BK123.out 2).trans rfl, (Zb BK120.out 0).trans rfl, (Zb BK120.out 1).trans rfl, (Zb BK120.out 2).trans rfl, (Zb BK120.out 3).trans rfl, (Zb BK120.out 4).trans rfl, hx124_0, hx124_1, hx124_2⟩ (fun hHeld => ?_); refine with_tabW impl_isSnap.tab16 impl_isSnap.bits16 (fun HT_ HW_ => ?_)
            generalize w54.drew = w55 at HO_121000 HO_121001 HO_121002 BK101 BK120 BK123 HB HL124_2 HR124_2 hx124_0 hx124_1 hx124_2 hHeld ⊢
            refine Zm (i := 0) (N := some 86) (v := ?_) (a' := ?_) (Bm21 26 1) rfl rfl (Zj HT_.out (by kernel_rfl)) (fun _ _ _ h => h) (Or.inl ⟨by rfl, ?_⟩) ?_ ?_
            rotate_left
            ·intro w'
             go_simp
             with_reducible rfl
            rotate_left
            ·simp only [Act.put, Sa21, Sb21, Sc21, Zk, Zl]
             rfl
            refine Zm (i := 2) (N := some 88) (v := ?_) (a' := ?_) (Bm21 26 5) rfl rfl (Zj HT_.out (by kernel_rfl)) (fun _ _ _ h => h) (Or.inl ⟨by rfl, ?_⟩) ?_ ?_
            rotate_left
            ·intro w'
             go_simp
             with_reducible rfl
            rotate_left
            ·simp only [Act.put, Sa21, Sb21, Sc21, Zk, Zl]
             rfl
            refine Zm (i := 4) (N := some 90) (v := ?_) (a' := ?_) (Bm21 26 21) rfl rfl (Zj HT_.out (by kernel_rfl)) (fun _ _ _ h => h) (Or.inl ⟨by rfl, ?_⟩) ?_ ?_
            rotate_left
            ·intro w'
             go_simp
             with_reducible rfl
            rotate_left
            ·simp only [Act.put, Sa21, Sb21, Sc21, Zk, Zl]
             rfl
            refine take_ (i := 1) (N := some 87) (v := ?_) (a' := ?_) (Bm21 26 23) rfl rfl (Zr HT_.out HW_.out (by kernel_rfl)) (fun _ _ _ h => h) (Or.inl ⟨by rfl, ?_⟩) hHeld ?_ ?_
            rotate_left
            ·rintro w' ⟨s0, s1, s2, s3, s4, s5, s6, s7, s8, s9, s10⟩
             go_simp
             with_reducible rfl
            rotate_left
            ·simp only [Act.put, Sa21, Sb21, Sc21, Zk, Zl]
             rfl
            refine take_ (i := 3) (N := some 89) (v := ?_) (a' := ?_) (Bm21 26 31) rfl rfl (Zr HT_.out HW_.out (by kernel_rfl)) (fun _ _ _ h => h) (Or.inl ⟨by rfl, ?_⟩) hHeld ?_ ?_
            rotate_left
            ·rintro w' ⟨s0, s1, s2, s3, s4, s5, s6, s7, s8, s9, s10⟩
             go_simp
             with_reducible rfl
            rotate_left
            ·simp only [Act.put, Sa21, Sb21, Sc21, Zk, Zl]
             rfl
            refine Zm (i := 5) (N := some 91) (v := ?_) (a' := ?_) (Bm21 26 63) rfl rfl (Zj HT_.out (by kernel_rfl)) (fun _ _ _ h => h) (Or.inl ⟨by rfl, ?_⟩) ?_ ?_
            rotate_left
            ·intro w'
             go_simp
             with_reducible rfl
            rotate_left
            ·simp only [Act.put, Sa21, Sb21, Sc21, Zk, Zl]
             rfl
            refine Zm (i := 6) (N := some 92) (v := ?_) (a' := ?_) (Bm21 26 127) rfl rfl (Zj HT_.out (by kernel_rfl)) (fun _ _ _ h => h) (Or.inl ⟨by rfl, ?_⟩) ?_ ?_
            rotate_left
            ·intro w'
             go_simp
             with_reducible rfl
            rotate_left
            ·simp only [Act.put, Sa21, Sb21, Sc21, Zk, Zl]
             rfl
            refine take_ (i := 7) (N := some 93) (v := ?_) (a' := ?_) (Bm21 26 255) rfl rfl (Zr HT_.out HW_.out (by kernel_rfl)) (fun _ _ _ h => h) (Or.inl ⟨by rfl, ?_⟩) hHeld ?_ ?_
            rotate_left
            ·rintro w' ⟨s0, s1, s2, s3, s4, s5, s6, s7, s8, s9, s10⟩
             go_simp
             with_reducible rfl
            rotate_left
            ·simp only [Act.put, Sa21, Sb21, Sc21, Zk, Zl]
             rfl
            refine Zm (i := 8) (N := some 94) (v := ?_) (a' := ?_) (Bm21 26 511) rfl rfl (Zj HT_.out (by kernel_rfl)) (fun _ _ _ h => h) (Or.inl ⟨by rfl, ?_⟩) ?_ ?_
            rotate_left
            ·intro w'
             go_simp
             with_reducible rfl
            rotate_left
            ·simp only [Act.put, Sa21, Sb21, Sc21, Zk, Zl]
             rfl
            refine Zm (i := 9) (N := some 95) (v := ?_) (a' := ?_) (Bm21 26 1023) rfl rfl (Zj HT_.out (by kernel_rfl)) (fun _ _ _ h => h) (Or.inl ⟨by rfl, ?_⟩) ?_ ?_
            rotate_left
            ·intro w'
             go_simp
             with_reducible rfl
            rotate_left
            ·simp only [Act.put, Sa21, Sb21, Sc21, Zk, Zl]
             rfl
            refine Zm (i := 10) (N := some 96) (v := undef) (a' := ?_) (Bm21 26 2047) rfl rfl (Zj HT_.out (by kernel_rfl)) (fun _ _ _ h => h) (Or.inr ⟨by rfl, rfl⟩) ?_ ?_
            rotate_left
            ·simp only [Act.put, Sa21, Sb21, Sc21, Zk, Zl]
             rfl
            refine Zm (i := 11) (N := some 97) (v := undef) (a' := ?_) (Bm21 26 4095) rfl rfl (Zj HT_.out (by kernel_rfl)) (fun _ _ _ h => h) (Or.inr ⟨by rfl, rfl⟩) ?_ ?_
            rotate_left
            ·simp only [Act.put, Sa21, Sb21, Sc21, Zk, Zl]
             rfl
            refine Zm (i := 12) (N := some 98) (v := undef) (a' := ?_) (Bm21 26 8191) rfl rfl (Zj HT_.out (by kernel_rfl)) (fun _ _ _ h => h) (Or.inr ⟨by rfl, rfl⟩) ?_ ?_
            rotate_left
            ·simp only [Act.put, Sa21, Sb21, Sc21, Zk, Zl]
             rfl
            refine Zm (i := 13) (N := some 99) (v := undef) (a' := ?_) (Bm21 26 16383) rfl rfl (Zj HT_.out (by kernel_rfl)) (fun _ _ _ h => h) (Or.inr ⟨by rfl, rfl⟩) ?_ ?_
            rotate_left
            ·simp only [Act.put, Sa21, Sb21, Sc21, Zk, Zl]
             rfl
            refine Zm (i := 14) (N := some 100) (v := undef) (a' := ?_) (Bm21 26 32767) rfl rfl (Zj HT_.out (by kernel_rfl)) (fun _ _ _ h => h) (Or.inr ⟨by rfl, rfl⟩) ?_ ?_
            rotate_left
            ·simp only [Act.put, Sa21, Sb21, Sc21, Zk, Zl]
             rfl
            refine Zm (i := 15) (N := some 101) (v := undef) (a' := ?_) (Bm21 26 65535) rfl rfl (Zj HT_.out (by kernel_rfl)) (fun _ _ _ h => h) (Or.inr ⟨by rfl, rfl⟩) ?_ ?_
            rotate_left
            ·simp only [Act.put, Sa21, Sb21, Sc21, Zk, Zl]
             rfl
            refine Zm (i := 16) (N := some 102) (v := undef) (a' := ?_) (Bm21 26 131071) rfl rfl (Zj HT_.out (by kernel_rfl)) (fun _ _ _ h => h) (Or.inr ⟨by rfl, rfl⟩) ?_ ?_
            rotate_left
            ·simp only [Act.put, Sa21, Sb21, Sc21, Zk, Zl]
             rfl
            refine Zm (i := 17) (N := some 103) (v := undef) (a' := ?_) (Bm21 26 262143) rfl rfl (Zj HT_.out (by kernel_rfl)) (fun _ _ _ h => h) (Or.inr ⟨by rfl, rfl⟩) ?_ ?_
            rotate_left
            ·simp only [Act.put, Sa21, Sb21, Sc21, Zk, Zl]
             rfl
            refine Zm (i := 18) (N := some 104) (v := undef) (a' := ?_) (Bm21 26 524287) rfl rfl (Zj HT_.out (by kernel_rfl)) (fun _ _ _ h => h) (Or.inr ⟨by rfl, rfl⟩) ?_ ?_
            rotate_left
            ·simp only [Act.put, Sa21, Sb21, Sc21, Zk, Zl]
             rfl
            refine Zm (i := 19) (N := some 105) (v := ?_) (a' := ?_) (Bm21 26 1048575) rfl rfl (Zj HT_.out (by kernel_rfl)) (fun _ _ _ h => h) (Or.inl ⟨by rfl, ?_⟩) ?_ ?_
            rotate_left
            ·intro w'
             go_simp
             with_reducible rfl
            rotate_left
            ·simp only [Act.put, Sa21, Sb21, Sc21, Zk, Zl]
             rfl
            refine Zm (i := 20) (N := some 106) (v := ?_) (a' := ?_) (Bm21 26 2097151) rfl rfl (Zj HT_.out (by kernel_rfl)) (fun _ _ _ h => h) (Or.inl ⟨by rfl, ?_⟩) ?_ ?_
            rotate_left
            ·intro w'
             go_simp
             with_reducible rfl
            rotate_left
            ·simp only [Act.put, Sa21, Sb21, Sc21, Zk, Zl]
             rfl
            refine Zm (i := 21) (N := some 107) (v := undef) (a' := ?_) (Bm21 26 4194303) rfl rfl (Zj HT_.out (by kernel_rfl)) (fun _ _ _ h => h) (Or.inr ⟨by rfl, rfl⟩) ?_ ?_
            rotate_left
            ·simp only [Act.put, Sa21, Sb21, Sc21, Zk, Zl]
             rfl
            refine Zm (i := 22) (N := some 108) (v := undef) (a' := ?_) (Bm21 26 8388607) rfl rfl (Zj HT_.out (by kernel_rfl)) (fun _ _ _ h => h) (Or.inr ⟨by rfl, rfl⟩) ?_ ?_
            rotate_left
            ·simp only [Act.put, Sa21, Sb21, Sc21, Zk, Zl]
             rfl
            refine Zm (i := 23) (N := some 109) (v := undef) (a' := ?_) (Bm21 26 16777215) rfl rfl (Zj HT_.out (by kernel_rfl)) (fun _ _ _ h => h) (Or.inr ⟨by rfl, rfl⟩) ?_ ?_
            rotate_left
            ·simp only [Act.put, Sa21, Sb21, Sc21, Zk, Zl]
             rfl
            refine Zm (i := 24) (N := some 110) (v := undef) (a' := ?_) (Bm21 26 33554431) rfl rfl (Zj HT_.out (by kernel_rfl)) (fun _ _ _ h => h) (Or.inr ⟨by rfl, rfl⟩) ?_ ?_
            rotate_left
            ·simp only [Act.put, Sa21, Sb21, Sc21, Zk, Zl]
             rfl
            refine Zm (i := 25) (N := some 111) (v := ?_) (a' := ?_) (Bm21 26 67108863) rfl rfl (Zj HT_.out (by kernel_rfl)) (fun _ _ _ h => h) (Or.inl ⟨by rfl, ?_⟩) ?_ ?_
            rotate_left
            ·intro w'
             go_simp
             with_reducible rfl
            rotate_left
            ·simp only [Act.put, Sa21, Sb21, Sc21, Zk, Zl]
             rfl
            refine done_ (done_of HT_.out (by kernel_rfl)) ?_
            try go_wp2
            go_meet
            case rel => exact ⟨_, (true), (by first | rfl | (simp; done) | (simp [*]; done)), H', ⟨by have := HJ1.out; have := HK2.out; have := HK3.out; first | omega | exact Nat.le_refl _⟩, ⟨by (with_reducible repeat (first | apply Kd.R_alloc | apply Kd.R_drewN | apply Kd.R_drew)); exact HO_121000.out⟩, ⟨by (with_reducible repeat (first | apply Kd.S_alloc | apply Kd.S_drewN | apply Kd.S_drew)); exact HO_121001.out⟩, ⟨by (with_reducible repeat (first | apply Kd.S_alloc | apply Kd.S_drewN | apply Kd.S_drew)); exact HO_121002.out⟩, ⟨by (with_reducible repeat (first | refine Zh ?_ _ | refine Zi ?_ | refine Zg ?_ _)); exact BK101.out⟩, ⟨by (with_reducible repeat (first | refine Zh ?_ _ | refine Zi ?_ | refine Zg ?_ _)); exact BK120.out⟩, ⟨by (with_reducible repeat (first | refine Zh ?_ _ | refine Zi ?_ | refine Zg ?_ _)); exact BK123.out⟩, ⟨by repeat (first | (with_reducible first | exact HB.out | apply Ze | apply Za | apply Zd | refine Zf ?_ GE101.out | refine Zf ?_ GE120.out | refine Zf ?_ GE123.out) | exact HB.out)⟩⟩
          case rest =>
           clear HC42
           obtain ⟨kq, x111_41, rfl, HA, HJ41, HO_121000, HO_121001, HO_121002, BK101, BK120, BK123, HB⟩ := hcut
           cases kq with
           | zero => exact absurd HA.out (by simp [impl_isSnap.j3])
           | succ kj41 =>
            have H := HA.out
            clear HA
            simp only [impl_isSnap.j3] at H
            by_cases c56 : x111_41 = true
            ·subst c56
             rw [if_pos rfl] at H
             obtain rfl := Option.some.inj H
             go_wp2
             go_ret
             exact ⟨by first | rfl | (simp [errW_none, errW_some] <;> rfl) | (simp [*, errW_none, errW_some] <;> rfl), by repeat (first | (with_reducible first | exact HB.out | apply Ze | apply Za | apply Zd | refine Zf ?_ GE101.out | refine Zf ?_ GE120.out | refine Zf ?_ GE123.out) | exact HB.out)⟩
            ·replace c56 := Bool.eq_false_iff.mpr c56
             subst c56
             rw [if_neg (show ¬ (false = true) by decide)] at H
             have H' := Aside0.mk H
             clear H
             have hnb57 := NB123_101.out
             have hnc57 := NB101_123.out
             have hnb58 := NB123_120.out
             have hnc58 := NB120_123.out
             have hcz59_0 : wc.cell? ⟨gb123, 0, none⟩ = some (.int .i64 ((rd_T94 l0_1 x81_3).f0)) := (Zb BK123.out 0).trans rfl
             have hcz59_1 : wc.cell? ⟨gb123, 1, none⟩ = some (.int .i64 ((rd_T94 l0_1 x81_3).f1)) := (Zb BK123.out 1).trans rfl
             have hcz59_2 : wc.cell? ⟨gb123, 2, none⟩ = some (.slice A122_2 ((rd_T94 l0_1 x81_3).f2).length c122_2) := (Zb BK123.out 2).trans rfl
             have hfz59_0 := Zc BK123.out 0
             have hfz59_1 := Zc BK123.out 1
             have hfz59_2 := Zc BK123.out 2
             go_wp2
             go_loopg [10, 115] kj41 (fun kq v10 v115 w' => ∃ (x10_5 : Int) (x115_5 : Int), v10 = .int .i64 x10_5 ∧ v115 = .int .i64 x115_5 ∧ Aside0 (impl_isSnap.l2 kq x4_2 x10_5 l0_1 (l0_1.length : Int) x81_3 ((rd_T94 l0_1 x81_3).f2) (((rd_T94 l0_1 x81_3).f2).length : Int) x115_5 l0_0 l0_1 l0_2 a0_3 a0_4 t109 t112 t115 t118 t119 ((rd_T94 l0_1 x81_3).f0) ((rd_T94 l0_1 x81_3).f1) ((rd_T94 l0_1 x81_3).f2) = some r) ∧ Aside0 (kq ≤ kj41) ∧ Aside0 (Kd.R (Kd.int .i64) 3 w' w.heap.size (fun _ => True) (.slice Ao33 t109.length co33) t109) ∧ Aside0 (Kd.S k94 94 w' w.heap.size (fun k_ => some k_ ≠ ((.slice Ao33 t109.length co33) : Value).ownBlock ∧ k_ ≠ gb123) (.slice Ao36 t112.length co36) t112) ∧ Aside0 (Kd.S k76 76 w' w.heap.size (fun k_ => some k_ ≠ ((.slice Ao33 t109.length co33) : Value).ownBlock) (.slice Ao37 t115.length co37) t115) ∧ Aside0 (w'.heap[gb101]? = some (.cells #[(.slice A0_0 l0_0.length c0_0), (.slice (some ad122) l0_1.length c0_1), (.slice A0_2 l0_2.length c0_2), .int .i64 a0_3, .int .i64 a0_4] 35 (0, 0))) ∧ Aside0 (w'.heap[gb120]? = some (.cells #[(.slice Ao33 t109.length co33), (.slice Ao36 t112.length co36), (.slice Ao37 t115.length co37), .int .i64 t118, .int .i64 t119] 35 (0, 0))) ∧ Aside0 (w'.heap[gb123]? = some (.cells #[.int .i64 ((rd_T94 l0_1 x81_3).f0), .int .i64 ((rd_T94 l0_1 x81_3).f1), (.slice A122_2 ((rd_T94 l0_1 x81_3).f2).length c122_2)] 94 (0, 0))) ∧ Aside0 (Below w.heap.size w w'))
             case atStart => exact ⟨(0), (0), (by first | rfl | (simp; done) | (simp [*]; done)), (by first | rfl | (simp; done) | (simp [*]; done)), H', ⟨Nat.le_refl _⟩, ⟨by (with_reducible repeat (first | apply Kd.R_alloc | apply Kd.R_drewN | apply Kd.R_drew)); exact HO_121000.out⟩, ⟨by (with_reducible repeat (first | apply Kd.S_alloc | apply Kd.S_drewN | apply Kd.S_drew)); exact HO_121001.out⟩, ⟨by (with_reducible repeat (first | apply Kd.S_alloc | apply Kd.S_drewN | apply Kd.S_drew)); exact HO_121002.out⟩, ⟨by (with_reducible repeat (first | refine Zh ?_ _ | refine Zi ?_ | refine Zg ?_ _)); exact BK101.out⟩, ⟨by (with_reducible repeat (first | refine Zh ?_ _ | refine Zi ?_ | refine Zg ?_ _)); exact BK120.out⟩, ⟨by (with_reducible repeat (first | refine Zh ?_ _ | refine Zi ?_ | refine Zg ?_ _)); exact BK123.out⟩, ⟨by repeat (first | (with_reducible first | exact HB.out | apply Ze | apply Za | apply Zd | refine Zf ?_ GE101.out | refine Zf ?_ GE120.out | refine Zf ?_ GE123.out) | exact HB.out)⟩⟩
             case round =>
              clear H'
              try clear c56
              try clear hcz59_0
              try clear hcz59_1
              try clear hcz59_2
              try clear hfz59_0
              try clear hfz59_1
              try clear hfz59_2
              obtain ⟨x10_5, x115_5, rfl, rfl, HA, HK5, HO_121000, HO_121001, HO_121002, BK101, BK120, BK123, HB⟩ := hrel
              cases gk with
              | zero => exact absurd HA.out (by simp [impl_isSnap.l2])
              | succ k5 =>
               have H := HA.out
               clear HA
               simp only [impl_isSnap.l2] at H
               by_cases c60 : x115_5 < (((rd_T94 l0_1 x81_3).f2).length : Int)
               ·rw [if_pos c60] at H
                have c60b0 : decide (x115_5 < (((rd_T94 l0_1 x81_3).f2).length : Int)) = true := decide_eq_true c60
                clear c60
                by_cases c61 : 0 ≤ x115_5
                case neg => rw [if_neg c61] at H; exact absurd H (by simp)
                rw [if_pos c61] at H
                have c61b0 : decide (0 ≤ x115_5) = true := decide_eq_true c61
                clear c61
                by_cases c62 : x115_5 < (((rd_T94 l0_1 x81_3).f2).length : Int)
                case neg => rw [if_neg c62] at H; exact absurd H (by simp)
                rw [if_pos c62] at H
                have c62b0 : decide (x115_5 < (((rd_T94 l0_1 x81_3).f2).length : Int)) = true := decide_eq_true c62
                clear c62
                replace H := Option.bind_eq_some_iff.mp H
                obtain ⟨t127, A630, H⟩ := H
                have A63 := Aside0.mk A630
                clear A630
                by_cases c64 : t127 = true
                ·subst c64
                 rw [if_pos rfl] at H
                 by_cases c65 : (rd ((rd_T94 l0_1 x81_3).f2) x115_5) = 0
                 ·rw [if_pos c65] at H
                  have c65b0 : ((rd ((rd_T94 l0_1 x81_3).f2) x115_5) == 0) = true := beq_iff_eq.mpr c65
                  have c65b1 : ((rd ((rd_T94 l0_1 x81_3).f2) x115_5) != 0) = false := bne_eq_false_iff_eq.mpr c65
                  clear c65
                  have H' := Aside0.mk H
                  clear H
                  have p126 : 0 ≤ (x115_5 : Int) := of_decide_eq_true (by assumption)
                  have q126 : x115_5 < (((rd_T94 l0_1 x81_3).f2).length : Int) := of_decide_eq_true (by assumption)
                  obtain ⟨ad126, e126, hx126_0⟩ := Kd.at_int HR122_2.out x115_5 p126 q126
                  cases e126
                  replace hx126_0 := (HB.out.cell (World.block_lt_of_cell? w _ hx126_0)).trans hx126_0
                  replace p126 := eq_true p126
                  replace q126 := eq_true q126
                  go_wp2_with (first | ((with_reducible refine Zp (f := 44) rfl ?_); refine Zw (some 120) rfl rfl Try.func44 (by kernel_rfl) rfl #[.int .i64 (rd ((rd_T94 l0_1 x81_3).f2) x115_5), .int .i64 0, .int .i64 1000] rfl (by (try simp only [List.map_toArray, List.map_cons, List.map_nil]); first | done | rfl | (simp only [List.length_drop, List.length_take]; rfl)) ?_; (with_reducible refine (impl_in.calls (rd ((rd_T94 l0_1 x81_3).f2) x115_5) 0 1000 true _ A63.out).mono ?_); rintro e w' ⟨rfl, ⟨nd, rfl⟩⟩; refine ⟨_, rfl, ?_⟩))
                  go_roundg k5
                  case measure => have := HJ1.out; have := HK2.out; have := HK3.out; have := HJ41.out; have := HK5.out; omega
                  case rel => exact ⟨(wrap64 (x10_5 + 1)), (wrap64 (x115_5 + 1)), (by first | rfl | (simp; done) | (simp [*]; done)), (by first | rfl | (simp; done) | (simp [*]; done)), H', ⟨by have := HJ1.out; have := HK2.out; have := HK3.out; have := HJ41.out; have := HK5.out; omega⟩, ⟨by (with_reducible repeat (first | apply Kd.R_alloc | apply Kd.R_drewN | apply Kd.R_drew)); exact HO_121000.out⟩, ⟨by (with_reducible repeat (first | apply Kd.S_alloc | apply Kd.S_drewN | apply Kd.S_drew)); exact HO_121001.out⟩, ⟨by (with_reducible repeat (first | apply Kd.S_alloc | apply Kd.S_drewN | apply Kd.S_drew)); exact HO_121002.out⟩, ⟨by (with_reducible repeat (first | refine Zh ?_ _ | refine Zi ?_ | refine Zg ?_ _)); exact BK101.out⟩, ⟨by (with_reducible repeat (first | refine Zh ?_ _ | refine Zi ?_ | refine Zg ?_ _)); exact BK120.out⟩, ⟨by (with_reducible repeat (first | refine Zh ?_ _ | refine Zi ?_ | refine Zg ?_ _)); exact BK123.out⟩, ⟨by repeat (first | (with_reducible first | exact HB.out | apply Ze | apply Za | apply Zd | refine Zf ?_ GE101.out | refine Zf ?_ GE120.out | refine Zf ?_ GE123.out) | exact HB.out)⟩⟩
                 ·rw [if_neg c65] at H
                  have c65b0 : ((rd ((rd_T94 l0_1 x81_3).f2) x115_5) == 0) = false := beq_eq_false_iff_ne.mpr c65
                  have c65b1 : ((rd ((rd_T94 l0_1 x81_3).f2) x115_5) != 0) = true := bne_iff_ne.mpr c65
                  have H' := Aside0.mk H
                  clear H
                  have p126 : 0 ≤ (x115_5 : Int) := of_decide_eq_true (by assumption)
                  have q126 : x115_5 < (((rd_T94 l0_1 x81_3).f2).length : Int) := of_decide_eq_true (by assumption)
                  obtain ⟨ad126, e126, hx126_0⟩ := Kd.at_int HR122_2.out x115_5 p126 q126
                  cases e126
                  replace hx126_0 := (HB.out.cell (World.block_lt_of_cell? w _ hx126_0)).trans hx126_0
                  replace p126 := eq_true p126
                  replace q126 := eq_true q126
                  go_wp2_with (first | ((with_reducible refine Zp (f := 44) rfl ?_); refine Zw (some 120) rfl rfl Try.func44 (by kernel_rfl) rfl #[.int .i64 (rd ((rd_T94 l0_1 x81_3).f2) x115_5), .int .i64 0, .int .i64 1000] rfl (by (try simp only [List.map_toArray, List.map_cons, List.map_nil]); first | done | rfl | (simp only [List.length_drop, List.length_take]; rfl)) ?_; (with_reducible refine (impl_in.calls (rd ((rd_T94 l0_1 x81_3).f2) x115_5) 0 1000 true _ A63.out).mono ?_); rintro e w' ⟨rfl, ⟨nd, rfl⟩⟩; refine ⟨_, rfl, ?_⟩))
                  go_roundg k5
                  case measure => have := HJ1.out; have := HK2.out; have := HK3.out; have := HJ41.out; have := HK5.out; omega
                  case rel => exact ⟨(x10_5), (wrap64 (x115_5 + 1)), (by first | rfl | (simp; done) | (simp [*]; done)), (by first | rfl | (simp; done) | (simp [*]; done)), H', ⟨by have := HJ1.out; have := HK2.out; have := HK3.out; have := HJ41.out; have := HK5.out; omega⟩, ⟨by (with_reducible repeat (first | apply Kd.R_alloc | apply Kd.R_drewN | apply Kd.R_drew)); exact HO_121000.out⟩, ⟨by (with_reducible repeat (first | apply Kd.S_alloc | apply Kd.S_drewN | apply Kd.S_drew)); exact HO_121001.out⟩, ⟨by (with_reducible repeat (first | apply Kd.S_alloc | apply Kd.S_drewN | apply Kd.S_drew)); exact HO_121002.out⟩, ⟨by (with_reducible repeat (first | refine Zh ?_ _ | refine Zi ?_ | refine Zg ?_ _)); exact BK101.out⟩, ⟨by (with_reducible repeat (first | refine Zh ?_ _ | refine Zi ?_ | refine Zg ?_ _)); exact BK120.out⟩, ⟨by (with_reducible repeat (first | refine Zh ?_ _ | refine Zi ?_ | refine Zg ?_ _)); exact BK123.out⟩, ⟨by repeat (first | (with_reducible first | exact HB.out | apply Ze | apply Za | apply Zd | refine Zf ?_ GE101.out | refine Zf ?_ GE120.out | refine Zf ?_ GE123.out) | exact HB.out)⟩⟩
                ·replace c64 := Bool.eq_false_iff.mpr c64
                 subst c64
                 rw [if_neg (show ¬ (false = true) by decide)] at H
                 obtain rfl := Option.some.inj H
                 have p126 : 0 ≤ (x115_5 : Int) := of_decide_eq_true (by assumption)
                 have q126 : x115_5 < (((rd_T94 l0_1 x81_3).f2).length : Int) := of_decide_eq_true (by assumption)
                 obtain ⟨ad126, e126, hx126_0⟩ := Kd.at_int HR122_2.out x115_5 p126 q126
                 cases e126
                 replace hx126_0 := (HB.out.cell (World.block_lt_of_cell? w _ hx126_0)).trans hx126_0
                 replace p126 := eq_true p126
                 replace q126 := eq_true q126
                 go_wp2_with (first | ((with_reducible refine Zp (f := 44) rfl ?_); refine Zw (some 120) rfl rfl Try.func44 (by kernel_rfl) rfl #[.int .i64 (rd ((rd_T94 l0_1 x81_3).f2) x115_5), .int .i64 0, .int .i64 1000] rfl (by (try simp only [List.map_toArray, List.map_cons, List.map_nil]); first | done | rfl | (simp only [List.length_drop, List.length_take]; rfl)) ?_; (with_reducible refine (impl_in.calls (rd ((rd_T94 l0_1 x81_3).f2) x115_5) 0 1000 false _ A63.out).mono ?_); rintro e w' ⟨rfl, ⟨nd, rfl⟩⟩; refine ⟨_, rfl, ?_⟩))
                 go_ret
                 exact ⟨by first | rfl | (simp [errW_none, errW_some] <;> rfl) | (simp [*, errW_none, errW_some] <;> rfl), by repeat (first | (with_reducible first | exact HB.out | apply Ze | apply Za | apply Zd | refine Zf ?_ GE101.out | refine Zf ?_ GE120.out | refine Zf ?_ GE123.out) | exact HB.out)⟩
               ·rw [if_neg c60] at H
                have c60b0 : decide (x115_5 < (((rd_T94 l0_1 x81_3).f2).length : Int)) = false := decide_eq_false c60
                clear c60
                by_cases c66 : 0 ≤ ((rd_T94 l0_1 x81_3).f1)
                case neg => rw [if_neg c66] at H; exact absurd H (by simp)
                rw [if_pos c66] at H
                have c66b0 : decide (0 ≤ ((rd_T94 l0_1 x81_3).f1)) = true := decide_eq_true c66
                clear c66
                by_cases c67 : ((rd_T94 l0_1 x81_3).f1) < (l0_2.length : Int)
                case neg => rw [if_neg c67] at H; exact absurd H (by simp)
                rw [if_pos c67] at H
                have c67b0 : decide (((rd_T94 l0_1 x81_3).f1) < (l0_2.length : Int)) = true := decide_eq_true c67
                clear c67
                by_cases c68 : 0 ≤ ((rd_T94 l0_1 x81_3).f0)
                case neg => rw [if_neg c68] at H; exact absurd H (by simp)
                rw [if_pos c68] at H
                have c68b0 : decide (0 ≤ ((rd_T94 l0_1 x81_3).f0)) = true := decide_eq_true c68
                clear c68
                by_cases c69 : ((rd_T94 l0_1 x81_3).f0) < (((rd_T76 l0_2 ((rd_T94 l0_1 x81_3).f1)).f3).length : Int)
                case neg => rw [if_neg c69] at H; exact absurd H (by simp)
                rw [if_pos c69] at H
                have c69b0 : decide (((rd_T94 l0_1 x81_3).f0) < (((rd_T76 l0_2 ((rd_T94 l0_1 x81_3).f1)).f3).length : Int)) = true := decide_eq_true c69
                clear c69
                have HC70 := Aside0.mk H
                clear H
                try go_wp2
                have n0_ := Aside0.mk (Kd.R_drew HO_121000.out)
                have n1_ := Aside0.mk (Kd.S_drew HO_121001.out)
                have n2_ := Aside0.mk (Kd.S_drew HO_121002.out)
                have n3_ := Aside0.mk (Zi BK101.out)
                have n4_ := Aside0.mk (Zi BK120.out)
                have n5_ := Aside0.mk (Zi BK123.out)
                have n6_ := Aside0.mk (Zd HB.out)
                clear HO_121000
                clear HO_121001
                clear HO_121002
                clear BK101
                clear BK120
                clear BK123
                clear HB
                have HO_121000 := n0_
                have HO_121001 := n1_
                have HO_121002 := n2_
                have BK101 := n3_
                have BK120 := n4_
                have BK123 := n5_
                have HB := n6_
                clear n0_ n1_ n2_ n3_ n4_ n5_ n6_
                have p128 : 0 ≤ (((rd_T94 l0_1 x81_3).f1) : Int) := of_decide_eq_true (by assumption)
                have q128 : ((rd_T94 l0_1 x81_3).f1) < (l0_2.length : Int) := of_decide_eq_true (by assumption)
                obtain ⟨ad128, A128_2, c128_2, A128_3, c128_3, e128, hx128_0, hx128_1, hx128_2, hx128_3, hl128_2, hi128_2, hl128_3, hi128_3⟩ := at_T76 HR0_2.out ((rd_T94 l0_1 x81_3).f1) p128 q128
                have hw128_3 := hx128_3
                have hw128_2 := hx128_2
                have hw128_1 := hx128_1
                have hw128_0 := hx128_0
                cases e128
                replace hx128_0 := (HB.out.cell (World.block_lt_of_cell? w _ hx128_0)).trans hx128_0
                replace hx128_1 := (HB.out.cell (World.block_lt_of_cell? w _ hx128_1)).trans hx128_1
                replace hx128_2 := (HB.out.cell (World.block_lt_of_cell? w _ hx128_2)).trans hx128_2
                replace hx128_3 := (HB.out.cell (World.block_lt_of_cell? w _ hx128_3)).trans hx128_3
                have HR128_2 := Aside0.mk hi128_2
                have HC128_2 := Aside0.mk hl128_2
                clear hi128_2 hl128_2
                have HR128_3 := Aside0.mk hi128_3
                have HC128_3 := Aside0.mk hl128_3
                clear hi128_3 hl128_3
                replace p128 := eq_true p128
                replace q128 := eq_true q128
                have p129 : 0 ≤ (((rd_T94 l0_1 x81_3).f0) : Int) := of_decide_eq_true (by assumption)
                have q129 : ((rd_T94 l0_1 x81_3).f0) < (((rd_T76 l0_2 ((rd_T94 l0_1 x81_3).f1)).f3).length : Int) := of_decide_eq_true (by assumption)
                obtain ⟨ad129, e129, hx129_0⟩ := Kd.at_bool HR128_3.out ((rd_T94 l0_1 x81_3).f0) p129 q129
                have hw129_0 := hx129_0
                cases e129
                replace hx129_0 := (HB.out.cell (World.block_lt_of_cell? w _ hx129_0)).trans hx129_0
                replace p129 := eq_true p129
                replace q129 := eq_true q129
                refine start_ (n := 12) (S := fun w' => w'.cell? ⟨gb101, 0, none⟩ = some (.slice A0_0 l0_0.length c0_0) ∧ w'.cell? ⟨gb101, 1, none⟩ = some (.slice (some ad122) l0_1.length c0_1) ∧ w'.cell? ⟨gb101, 2, none⟩ = some (.slice (some ad128) l0_2.length c0_2) ∧ w'.cell? ⟨gb101, 3, none⟩ = some (.int .i64 a0_3) ∧ w'.cell? ⟨gb101, 4, none⟩ = some (.int .i64 a0_4) ∧ w'.cell? ⟨gb123, 0, none⟩ = some (.int .i64 ((rd_T94 l0_1 x81_3).f0)) ∧ w'.cell? ⟨gb123, 1, none⟩ = some (.int .i64 ((rd_T94 l0_1 x81_3).f1)) ∧ w'.cell? ⟨gb123, 2, none⟩ = some (.slice A122_2 ((rd_T94 l0_1 x81_3).f2).length c122_2) ∧ w'.cell? (ad128.add ((((rd_T94 l0_1 x81_3).f1)).toNat * 4)) = some (.bool ((rd_T76 l0_2 ((rd_T94 l0_1 x81_3).f1)).f0)) ∧ w'.cell? ⟨(ad128.add ((((rd_T94 l0_1 x81_3).f1)).toNat * 4)).block, (ad128.add ((((rd_T94 l0_1 x81_3).f1)).toNat * 4)).off + 1, none⟩ = some (.int .i64 ((rd_T76 l0_2 ((rd_T94 l0_1 x81_3).f1)).f1)) ∧ w'.cell? ⟨(ad128.add ((((rd_T94 l0_1 x81_3).f1)).toNat * 4)).block, (ad128.add ((((rd_T94 l0_1 x81_3).f1)).toNat * 4)).off + 2, none⟩ = some (.slice A128_2 ((rd_T76 l0_2 ((rd_T94 l0_1 x81_3).f1)).f2).length c128_2) ∧ w'.cell? ⟨(ad128.add ((((rd_T94 l0_1 x81_3).f1)).toNat * 4)).block, (ad128.add ((((rd_T94 l0_1 x81_3).f1)).toNat * 4)).off + 3, none⟩ = some (.slice (some ad129) ((rd_T76 l0_2 ((rd_T94 l0_1 x81_3).f1)).f3).length c128_3) ∧ w'.cell? (ad129.add (((rd_T94 l0_1 x81_3).f0)).toNat) = some (.bool (rdOf false ((rd_T76 l0_2 ((rd_T94 l0_1 x81_3).f1)).f3) ((rd_T94 l0_1 x81_3).f0)))) (ds := []) #[false, false, false, false, false, false, false, false, false, false, false, false] (by kernel_rfl) rfl rfl ⟨(Zb BK101.out 0).trans rfl, (Zb BK101.out 1).trans rfl, (Zb BK101.out 2).trans rfl, (Zb BK101.out 3).trans rfl, (Zb BK101.out 4).trans rfl, (Zb BK123.out 0).trans rfl, (Zb BK123.out 1).trans rfl, (Zb BK123.out 2).trans rfl, ((HB.out.cell (World.block_lt_of_cell? w _ hw128_0)).trans hw128_0), ((HB.out.cell (World.block_lt_of_cell? w _ hw128_1)).trans hw128_1), ((HB.out.cell (World.block_lt_of_cell? w _ hw128_2)).trans hw128_2), ((HB.out.cell (World.block_lt_of_cell? w _ hw128_3)).trans hw128_3), ((HB.out.cell (World.block_lt_of_cell? w _ hw129_0)).trans hw129_0)⟩ (fun hHeld => ?_); refine with_tabW impl_isSnap.tab28 impl_isSnap.bits28 (fun HT_ HW_ => ?_)
                generalize wr.drew = w71 at HO_121000 HO_121001 HO_121002 BK101 BK120 BK123 HB HR128_2 HR128_3 hx128_0 hx128_1 hx128_2 hx128_3 hx129_0 hHeld ⊢
                refine Zm (i := 0) (N := some 127) (v := ?_) (a' := ?_) (Bm21 12 1) rfl rfl (Zj HT_.out (by kernel_rfl)) (fun _ _ _ h => h) (Or.inl ⟨by rfl, ?_⟩) ?_ ?_
                rotate_left
                ·intro w'
                 go_simp
                 with_reducible rfl
                rotate_left
                ·simp only [Act.put, Sa21, Sb21, Sc21, Zk, Zl]
                 rfl
                refine Zm (i := 2) (N := some 129) (v := ?_) (a' := ?_) (Bm21 12 5) rfl rfl (Zj HT_.out (by kernel_rfl)) (fun _ _ _ h => h) (Or.inl ⟨by rfl, ?_⟩) ?_ ?_
                rotate_left
                ·intro w'
                 go_simp
                 with_reducible rfl
                rotate_left
                ·simp only [Act.put, Sa21, Sb21, Sc21, Zk, Zl]
                 rfl
                refine Zm (i := 7) (N := some 134) (v := ?_) (a' := ?_) (Bm21 12 133) rfl rfl (Zj HT_.out (by kernel_rfl)) (fun _ _ _ h => h) (Or.inl ⟨by rfl, ?_⟩) ?_ ?_
                rotate_left
                ·intro w'
                 go_simp
                 with_reducible rfl
                rotate_left
                ·simp only [Act.put, Sa21, Sb21, Sc21, Zk, Zl]
                 rfl
                refine take_ (i := 1) (N := some 128) (v := ?_) (a' := ?_) (Bm21 12 135) rfl rfl (Zr HT_.out HW_.out (by kernel_rfl)) (fun _ _ _ h => h) (Or.inl ⟨by rfl, ?_⟩) hHeld ?_ ?_
                rotate_left
                ·rintro w' ⟨s0, s1, s2, s3, s4, s5, s6, s7, s8, s9, s10, s11, s12⟩
                 go_simp
                 with_reducible rfl
                rotate_left
                ·simp only [Act.put, Sa21, Sb21, Sc21, Zk, Zl]
                 rfl
                refine take_ (i := 3) (N := some 130) (v := ?_) (a' := ?_) (Bm21 12 143) rfl rfl (Zr HT_.out HW_.out (by kernel_rfl)) (fun _ _ _ h => h) (Or.inl ⟨by rfl, ?_⟩) hHeld ?_ ?_
                rotate_left
                ·rintro w' ⟨s0, s1, s2, s3, s4, s5, s6, s7, s8, s9, s10, s11, s12⟩
                 go_simp
                 with_reducible rfl
                rotate_left
                ·simp only [Act.put, Sa21, Sb21, Sc21, Zk, Zl]
                 rfl
                refine Zm (i := 4) (N := some 131) (v := ?_) (a' := ?_) (Bm21 12 159) rfl rfl (Zj HT_.out (by kernel_rfl)) (fun _ _ _ h => h) (Or.inl ⟨by rfl, ?_⟩) ?_ ?_
                rotate_left
                ·intro w'
                 go_simp
                 with_reducible rfl
                rotate_left
                ·simp only [Act.put, Sa21, Sb21, Sc21, Zk, Zl]
                 rfl
                refine Zm (i := 5) (N := some 132) (v := ?_) (a' := ?_) (Bm21 12 191) rfl rfl (Zj HT_.out (by kernel_rfl)) (fun _ _ _ h => h) (Or.inl ⟨by rfl, ?_⟩) ?_ ?_
                rotate_left
                ·intro w'
                 go_simp
                 with_reducible rfl
                rotate_left
                ·simp only [Act.put, Sa21, Sb21, Sc21, Zk, Zl]
                 rfl
                refine take_ (i := 6) (N := some 133) (v := ?_) (a' := ?_) (Bm21 12 255) rfl rfl (Zr HT_.out HW_.out (by kernel_rfl)) (fun _ _ _ h => h) (Or.inl ⟨by rfl, ?_⟩) hHeld ?_ ?_
                rotate_left
                ·rintro w' ⟨s0, s1, s2, s3, s4, s5, s6, s7, s8, s9, s10, s11, s12⟩
                 go_simp
                 with_reducible rfl
                rotate_left
                ·simp only [Act.put, Sa21, Sb21, Sc21, Zk, Zl]
                 rfl
                refine take_ (i := 8) (N := some 135) (v := ?_) (a' := ?_) (Bm21 12 511) rfl rfl (Zr HT_.out HW_.out (by kernel_rfl)) (fun _ _ _ h => h) (Or.inl ⟨by rfl, ?_⟩) hHeld ?_ ?_
                rotate_left
                ·rintro w' ⟨s0, s1, s2, s3, s4, s5, s6, s7, s8, s9, s10, s11, s12⟩
                 go_simp
                 with_reducible rfl
                rotate_left
                ·simp only [Act.put, Sa21, Sb21, Sc21, Zk, Zl]
                 rfl
                refine Zm (i := 9) (N := some 136) (v := ?_) (a' := ?_) (Bm21 12 1023) rfl rfl (Zj HT_.out (by kernel_rfl)) (fun _ _ _ h => h) (Or.inl ⟨by rfl, ?_⟩) ?_ ?_
                rotate_left
                ·intro w'
                 go_simp
                 with_reducible rfl
                rotate_left
                ·simp only [Act.put, Sa21, Sb21, Sc21, Zk, Zl]
                 rfl
                refine take_ (i := 10) (N := some 137) (v := ?_) (a' := ?_) (Bm21 12 2047) rfl rfl (Zr HT_.out HW_.out (by kernel_rfl)) (fun _ _ _ h => h) (Or.inl ⟨by rfl, ?_⟩) hHeld ?_ ?_
                rotate_left
                ·rintro w' ⟨s0, s1, s2, s3, s4, s5, s6, s7, s8, s9, s10, s11, s12⟩
                 go_simp
                 with_reducible rfl
                rotate_left
                ·simp only [Act.put, Sa21, Sb21, Sc21, Zk, Zl]
                 rfl
                refine Zm (i := 11) (N := some 14) (v := ?_) (a' := ?_) (Bm21 12 4095) rfl rfl (Zj HT_.out (by kernel_rfl)) (fun _ _ _ h => h) (Or.inl ⟨by rfl, ?_⟩) ?_ ?_
                rotate_left
                ·intro w'
                 go_simp
                 with_reducible rfl
                rotate_left
                ·simp only [Act.put, Sa21, Sb21, Sc21, Zk, Zl]
                 rfl
                refine done_ (done_of HT_.out (by kernel_rfl)) ?_
                go_upto_region 29 with (fail)
                go_cut [148] (fun v148 wc => ∃ (kq : Nat) (x148_69 : Bool), v148 = .bool x148_69 ∧ Aside0 (impl_isSnap.j5 kq x4_2 x10_5 0 (rdOf false ((rd_T76 l0_2 ((rd_T94 l0_1 x81_3).f1)).f3) ((rd_T94 l0_1 x81_3).f0)) l0_1 (l0_1.length : Int) x81_3 x148_69 l0_0 l0_1 l0_2 a0_3 a0_4 t109 t112 t115 t118 t119 ((rd_T94 l0_1 x81_3).f0) ((rd_T94 l0_1 x81_3).f1) ((rd_T94 l0_1 x81_3).f2) = some r) ∧ Aside0 (kq ≤ k5) ∧ Aside0 (Kd.R (Kd.int .i64) 3 wc w.heap.size (fun _ => True) (.slice Ao33 t109.length co33) t109) ∧ Aside0 (Kd.S k94 94 wc w.heap.size (fun k_ => some k_ ≠ ((.slice Ao33 t109.length co33) : Value).ownBlock ∧ k_ ≠ gb123) (.slice Ao36 t112.length co36) t112) ∧ Aside0 (Kd.S k76 76 wc w.heap.size (fun k_ => some k_ ≠ ((.slice Ao33 t109.length co33) : Value).ownBlock) (.slice Ao37 t115.length co37) t115) ∧ Aside0 (wc.heap[gb101]? = some (.cells #[(.slice A0_0 l0_0.length c0_0), (.slice (some ad122) l0_1.length c0_1), (.slice (some ad128) l0_2.length c0_2), .int .i64 a0_3, .int .i64 a0_4] 35 (0, 0))) ∧ Aside0 (wc.heap[gb120]? = some (.cells #[(.slice Ao33 t109.length co33), (.slice Ao36 t112.length co36), (.slice Ao37 t115.length co37), .int .i64 t118, .int .i64 t119] 35 (0, 0))) ∧ Aside0 (wc.heap[gb123]? = some (.cells #[.int .i64 ((rd_T94 l0_1 x81_3).f0), .int .i64 ((rd_T94 l0_1 x81_3).f1), (.slice A122_2 ((rd_T94 l0_1 x81_3).f2).length c122_2)] 94 (0, 0))) ∧ Aside0 (Below w.heap.size w wc))
                case first =>
                 have H := HC70.out
                 clear HC70
                 by_cases c72 : ((rd_T94 l0_1 x81_3).f0) < (l0_2.length : Int)
                 case neg => rw [if_neg c72] at H; exact absurd H (by simp)
                 rw [if_pos c72] at H
                 have c72b0 : decide (((rd_T94 l0_1 x81_3).f0) < (l0_2.length : Int)) = true := decide_eq_true c72
                 clear c72
                 (first | rw [c72b0] | (simp only [Zk, Zl]; rw [c72b0]) | skip)
                 obtain ⟨bq73, hbq73⟩ : ∃ b_ : Bool, b_ = ((rd_T76 l0_2 ((rd_T94 l0_1 x81_3).f0)).f0) := ⟨_, rfl⟩
                 replace H : (if bq73 = true then (impl_isSnap.j5 k5 x4_2 x10_5 0 (rdOf false ((rd_T76 l0_2 ((rd_T94 l0_1 x81_3).f1)).f3) ((rd_T94 l0_1 x81_3).f0)) l0_1 (l0_1.length : Int) x81_3 (!(rdOf false ((rd_T76 l0_2 ((rd_T94 l0_1 x81_3).f1)).f3) ((rd_T94 l0_1 x81_3).f0))) l0_0 l0_1 l0_2 a0_3 a0_4 t109 t112 t115 t118 t119 ((rd_T94 l0_1 x81_3).f0) ((rd_T94 l0_1 x81_3).f1) ((rd_T94 l0_1 x81_3).f2)) else (impl_isSnap.j5 k5 x4_2 x10_5 0 (rdOf false ((rd_T76 l0_2 ((rd_T94 l0_1 x81_3).f1)).f3) ((rd_T94 l0_1 x81_3).f0)) l0_1 (l0_1.length : Int) x81_3 false l0_0 l0_1 l0_2 a0_3 a0_4 t109 t112 t115 t118 t119 ((rd_T94 l0_1 x81_3).f0) ((rd_T94 l0_1 x81_3).f1) ((rd_T94 l0_1 x81_3).f2))) = some r := by rw [← hbq73] at H; exact H
                 have Nbq73 := Aside0.mk hbq73
                 clear hbq73
                 by_cases c74 : bq73 = true
                 ·subst c74
                  (try have hTbq73 := Nbq73.out.symm)
                  rw [if_pos rfl] at H
                  have H' := Aside0.mk H
                  clear H
                  have hnb75 := NB101_120.out
                  have hnc75 := NB120_101.out
                  have hnb76 := NB101_123.out
                  have hnc76 := NB123_101.out
                  have hcz77_0 : w71.cell? ⟨gb101, 0, none⟩ = some (.slice A0_0 l0_0.length c0_0) := (Zb BK101.out 0).trans rfl
                  have hcz77_1 : w71.cell? ⟨gb101, 1, none⟩ = some (.slice (some ad122) l0_1.length c0_1) := (Zb BK101.out 1).trans rfl
                  have hcz77_2 : w71.cell? ⟨gb101, 2, none⟩ = some (.slice (some ad128) l0_2.length c0_2) := (Zb BK101.out 2).trans rfl
                  have hcz77_3 : w71.cell? ⟨gb101, 3, none⟩ = some (.int .i64 a0_3) := (Zb BK101.out 3).trans rfl
                  have hcz77_4 : w71.cell? ⟨gb101, 4, none⟩ = some (.int .i64 a0_4) := (Zb BK101.out 4).trans rfl
                  have hfz77_0 := Zc BK101.out 0
                  have hfz77_1 := Zc BK101.out 1
                  have hfz77_2 := Zc BK101.out 2
                  have hfz77_3 := Zc BK101.out 3
                  have hfz77_4 := Zc BK101.out 4
                  have hnb78 := NB123_120.out
                  have hnc78 := NB120_123.out
                  have hcz79_0 : w71.cell? ⟨gb123, 0, none⟩ = some (.int .i64 ((rd_T94 l0_1 x81_3).f0)) := (Zb BK123.out 0).trans rfl
                  have hcz79_1 : w71.cell? ⟨gb123, 1, none⟩ = some (.int .i64 ((rd_T94 l0_1 x81_3).f1)) := (Zb BK123.out 1).trans rfl
                  have hcz79_2 : w71.cell? ⟨gb123, 2, none⟩ = some (.slice A122_2 ((rd_T94 l0_1 x81_3).f2).length c122_2) := (Zb BK123.out 2).trans rfl
                  have hfz79_0 := Zc BK123.out 0
                  have hfz79_1 := Zc BK123.out 1
                  have hfz79_2 := Zc BK123.out 2
                  have p130 : 0 ≤ (((rd_T94 l0_1 x81_3).f0) : Int) := of_decide_eq_true (by assumption)
                  have q130 : ((rd_T94 l0_1 x81_3).f0) < (l0_2.length : Int) := of_decide_eq_true (by assumption)
                  obtain ⟨ad130, A130_2, c130_2, A130_3, c130_3, e130, hx130_0, hx130_1, hx130_2, hx130_3, hl130_2, hi130_2, hl130_3, hi130_3⟩ := at_T76 HR0_2.out ((rd_T94 l0_1 x81_3).f0) p130 q130
                  (try rw [← Nbq73.out] at hx130_0)
                  obtain rfl : ad128 = ad130 := (by injection e130)
                  replace hx130_0 := (HB.out.cell (World.block_lt_of_cell? w _ hx130_0)).trans hx130_0
                  replace hx130_1 := (HB.out.cell (World.block_lt_of_cell? w _ hx130_1)).trans hx130_1
                  replace hx130_2 := (HB.out.cell (World.block_lt_of_cell? w _ hx130_2)).trans hx130_2
                  replace hx130_3 := (HB.out.cell (World.block_lt_of_cell? w _ hx130_3)).trans hx130_3
                  have HR130_2 := Aside0.mk hi130_2
                  have HC130_2 := Aside0.mk hl130_2
                  clear hi130_2 hl130_2
                  have HR130_3 := Aside0.mk hi130_3
                  have HC130_3 := Aside0.mk hl130_3
                  clear hi130_3 hl130_3
                  replace p130 := eq_true p130
                  replace q130 := eq_true q130
                  go_wp2
                  go_meet
                  case rel => (try simp only [← Nbq73.out]); exact ⟨_, (!(rdOf false ((rd_T76 l0_2 ((rd_T94 l0_1 x81_3).f1)).f3) ((rd_T94 l0_1 x81_3).f0))), (by first | rfl | (simp; done) | (simp [*]; done)), H', ⟨by have := HJ1.out; have := HK2.out; have := HK3.out; have := HJ41.out; have := HK5.out; first | omega | exact Nat.le_refl _⟩, ⟨by (with_reducible repeat (first | apply Kd.R_alloc | apply Kd.R_drewN | apply Kd.R_drew)); exact HO_121000.out⟩, ⟨by (with_reducible repeat (first | apply Kd.S_alloc | apply Kd.S_drewN | apply Kd.S_drew)); exact HO_121001.out⟩, ⟨by (with_reducible repeat (first | apply Kd.S_alloc | apply Kd.S_drewN | apply Kd.S_drew)); exact HO_121002.out⟩, ⟨by (with_reducible repeat (first | refine Zh ?_ _ | refine Zi ?_ | refine Zg ?_ _)); exact BK101.out⟩, ⟨by (with_reducible repeat (first | refine Zh ?_ _ | refine Zi ?_ | refine Zg ?_ _)); exact BK120.out⟩, ⟨by (with_reducible repeat (first | refine Zh ?_ _ | refine Zi ?_ | refine Zg ?_ _)); exact BK123.out⟩, ⟨by repeat (first | (with_reducible first | exact HB.out | apply Ze | apply Za | apply Zd | refine Zf ?_ GE101.out | refine Zf ?_ GE120.out | refine Zf ?_ GE123.out) | exact HB.out)⟩⟩
                 ·replace c74 := Bool.eq_false_iff.mpr c74
                  subst c74
                  (try have hTbq73 := Nbq73.out.symm)
                  rw [if_neg (show ¬ (false = true) by decide)] at H
                  have H' := Aside0.mk H
                  clear H
                  have hnb80 := NB101_120.out
                  have hnc80 := NB120_101.out
                  have hnb81 := NB101_123.out
                  have hnc81 := NB123_101.out
                  have hcz82_0 : w71.cell? ⟨gb101, 0, none⟩ = some (.slice A0_0 l0_0.length c0_0) := (Zb BK101.out 0).trans rfl
                  have hcz82_1 : w71.cell? ⟨gb101, 1, none⟩ = some (.slice (some ad122) l0_1.length c0_1) := (Zb BK101.out 1).trans rfl
                  have hcz82_2 : w71.cell? ⟨gb101, 2, none⟩ = some (.slice (some ad128) l0_2.length c0_2) := (Zb BK101.out 2).trans rfl
                  have hcz82_3 : w71.cell? ⟨gb101, 3, none⟩ = some (.int .i64 a0_3) := (Zb BK101.out 3).trans rfl
                  have hcz82_4 : w71.cell? ⟨gb101, 4, none⟩ = some (.int .i64 a0_4) := (Zb BK101.out 4).trans rfl
                  have hfz82_0 := Zc BK101.out 0
                  have hfz82_1 := Zc BK101.out 1
                  have hfz82_2 := Zc BK101.out 2
                  have hfz82_3 := Zc BK101.out 3
                  have hfz82_4 := Zc BK101.out 4
                  have hnb83 := NB123_120.out
                  have hnc83 := NB120_123.out
                  have hcz84_0 : w71.cell? ⟨gb123, 0, none⟩ = some (.int .i64 ((rd_T94 l0_1 x81_3).f0)) := (Zb BK123.out 0).trans rfl
                  have hcz84_1 : w71.cell? ⟨gb123, 1, none⟩ = some (.int .i64 ((rd_T94 l0_1 x81_3).f1)) := (Zb BK123.out 1).trans rfl
                  have hcz84_2 : w71.cell? ⟨gb123, 2, none⟩ = some (.slice A122_2 ((rd_T94 l0_1 x81_3).f2).length c122_2) := (Zb BK123.out 2).trans rfl
                  have hfz84_0 := Zc BK123.out 0
                  have hfz84_1 := Zc BK123.out 1
                  have hfz84_2 := Zc BK123.out 2
                  have p130 : 0 ≤ (((rd_T94 l0_1 x81_3).f0) : Int) := of_decide_eq_true (by assumption)
                  have q130 : ((rd_T94 l0_1 x81_3).f0) < (l0_2.length : Int) := of_decide_eq_true (by assumption)
                  obtain ⟨ad130, A130_2, c130_2, A130_3, c130_3, e130, hx130_0, hx130_1, hx130_2, hx130_3, hl130_2, hi130_2, hl130_3, hi130_3⟩ := at_T76 HR0_2.out ((rd_T94 l0_1 x81_3).f0) p130 q130
                  (try rw [← Nbq73.out] at hx130_0)
                  obtain rfl : ad128 = ad130 := (by injection e130)
                  replace hx130_0 := (HB.out.cell (World.block_lt_of_cell? w _ hx130_0)).trans hx130_0
                  replace hx130_1 := (HB.out.cell (World.block_lt_of_cell? w _ hx130_1)).trans hx130_1
                  replace hx130_2 := (HB.out.cell (World.block_lt_of_cell? w _ hx130_2)).trans hx130_2
                  replace hx130_3 := (HB.out.cell (World.block_lt_of_cell? w _ hx130_3)).trans hx130_3
                  have HR130_2 := Aside0.mk hi130_2
                  have HC130_2 := Aside0.mk hl130_2
                  clear hi130_2 hl130_2
                  have HR130_3 := Aside0.mk hi130_3
                  have HC130_3 := Aside0.mk hl130_3
                  clear hi130_3 hl130_3
                  replace p130 := eq_true p130
                  replace q130 := eq_true q130
                  go_wp2
                  go_meet
                  case rel => (try simp only [← Nbq73.out]); exact ⟨_, (false), (by first | rfl | (simp; done) | (simp [*]; done)), H', ⟨by have := HJ1.out; have := HK2.out; have := HK3.out; have := HJ41.out; have := HK5.out; first | omega | exact Nat.le_refl _⟩, ⟨by (with_reducible repeat (first | apply Kd.R_alloc | apply Kd.R_drewN | apply Kd.R_drew)); exact HO_121000.out⟩, ⟨by (with_reducible repeat (first | apply Kd.S_alloc | apply Kd.S_drewN | apply Kd.S_drew)); exact HO_121001.out⟩, ⟨by (with_reducible repeat (first | apply Kd.S_alloc | apply Kd.S_drewN | apply Kd.S_drew)); exact HO_121002.out⟩, ⟨by (with_reducible repeat (first | refine Zh ?_ _ | refine Zi ?_ | refine Zg ?_ _)); exact BK101.out⟩, ⟨by (with_reducible repeat (first | refine Zh ?_ _ | refine Zi ?_ | refine Zg ?_ _)); exact BK120.out⟩, ⟨by (with_reducible repeat (first | refine Zh ?_ _ | refine Zi ?_ | refine Zg ?_ _)); exact BK123.out⟩, ⟨by repeat (first | (with_reducible first | exact HB.out | apply Ze | apply Za | apply Zd | refine Zf ?_ GE101.out | refine Zf ?_ GE120.out | refine Zf ?_ GE123.out) | exact HB.out)⟩⟩
                case rest =>
                 clear HC70
                 try clear c56
                 try clear c60
                 try clear c60b0
                 try clear c66
                 try clear c66b0
                 try clear c67
                 try clear c67b0
                 try clear c68
                 try clear c68b0
                 try clear c69
                 try clear c69b0
                 try clear hcz59_0
                 try clear hcz59_1
                 try clear hcz59_2
                 try clear hfz59_0
                 try clear hfz59_1
                 try clear hfz59_2
                 try clear hx128_0
                 try clear hx128_1
                 try clear hx128_2
                 try clear hx128_3
                 try clear hx129_0
                 try clear p128
                 try clear p129
                 try clear q128
                 try clear q129
                 obtain ⟨kq, x148_69, rfl, HA, HJ69, HO_121000, HO_121001, HO_121002, BK101, BK120, BK123, HB⟩ := hcut
                 cases kq with
                 | zero => exact absurd HA.out (by simp [impl_isSnap.j5])
                 | succ kj69 =>
                  have H := HA.out
                  clear HA
                  simp only [impl_isSnap.j5] at H
                  by_cases c85 : x148_69 = true
                  ·subst c85
                   rw [if_pos rfl] at H
                   by_cases c86 : x10_5 = 1
                   ·rw [if_pos c86] at H
                    have c86b0 : (x10_5 == 1) = true := beq_iff_eq.mpr c86
                    have c86b1 : (x10_5 != 1) = false := bne_eq_false_iff_eq.mpr c86
                    clear c86
                    obtain ⟨bq87, hbq87⟩ : ∃ b_ : Bool, b_ = ((rdOf false ((rd_T76 l0_2 ((rd_T94 l0_1 x81_3).f1)).f3) ((rd_T94 l0_1 x81_3).f0))) := ⟨_, rfl⟩
                    replace H : (if bq87 = true then (if 0 ≤ ((rd_T94 l0_1 x81_3).f0) then (if ((rd_T94 l0_1 x81_3).f0) < (l0_2.length : Int) then (if ((rd_T76 l0_2 ((rd_T94 l0_1 x81_3).f0)).f0 = true) then (impl_isSnap.l1 kj69 x4_2 l0_1 (l0_1.length : Int) (wrap64 (x81_3 + 1)) l0_0 l0_1 l0_2 a0_3 a0_4 t109 t112 t115 t118 t119) else (some false)) else (none)) else (none)) else (impl_isSnap.l1 kj69 x4_2 l0_1 (l0_1.length : Int) (wrap64 (x81_3 + 1)) l0_0 l0_1 l0_2 a0_3 a0_4 t109 t112 t115 t118 t119)) = some r := by rw [← hbq87] at H; exact H
                    have Nbq87 := Aside0.mk hbq87
                    clear hbq87
                    by_cases c88 : bq87 = true
                    ·subst c88
                     (try have hTbq87 := Nbq87.out.symm)
                     rw [if_pos rfl] at H
                     by_cases c89 : 0 ≤ ((rd_T94 l0_1 x81_3).f0)
                     case neg => rw [if_neg c89] at H; exact absurd H (by simp)
                     rw [if_pos c89] at H
                     have c89b0 : decide (0 ≤ ((rd_T94 l0_1 x81_3).f0)) = true := decide_eq_true c89
                     clear c89
                     by_cases c90 : ((rd_T94 l0_1 x81_3).f0) < (l0_2.length : Int)
                     case neg => rw [if_neg c90] at H; exact absurd H (by simp)
                     rw [if_pos c90] at H
                     have c90b0 : decide (((rd_T94 l0_1 x81_3).f0) < (l0_2.length : Int)) = true := decide_eq_true c90
                     clear c90
                     obtain ⟨bq91, hbq91⟩ : ∃ b_ : Bool, b_ = ((rd_T76 l0_2 ((rd_T94 l0_1 x81_3).f0)).f0) := ⟨_, rfl⟩
                     replace H : (if (bq91 = true) then (impl_isSnap.l1 kj69 x4_2 l0_1 (l0_1.length : Int) (wrap64 (x81_3 + 1)) l0_0 l0_1 l0_2 a0_3 a0_4 t109 t112 t115 t118 t119) else (some false)) = some r := by rw [← hbq91] at H; exact H
                     have Nbq91 := Aside0.mk hbq91
                     clear hbq91
                     by_cases c92 : (bq91 = true)
                     ·subst c92
                      have hTbq91 := Nbq91.out.symm
                      rw [if_pos rfl] at H
                      have H' := Aside0.mk H
                      clear H
                      have hnb93 := NB101_120.out
                      have hnc93 := NB120_101.out
                      have hnb94 := NB101_123.out
                      have hnc94 := NB123_101.out
                      have hcz95_0 : wc.cell? ⟨gb101, 0, none⟩ = some (.slice A0_0 l0_0.length c0_0) := (Zb BK101.out 0).trans rfl
                      have hcz95_1 : wc.cell? ⟨gb101, 1, none⟩ = some (.slice (some ad122) l0_1.length c0_1) := (Zb BK101.out 1).trans rfl
                      have hcz95_2 : wc.cell? ⟨gb101, 2, none⟩ = some (.slice (some ad128) l0_2.length c0_2) := (Zb BK101.out 2).trans rfl
                      have hcz95_3 : wc.cell? ⟨gb101, 3, none⟩ = some (.int .i64 a0_3) := (Zb BK101.out 3).trans rfl
                      have hcz95_4 : wc.cell? ⟨gb101, 4, none⟩ = some (.int .i64 a0_4) := (Zb BK101.out 4).trans rfl
                      have hfz95_0 := Zc BK101.out 0
                      have hfz95_1 := Zc BK101.out 1
                      have hfz95_2 := Zc BK101.out 2
                      have hfz95_3 := Zc BK101.out 3
                      have hfz95_4 := Zc BK101.out 4
                      have hnb96 := NB123_120.out
                      have hnc96 := NB120_123.out
                      have hcz97_0 : wc.cell? ⟨gb123, 0, none⟩ = some (.int .i64 ((rd_T94 l0_1 x81_3).f0)) := (Zb BK123.out 0).trans rfl
                      have hcz97_1 : wc.cell? ⟨gb123, 1, none⟩ = some (.int .i64 ((rd_T94 l0_1 x81_3).f1)) := (Zb BK123.out 1).trans rfl
                      have hcz97_2 : wc.cell? ⟨gb123, 2, none⟩ = some (.slice A122_2 ((rd_T94 l0_1 x81_3).f2).length c122_2) := (Zb BK123.out 2).trans rfl
                      have hfz97_0 := Zc BK123.out 0
                      have hfz97_1 := Zc BK123.out 1
                      have hfz97_2 := Zc BK123.out 2
                      have p131 : 0 ≤ (((rd_T94 l0_1 x81_3).f0) : Int) := of_decide_eq_true (by assumption)
                      have q131 : ((rd_T94 l0_1 x81_3).f0) < (l0_2.length : Int) := of_decide_eq_true (by assumption)
                      obtain ⟨ad131, A131_2, c131_2, A131_3, c131_3, e131, hx131_0, hx131_1, hx131_2, hx131_3, hl131_2, hi131_2, hl131_3, hi131_3⟩ := at_T76 HR0_2.out ((rd_T94 l0_1 x81_3).f0) p131 q131
                      (try rw [← Nbq87.out] at hx131_0)
                      (try rw [← Nbq91.out] at hx131_0)
                      obtain rfl : ad128 = ad131 := (by injection e131)
                      replace hx131_0 := (HB.out.cell (World.block_lt_of_cell? w _ hx131_0)).trans hx131_0
                      replace hx131_1 := (HB.out.cell (World.block_lt_of_cell? w _ hx131_1)).trans hx131_1
                      replace hx131_2 := (HB.out.cell (World.block_lt_of_cell? w _ hx131_2)).trans hx131_2
                      replace hx131_3 := (HB.out.cell (World.block_lt_of_cell? w _ hx131_3)).trans hx131_3
                      have HR131_2 := Aside0.mk hi131_2
                      have HC131_2 := Aside0.mk hl131_2
                      clear hi131_2 hl131_2
                      have HR131_3 := Aside0.mk hi131_3
                      have HC131_3 := Aside0.mk hl131_3
                      clear hi131_3 hl131_3
                      replace p131 := eq_true p131
                      replace q131 := eq_true q131
                      go_wp2
                      go_roundg kj69
                      case measure => have := HJ1.out; have := HK2.out; have := HK3.out; have := HJ41.out; have := HK5.out; have := HJ69.out; omega
                      case rel => (try simp only [← Nbq87.out]); (try simp only [← Nbq91.out]); exact ⟨(wrap64 (x81_3 + 1)), (by first | rfl | (simp; done) | (simp [*]; done)), H', ⟨by have := HJ1.out; have := HK2.out; have := HK3.out; have := HJ41.out; have := HK5.out; have := HJ69.out; omega⟩, ⟨by (with_reducible repeat (first | apply Kd.R_alloc | apply Kd.R_drewN | apply Kd.R_drew)); exact HO_121000.out⟩, ⟨by (with_reducible repeat (first | apply Kd.S_alloc | apply Kd.S_drewN | apply Kd.S_drew)); exact Kd.S_mono HO_121001.out (fun _ hk => hk.1)⟩, ⟨by (with_reducible repeat (first | apply Kd.S_alloc | apply Kd.S_drewN | apply Kd.S_drew)); exact HO_121002.out⟩, ⟨by (with_reducible repeat (first | refine Zh ?_ _ | refine Zi ?_ | refine Zg ?_ _)); exact BK101.out⟩, ⟨by (with_reducible repeat (first | refine Zh ?_ _ | refine Zi ?_ | refine Zg ?_ _)); exact BK120.out⟩, ⟨by repeat (first | (with_reducible first | exact HB.out | apply Ze | apply Za | apply Zd | refine Zf ?_ GE101.out | refine Zf ?_ GE120.out | refine Zf ?_ GE123.out) | exact HB.out)⟩⟩
                     ·replace c92 := Bool.eq_false_iff.mpr c92
                      subst c92
                      have hTbq91 := Nbq91.out.symm
                      rw [if_neg (show ¬ (false = true) by decide)] at H
                      obtain rfl := Option.some.inj H
                      have hnb98 := NB101_120.out
                      have hnc98 := NB120_101.out
                      have hnb99 := NB101_123.out
                      have hnc99 := NB123_101.out
                      have hcz100_0 : wc.cell? ⟨gb101, 0, none⟩ = some (.slice A0_0 l0_0.length c0_0) := (Zb BK101.out 0).trans rfl
                      have hcz100_1 : wc.cell? ⟨gb101, 1, none⟩ = some (.slice (some ad122) l0_1.length c0_1) := (Zb BK101.out 1).trans rfl
                      have hcz100_2 : wc.cell? ⟨gb101, 2, none⟩ = some (.slice (some ad128) l0_2.length c0_2) := (Zb BK101.out 2).trans rfl
                      have hcz100_3 : wc.cell? ⟨gb101, 3, none⟩ = some (.int .i64 a0_3) := (Zb BK101.out 3).trans rfl
                      have hcz100_4 : wc.cell? ⟨gb101, 4, none⟩ = some (.int .i64 a0_4) := (Zb BK101.out 4).trans rfl
                      have hfz100_0 := Zc BK101.out 0
                      have hfz100_1 := Zc BK101.out 1
                      have hfz100_2 := Zc BK101.out 2
                      have hfz100_3 := Zc BK101.out 3
                      have hfz100_4 := Zc BK101.out 4
                      have hnb101 := NB123_120.out
                      have hnc101 := NB120_123.out
                      have hcz102_0 : wc.cell? ⟨gb123, 0, none⟩ = some (.int .i64 ((rd_T94 l0_1 x81_3).f0)) := (Zb BK123.out 0).trans rfl
                      have hcz102_1 : wc.cell? ⟨gb123, 1, none⟩ = some (.int .i64 ((rd_T94 l0_1 x81_3).f1)) := (Zb BK123.out 1).trans rfl
                      have hcz102_2 : wc.cell? ⟨gb123, 2, none⟩ = some (.slice A122_2 ((rd_T94 l0_1 x81_3).f2).length c122_2) := (Zb BK123.out 2).trans rfl
                      have hfz102_0 := Zc BK123.out 0
                      have hfz102_1 := Zc BK123.out 1
                      have hfz102_2 := Zc BK123.out 2
                      have p131 : 0 ≤ (((rd_T94 l0_1 x81_3).f0) : Int) := of_decide_eq_true (by assumption)
                      have q131 : ((rd_T94 l0_1 x81_3).f0) < (l0_2.length : Int) := of_decide_eq_true (by assumption)
                      obtain ⟨ad131, A131_2, c131_2, A131_3, c131_3, e131, hx131_0, hx131_1, hx131_2, hx131_3, hl131_2, hi131_2, hl131_3, hi131_3⟩ := at_T76 HR0_2.out ((rd_T94 l0_1 x81_3).f0) p131 q131
                      (try rw [← Nbq87.out] at hx131_0)
                      (try rw [← Nbq91.out] at hx131_0)
                      obtain rfl : ad128 = ad131 := (by injection e131)
                      replace hx131_0 := (HB.out.cell (World.block_lt_of_cell? w _ hx131_0)).trans hx131_0
                      replace hx131_1 := (HB.out.cell (World.block_lt_of_cell? w _ hx131_1)).trans hx131_1
                      replace hx131_2 := (HB.out.cell (World.block_lt_of_cell? w _ hx131_2)).trans hx131_2
                      replace hx131_3 := (HB.out.cell (World.block_lt_of_cell? w _ hx131_3)).trans hx131_3
                      have HR131_2 := Aside0.mk hi131_2
                      have HC131_2 := Aside0.mk hl131_2
                      clear hi131_2 hl131_2
                      have HR131_3 := Aside0.mk hi131_3
                      have HC131_3 := Aside0.mk hl131_3
                      clear hi131_3 hl131_3
                      replace p131 := eq_true p131
                      replace q131 := eq_true q131
                      go_wp2
                      go_ret
                      exact ⟨by first | rfl | (simp [errW_none, errW_some] <;> rfl) | (simp [*, errW_none, errW_some] <;> rfl), by repeat (first | (with_reducible first | exact HB.out | apply Ze | apply Za | apply Zd | refine Zf ?_ GE101.out | refine Zf ?_ GE120.out | refine Zf ?_ GE123.out) | exact HB.out)⟩
                    ·replace c88 := Bool.eq_false_iff.mpr c88
                     subst c88
                     (try have hTbq87 := Nbq87.out.symm)
                     rw [if_neg (show ¬ (false = true) by decide)] at H
                     have H' := Aside0.mk H
                     clear H
                     go_wp2
                     go_roundg kj69
                     case measure => have := HJ1.out; have := HK2.out; have := HK3.out; have := HJ41.out; have := HK5.out; have := HJ69.out; omega
                     case rel => (try simp only [← Nbq87.out]); exact ⟨(wrap64 (x81_3 + 1)), (by first | rfl | (simp; done) | (simp [*]; done)), H', ⟨by have := HJ1.out; have := HK2.out; have := HK3.out; have := HJ41.out; have := HK5.out; have := HJ69.out; omega⟩, ⟨by (with_reducible repeat (first | apply Kd.R_alloc | apply Kd.R_drewN | apply Kd.R_drew)); exact HO_121000.out⟩, ⟨by (with_reducible repeat (first | apply Kd.S_alloc | apply Kd.S_drewN | apply Kd.S_drew)); exact Kd.S_mono HO_121001.out (fun _ hk => hk.1)⟩, ⟨by (with_reducible repeat (first | apply Kd.S_alloc | apply Kd.S_drewN | apply Kd.S_drew)); exact HO_121002.out⟩, ⟨by (with_reducible repeat (first | refine Zh ?_ _ | refine Zi ?_ | refine Zg ?_ _)); exact BK101.out⟩, ⟨by (with_reducible repeat (first | refine Zh ?_ _ | refine Zi ?_ | refine Zg ?_ _)); exact BK120.out⟩, ⟨by repeat (first | (with_reducible first | exact HB.out | apply Ze | apply Za | apply Zd | refine Zf ?_ GE101.out | refine Zf ?_ GE120.out | refine Zf ?_ GE123.out) | exact HB.out)⟩⟩
                   ·rw [if_neg c86] at H
                    have c86b0 : (x10_5 == 1) = false := beq_eq_false_iff_ne.mpr c86
                    have c86b1 : (x10_5 != 1) = true := bne_iff_ne.mpr c86
                    obtain rfl := Option.some.inj H
                    go_wp2
                    go_ret
                    exact ⟨by first | rfl | (simp [errW_none, errW_some] <;> rfl) | (simp [*, errW_none, errW_some] <;> rfl), by repeat (first | (with_reducible first | exact HB.out | apply Ze | apply Za | apply Zd | refine Zf ?_ GE101.out | refine Zf ?_ GE120.out | refine Zf ?_ GE123.out) | exact HB.out)⟩
                  ·replace c85 := Bool.eq_false_iff.mpr c85
                   subst c85
                   rw [if_neg (show ¬ (false = true) by decide)] at H
                   by_cases c103 : x10_5 = 0
                   ·rw [if_pos c103] at H
                    have c103b0 : (x10_5 == 0) = true := beq_iff_eq.mpr c103
                    have c103b1 : (x10_5 != 0) = false := bne_eq_false_iff_eq.mpr c103
                    clear c103
                    obtain ⟨bq104, hbq104⟩ : ∃ b_ : Bool, b_ = ((rdOf false ((rd_T76 l0_2 ((rd_T94 l0_1 x81_3).f1)).f3) ((rd_T94 l0_1 x81_3).f0))) := ⟨_, rfl⟩
                    replace H : (if bq104 = true then (if 0 ≤ ((rd_T94 l0_1 x81_3).f0) then (if ((rd_T94 l0_1 x81_3).f0) < (l0_2.length : Int) then (if ((rd_T76 l0_2 ((rd_T94 l0_1 x81_3).f0)).f0 = true) then (impl_isSnap.l1 kj69 x4_2 l0_1 (l0_1.length : Int) (wrap64 (x81_3 + 1)) l0_0 l0_1 l0_2 a0_3 a0_4 t109 t112 t115 t118 t119) else (some false)) else (none)) else (none)) else (impl_isSnap.l1 kj69 x4_2 l0_1 (l0_1.length : Int) (wrap64 (x81_3 + 1)) l0_0 l0_1 l0_2 a0_3 a0_4 t109 t112 t115 t118 t119)) = some r := by rw [← hbq104] at H; exact H
                    have Nbq104 := Aside0.mk hbq104
                    clear hbq104
                    by_cases c105 : bq104 = true
                    ·subst c105
                     (try have hTbq104 := Nbq104.out.symm)
                     rw [if_pos rfl] at H
                     by_cases c106 : 0 ≤ ((rd_T94 l0_1 x81_3).f0)
                     case neg => rw [if_neg c106] at H; exact absurd H (by simp)
                     rw [if_pos c106] at H
                     have c106b0 : decide (0 ≤ ((rd_T94 l0_1 x81_3).f0)) = true := decide_eq_true c106
                     clear c106
                     by_cases c107 : ((rd_T94 l0_1 x81_3).f0) < (l0_2.length : Int)
                     case neg => rw [if_neg c107] at H; exact absurd H (by simp)
                     rw [if_pos c107] at H
                     have c107b0 : decide (((rd_T94 l0_1 x81_3).f0) < (l0_2.length : Int)) = true := decide_eq_true c107
                     clear c107
                     obtain ⟨bq108, hbq108⟩ : ∃ b_ : Bool, b_ = ((rd_T76 l0_2 ((rd_T94 l0_1 x81_3).f0)).f0) := ⟨_, rfl⟩
                     replace H : (if (bq108 = true) then (impl_isSnap.l1 kj69 x4_2 l0_1 (l0_1.length : Int) (wrap64 (x81_3 + 1)) l0_0 l0_1 l0_2 a0_3 a0_4 t109 t112 t115 t118 t119) else (some false)) = some r := by rw [← hbq108] at H; exact H
                     have Nbq108 := Aside0.mk hbq108
                     clear hbq108
                     by_cases c109 : (bq108 = true)
                     ·subst c109
                      have hTbq108 := Nbq108.out.symm
                      rw [if_pos rfl] at H
                      have H' := Aside0.mk H
                      clear H
                      have hnb110 := NB101_120.out
                      have hnc110 := NB120_101.out
                      have hnb111 := NB101_123.out
                      have hnc111 := NB123_101.out
                      have hcz112_0 : wc.cell? ⟨gb101, 0, none⟩ = some (.slice A0_0 l0_0.length c0_0) := (Zb BK101.out 0).trans rfl
                      have hcz112_1 : wc.cell? ⟨gb101, 1, none⟩ = some (.slice (some ad122) l0_1.length c0_1) := (Zb BK101.out 1).trans rfl
                      have hcz112_2 : wc.cell? ⟨gb101, 2, none⟩ = some (.slice (some ad128) l0_2.length c0_2) := (Zb BK101.out 2).trans rfl
                      have hcz112_3 : wc.cell? ⟨gb101, 3, none⟩ = some (.int .i64 a0_3) := (Zb BK101.out 3).trans rfl
                      have hcz112_4 : wc.cell? ⟨gb101, 4, none⟩ = some (.int .i64 a0_4) := (Zb BK101.out 4).trans rfl
                      have hfz112_0 := Zc BK101.out 0
                      have hfz112_1 := Zc BK101.out 1
                      have hfz112_2 := Zc BK101.out 2
                      have hfz112_3 := Zc BK101.out 3
                      have hfz112_4 := Zc BK101.out 4
                      have hnb113 := NB123_120.out
                      have hnc113 := NB120_123.out
                      have hcz114_0 : wc.cell? ⟨gb123, 0, none⟩ = some (.int .i64 ((rd_T94 l0_1 x81_3).f0)) := (Zb BK123.out 0).trans rfl
                      have hcz114_1 : wc.cell? ⟨gb123, 1, none⟩ = some (.int .i64 ((rd_T94 l0_1 x81_3).f1)) := (Zb BK123.out 1).trans rfl
                      have hcz114_2 : wc.cell? ⟨gb123, 2, none⟩ = some (.slice A122_2 ((rd_T94 l0_1 x81_3).f2).length c122_2) := (Zb BK123.out 2).trans rfl
                      have hfz114_0 := Zc BK123.out 0
                      have hfz114_1 := Zc BK123.out 1
                      have hfz114_2 := Zc BK123.out 2
                      have p132 : 0 ≤ (((rd_T94 l0_1 x81_3).f0) : Int) := of_decide_eq_true (by assumption)
                      have q132 : ((rd_T94 l0_1 x81_3).f0) < (l0_2.length : Int) := of_decide_eq_true (by assumption)
                      obtain ⟨ad132, A132_2, c132_2, A132_3, c132_3, e132, hx132_0, hx132_1, hx132_2, hx132_3, hl132_2, hi132_2, hl132_3, hi132_3⟩ := at_T76 HR0_2.out ((rd_T94 l0_1 x81_3).f0) p132 q132
                      (try rw [← Nbq104.out] at hx132_0)
                      (try rw [← Nbq108.out] at hx132_0)
                      obtain rfl : ad128 = ad132 := (by injection e132)
                      replace hx132_0 := (HB.out.cell (World.block_lt_of_cell? w _ hx132_0)).trans hx132_0
                      replace hx132_1 := (HB.out.cell (World.block_lt_of_cell? w _ hx132_1)).trans hx132_1
                      replace hx132_2 := (HB.out.cell (World.block_lt_of_cell? w _ hx132_2)).trans hx132_2
                      replace hx132_3 := (HB.out.cell (World.block_lt_of_cell? w _ hx132_3)).trans hx132_3
                      have HR132_2 := Aside0.mk hi132_2
                      have HC132_2 := Aside0.mk hl132_2
                      clear hi132_2 hl132_2
                      have HR132_3 := Aside0.mk hi132_3
                      have HC132_3 := Aside0.mk hl132_3
                      clear hi132_3 hl132_3
                      replace p132 := eq_true p132
                      replace q132 := eq_true q132
                      go_wp2
                      go_roundg kj69
                      case measure => have := HJ1.out; have := HK2.out; have := HK3.out; have := HJ41.out; have := HK5.out; have := HJ69.out; omega
                      case rel => (try simp only [← Nbq104.out]); (try simp only [← Nbq108.out]); exact ⟨(wrap64 (x81_3 + 1)), (by first | rfl | (simp; done) | (simp [*]; done)), H', ⟨by have := HJ1.out; have := HK2.out; have := HK3.out; have := HJ41.out; have := HK5.out; have := HJ69.out; omega⟩, ⟨by (with_reducible repeat (first | apply Kd.R_alloc | apply Kd.R_drewN | apply Kd.R_drew)); exact HO_121000.out⟩, ⟨by (with_reducible repeat (first | apply Kd.S_alloc | apply Kd.S_drewN | apply Kd.S_drew)); exact Kd.S_mono HO_121001.out (fun _ hk => hk.1)⟩, ⟨by (with_reducible repeat (first | apply Kd.S_alloc | apply Kd.S_drewN | apply Kd.S_drew)); exact HO_121002.out⟩, ⟨by (with_reducible repeat (first | refine Zh ?_ _ | refine Zi ?_ | refine Zg ?_ _)); exact BK101.out⟩, ⟨by (with_reducible repeat (first | refine Zh ?_ _ | refine Zi ?_ | refine Zg ?_ _)); exact BK120.out⟩, ⟨by repeat (first | (with_reducible first | exact HB.out | apply Ze | apply Za | apply Zd | refine Zf ?_ GE101.out | refine Zf ?_ GE120.out | refine Zf ?_ GE123.out) | exact HB.out)⟩⟩
                     ·replace c109 := Bool.eq_false_iff.mpr c109
                      subst c109
                      have hTbq108 := Nbq108.out.symm
                      rw [if_neg (show ¬ (false = true) by decide)] at H
                      obtain rfl := Option.some.inj H
                      have hnb115 := NB101_120.out
                      have hnc115 := NB120_101.out
                      have hnb116 := NB101_123.out
                      have hnc116 := NB123_101.out
                      have hcz117_0 : wc.cell? ⟨gb101, 0, none⟩ = some (.slice A0_0 l0_0.length c0_0) := (Zb BK101.out 0).trans rfl
                      have hcz117_1 : wc.cell? ⟨gb101, 1, none⟩ = some (.slice (some ad122) l0_1.length c0_1) := (Zb BK101.out 1).trans rfl
                      have hcz117_2 : wc.cell? ⟨gb101, 2, none⟩ = some (.slice (some ad128) l0_2.length c0_2) := (Zb BK101.out 2).trans rfl
                      have hcz117_3 : wc.cell? ⟨gb101, 3, none⟩ = some (.int .i64 a0_3) := (Zb BK101.out 3).trans rfl
                      have hcz117_4 : wc.cell? ⟨gb101, 4, none⟩ = some (.int .i64 a0_4) := (Zb BK101.out 4).trans rfl
                      have hfz117_0 := Zc BK101.out 0
                      have hfz117_1 := Zc BK101.out 1
                      have hfz117_2 := Zc BK101.out 2
                      have hfz117_3 := Zc BK101.out 3
                      have hfz117_4 := Zc BK101.out 4
                      have hnb118 := NB123_120.out
                      have hnc118 := NB120_123.out
                      have hcz119_0 : wc.cell? ⟨gb123, 0, none⟩ = some (.int .i64 ((rd_T94 l0_1 x81_3).f0)) := (Zb BK123.out 0).trans rfl
                      have hcz119_1 : wc.cell? ⟨gb123, 1, none⟩ = some (.int .i64 ((rd_T94 l0_1 x81_3).f1)) := (Zb BK123.out 1).trans rfl
                      have hcz119_2 : wc.cell? ⟨gb123, 2, none⟩ = some (.slice A122_2 ((rd_T94 l0_1 x81_3).f2).length c122_2) := (Zb BK123.out 2).trans rfl
                      have hfz119_0 := Zc BK123.out 0
                      have hfz119_1 := Zc BK123.out 1
                      have hfz119_2 := Zc BK123.out 2
                      have p132 : 0 ≤ (((rd_T94 l0_1 x81_3).f0) : Int) := of_decide_eq_true (by assumption)
                      have q132 : ((rd_T94 l0_1 x81_3).f0) < (l0_2.length : Int) := of_decide_eq_true (by assumption)
                      obtain ⟨ad132, A132_2, c132_2, A132_3, c132_3, e132, hx132_0, hx132_1, hx132_2, hx132_3, hl132_2, hi132_2, hl132_3, hi132_3⟩ := at_T76 HR0_2.out ((rd_T94 l0_1 x81_3).f0) p132 q132
                      (try rw [← Nbq104.out] at hx132_0)
                      (try rw [← Nbq108.out] at hx132_0)
                      obtain rfl : ad128 = ad132 := (by injection e132)
                      replace hx132_0 := (HB.out.cell (World.block_lt_of_cell? w _ hx132_0)).trans hx132_0
                      replace hx132_1 := (HB.out.cell (World.block_lt_of_cell? w _ hx132_1)).trans hx132_1
                      replace hx132_2 := (HB.out.cell (World.block_lt_of_cell? w _ hx132_2)).trans hx132_2
                      replace hx132_3 := (HB.out.cell (World.block_lt_of_cell? w _ hx132_3)).trans hx132_3
                      have HR132_2 := Aside0.mk hi132_2
                      have HC132_2 := Aside0.mk hl132_2
                      clear hi132_2 hl132_2
                      have HR132_3 := Aside0.mk hi132_3
                      have HC132_3 := Aside0.mk hl132_3
                      clear hi132_3 hl132_3
                      replace p132 := eq_true p132
                      replace q132 := eq_true q132
                      go_wp2
                      go_ret
                      exact ⟨by first | rfl | (simp [errW_none, errW_some] <;> rfl) | (simp [*, errW_none, errW_some] <;> rfl), by repeat (first | (with_reducible first | exact HB.out | apply Ze | apply Za | apply Zd | refine Zf ?_ GE101.out | refine Zf ?_ GE120.out | refine Zf ?_ GE123.out) | exact HB.out)⟩
                    ·replace c105 := Bool.eq_false_iff.mpr c105
                     subst c105
                     (try have hTbq104 := Nbq104.out.symm)
                     rw [if_neg (show ¬ (false = true) by decide)] at H
                     have H' := Aside0.mk H
                     clear H
                     go_wp2
                     go_roundg kj69
                     case measure => have := HJ1.out; have := HK2.out; have := HK3.out; have := HJ41.out; have := HK5.out; have := HJ69.out; omega
                     case rel => (try simp only [← Nbq104.out]); exact ⟨(wrap64 (x81_3 + 1)), (by first | rfl | (simp; done) | (simp [*]; done)), H', ⟨by have := HJ1.out; have := HK2.out; have := HK3.out; have := HJ41.out; have := HK5.out; have := HJ69.out; omega⟩, ⟨by (with_reducible repeat (first | apply Kd.R_alloc | apply Kd.R_drewN | apply Kd.R_drew)); exact HO_121000.out⟩, ⟨by (with_reducible repeat (first | apply Kd.S_alloc | apply Kd.S_drewN | apply Kd.S_drew)); exact Kd.S_mono HO_121001.out (fun _ hk => hk.1)⟩, ⟨by (with_reducible repeat (first | apply Kd.S_alloc | apply Kd.S_drewN | apply Kd.S_drew)); exact HO_121002.out⟩, ⟨by (with_reducible repeat (first | refine Zh ?_ _ | refine Zi ?_ | refine Zg ?_ _)); exact BK101.out⟩, ⟨by (with_reducible repeat (first | refine Zh ?_ _ | refine Zi ?_ | refine Zg ?_ _)); exact BK120.out⟩, ⟨by repeat (first | (with_reducible first | exact HB.out | apply Ze | apply Za | apply Zd | refine Zf ?_ GE101.out | refine Zf ?_ GE120.out | refine Zf ?_ GE123.out) | exact HB.out)⟩⟩
                   ·rw [if_neg c103] at H
                    have c103b0 : (x10_5 == 0) = false := beq_eq_false_iff_ne.mpr c103
                    have c103b1 : (x10_5 != 0) = true := bne_iff_ne.mpr c103
                    obtain rfl := Option.some.inj H
                    go_wp2
                    go_ret
                    exact ⟨by first | rfl | (simp [errW_none, errW_some] <;> rfl) | (simp [*, errW_none, errW_some] <;> rfl), by repeat (first | (with_reducible first | exact HB.out | apply Ze | apply Za | apply Zd | refine Zf ?_ GE101.out | refine Zf ?_ GE120.out | refine Zf ?_ GE123.out) | exact HB.out)⟩
         ·rw [if_neg c39] at H
          have c39b0 : decide (x81_3 < (l0_1.length : Int)) = false := decide_eq_false c39
          clear c39
          replace H := Option.bind_eq_some_iff.mp H
          obtain ⟨t121, A1200, H⟩ := H
          have A120 := Aside0.mk A1200
          clear A1200
          obtain rfl := Option.some.inj H
          try go_wp2
          have n0_ := Aside0.mk (Kd.R_drew HO_121000.out)
          have n1_ := Aside0.mk (Kd.S_drew HO_121001.out)
          have n2_ := Aside0.mk (Kd.S_drew HO_121002.out)
          have n3_ := Aside0.mk (Zi BK101.out)
          have n4_ := Aside0.mk (Zi BK120.out)
          have n5_ := Aside0.mk (Zd HB.out)
          clear HO_121000
          clear HO_121001
          clear HO_121002
          clear BK101
          clear BK120
          clear HB
          have HO_121000 := n0_
          have HO_121001 := n1_
          have HO_121002 := n2_
          have BK101 := n3_
          have BK120 := n4_
          have HB := n5_
          clear n0_ n1_ n2_ n3_ n4_ n5_
          refine start_ (n := 8) (S := fun w' => w'.cell? ⟨gb101, 0, none⟩ = some (.slice A0_0 l0_0.length c0_0) ∧ w'.cell? ⟨gb101, 1, none⟩ = some (.slice A0_1 l0_1.length c0_1) ∧ w'.cell? ⟨gb101, 2, none⟩ = some (.slice A0_2 l0_2.length c0_2) ∧ w'.cell? ⟨gb101, 3, none⟩ = some (.int .i64 a0_3) ∧ w'.cell? ⟨gb101, 4, none⟩ = some (.int .i64 a0_4)) (ds := []) #[false, false, false, false, false, false, false, false] (by kernel_rfl) rfl rfl ⟨(Zb BK101.out 0).trans rfl, (Zb BK101.out 1).trans rfl, (Zb BK101.out 2).trans rfl, (Zb BK101.out 3).trans rfl, (Zb BK101.out 4).trans rfl⟩ (fun hHeld => ?_); refine with_tabW impl_isSnap.tab34 impl_isSnap.bits34 (fun HT_ HW_ => ?_)
          generalize wr.drew = w121 at HO_121000 HO_121001 HO_121002 BK101 BK120 HB hHeld ⊢
          refine Zm (i := 0) (N := some 166) (v := ?_) (a' := ?_) (Bm21 8 1) rfl rfl (Zj HT_.out (by kernel_rfl)) (fun _ _ _ h => h) (Or.inl ⟨by rfl, ?_⟩) ?_ ?_
          rotate_left
          ·intro w'
           go_simp
           with_reducible rfl
          rotate_left
          ·simp only [Act.put, Sa21, Sb21, Sc21, Zk, Zl]
           rfl
          refine Zm (i := 4) (N := some 170) (v := ?_) (a' := ?_) (Bm21 8 17) rfl rfl (Zj HT_.out (by kernel_rfl)) (fun _ _ _ h => h) (Or.inl ⟨by rfl, ?_⟩) ?_ ?_
          rotate_left
          ·intro w'
           go_simp
           with_reducible rfl
          rotate_left
          ·simp only [Act.put, Sa21, Sb21, Sc21, Zk, Zl]
           rfl
          refine take_ (i := 1) (N := some 167) (v := ?_) (a' := ?_) (Bm21 8 19) rfl rfl (Zr HT_.out HW_.out (by kernel_rfl)) (fun _ _ _ h => h) (Or.inl ⟨by rfl, ?_⟩) hHeld ?_ ?_
          rotate_left
          ·rintro w' ⟨s0, s1, s2, s3, s4⟩
           go_simp
           with_reducible rfl
          rotate_left
          ·simp only [Act.put, Sa21, Sb21, Sc21, Zk, Zl]
           rfl
          refine take_ (i := 5) (N := some 171) (v := ?_) (a' := ?_) (Bm21 8 51) rfl rfl (Zr HT_.out HW_.out (by kernel_rfl)) (fun _ _ _ h => h) (Or.inl ⟨by rfl, ?_⟩) hHeld ?_ ?_
          rotate_left
          ·rintro w' ⟨s0, s1, s2, s3, s4⟩
           go_simp
           with_reducible rfl
          rotate_left
          ·simp only [Act.put, Sa21, Sb21, Sc21, Zk, Zl]
           rfl
          refine one_ (i := 2) (N := some 168) (Bm21 8 55) rfl rfl (one_of HT_.out (by kernel_rfl)) (by decide) (fun K hK => ?_)
          refine goes_ Try.func77 (by kernel_rfl) rfl #[.agg #[.slice A0_0 l0_0.length c0_0, .slice A0_1 l0_1.length c0_1, .slice A0_2 l0_2.length c0_2, .int .i64 a0_3, .int .i64 a0_4]] (by rfl) rfl rfl (by (try simp only [List.map_toArray, List.map_cons, List.map_nil]); first | done | rfl | (simp only [List.length_drop, List.length_take]; rfl)) ?_
          with_reducible refine (impl_Snap_onWay.calls k3 _ _ l0_0 _ _ l0_1 _ _ l0_2 a0_3 a0_4 t121 _ ?side1 ?side2 ?side3 ?side4 ?side5 ?side6 A120.out).mono ?_
          (case side1 => repeat (first | exact (Kd.C_below HR0_0.out HB.out) | (with_reducible refine Kd.C_alloc ?_ _) | (with_reducible refine Kd.C_drewN ?_ _) | (with_reducible refine Kd.C_drew ?_)))
          (case side2 => exact HC0_0.out)
          (case side3 => repeat (first | exact (Kd.C_below HR0_1.out HB.out) | (with_reducible refine Kd.C_alloc ?_ _) | (with_reducible refine Kd.C_drewN ?_ _) | (with_reducible refine Kd.C_drew ?_)))
          (case side4 => exact HC0_1.out)
          (case side5 => repeat (first | exact (Kd.C_below HR0_2.out HB.out) | (with_reducible refine Kd.C_alloc ?_ _) | (with_reducible refine Kd.C_drewN ?_ _) | (with_reducible refine Kd.C_drew ?_)))
          (case side6 => exact HC0_2.out)
          rintro e w122 ⟨rfl, hb⟩
          refine ⟨_, rfl, ?_⟩
          have n0_ := Aside0.mk (Kd.R_below (by (with_reducible repeat (first | apply Kd.R_alloc | apply Kd.R_drewN | apply Kd.R_drew)); exact HO_121000.out) hb)
          have n1_ := Aside0.mk (Kd.S_below (by (with_reducible repeat (first | apply Kd.S_alloc | apply Kd.S_drewN | apply Kd.S_drew)); exact HO_121001.out) hb)
          have n2_ := Aside0.mk (Kd.S_below (by (with_reducible repeat (first | apply Kd.S_alloc | apply Kd.S_drewN | apply Kd.S_drew)); exact HO_121002.out) hb)
          have n3_ := Aside0.mk (Zq (g := gb101) (o := .cells #[.slice A0_0 l0_0.length c0_0, .slice A0_1 l0_1.length c0_1, .slice A0_2 l0_2.length c0_2, .int .i64 a0_3, .int .i64 a0_4] 35 (0, 0)) (by (with_reducible repeat (first | refine Zh ?_ _ | refine Zi ?_ | refine Zg ?_ _)); exact BK101.out) hb)
          have n4_ := Aside0.mk (Zq (g := gb120) (o := .cells #[.slice Ao33 t109.length co33, .slice Ao36 t112.length co36, .slice Ao37 t115.length co37, .int .i64 t118, .int .i64 t119] 35 (0, 0)) (by (with_reducible repeat (first | refine Zh ?_ _ | refine Zi ?_ | refine Zg ?_ _)); exact BK120.out) hb)
          have n5_ := Aside0.mk (Zo (by repeat (first | (with_reducible first | exact HB.out | apply Ze | apply Za | apply Zd | refine Zf ?_ GE101.out | refine Zf ?_ GE120.out) | exact HB.out)) hb)
          clear HO_121000
          clear HO_121001
          clear HO_121002
          clear BK101
          clear BK120
          clear HB
          have HO_121000 := n0_
          have HO_121001 := n1_
          have HO_121002 := n2_
          have BK101 := n3_
          have BK120 := n4_
          have HB := n5_
          clear n0_ n1_ n2_ n3_ n4_ n5_
          (try clear hb)
          (try clear hb2)
          (try clear hk)
          (try clear hi)
          refine hK.out _ _ ⟨(Zb BK101.out 0).trans rfl, (Zb BK101.out 1).trans rfl, (Zb BK101.out 2).trans rfl, (Zb BK101.out 3).trans rfl, (Zb BK101.out 4).trans rfl⟩ (fun hHeld => ?_)
          clear hK K
          refine norm_ (a' := ?_) ?_ ?_
          rotate_left
          ·show Act.put _ (some 168) _ = _
           simp only [Act.put, Sa21, Sb21, Sc21, Zk, Zl]
           rfl
          refine Zm (i := 3) (N := some 169) (v := ?_) (a' := ?_) (Bm21 8 63) rfl rfl (Zj HT_.out (by kernel_rfl)) (fun _ _ _ h => h) (Or.inl ⟨by rfl, ?_⟩) ?_ ?_
          rotate_left
          ·intro w'
           go_simp
           with_reducible rfl
          rotate_left
          ·simp only [Act.put, Sa21, Sb21, Sc21, Zk, Zl]
           rfl
          refine Zm (i := 6) (N := some 172) (v := ?_) (a' := ?_) (Bm21 8 127) rfl rfl (Zj HT_.out (by kernel_rfl)) (fun _ _ _ h => h) (Or.inl ⟨by rfl, ?_⟩) ?_ ?_
          rotate_left
          ·intro w'
           go_simp
           with_reducible rfl
          rotate_left
          ·simp only [Act.put, Sa21, Sb21, Sc21, Zk, Zl]
           rfl
          refine Zm (i := 7) (N := some 2) (v := ?_) (a' := ?_) (Bm21 8 255) rfl rfl (Zj HT_.out (by kernel_rfl)) (fun _ _ _ h => h) (Or.inl ⟨by rfl, ?_⟩) ?_ ?_
          rotate_left
          ·intro w'
           go_simp
           with_reducible rfl
          rotate_left
          ·simp only [Act.put, Sa21, Sb21, Sc21, Zk, Zl]
           rfl
          refine done_ (done_of HT_.out (by kernel_rfl)) ?_
          try go_wp2
          go_ret
          exact ⟨by first | rfl | (simp [errW_none, errW_some] <;> rfl) | (simp [*, errW_none, errW_some] <;> rfl), by repeat (first | (with_reducible first | exact HB.out | apply Ze | apply Za | apply Zd | refine Zf ?_ GE101.out | refine Zf ?_ GE120.out) | exact HB.out)⟩
end Go.Proofs.Ytmkiffemanmgcaa.P
end
