-- Written by programs of this session (wip/prune.py, wip/xp.py), out of the translation and the printed words; what the law does not reach is left out. Not trusted: Lean checks it.
import Derived.Test.YtmkiffemanmgcaaZXPictureOfPx0
import Derived.Test.YtmkiffemanmgcaaZXPictureOfPx17
import Derived.Test.YtmkiffemanmgcaaZXPictureOfPx23
import Derived.Test.YtmkiffemanmgcaaZXPictureOfPx3
import Derived.Test.YtmkiffemanmgcaaZXPictureOfPx7
section
namespace Go.Proofs.Ytmkiffemanmgcaa.P
open Go.RowKit Go.Proofs.YtmkiffemanmgcaaW.PrintWords Go.Proofs.YtmkiffemanmgcaaW.PrintLast Go.Proofs.YtmkiffemanmgcaaW.PrintMore
attribute [local go_sem] max2_int min2_int max_two min_two max_three min_three max_four min_four   -- for this text's walks alone
set_option linter.unusedVariables false
set_option linter.unusedSimpArgs false
def Bm24 (n m : Nat) : Array Bool := ((List.range n).map (fun i => m.testBit i)).toArray
theorem Sa24 {α : Type} (l : List α) (i : Nat) (a : α) : l.toArray.setIfInBounds i a = (l.set i a).toArray := List.setIfInBounds_toArray l i a
theorem Sb24 {α : Type} (a b : α) (l : List α) : (a :: l).set 0 b = b :: l := rfl
theorem Sc24 {α : Type} (a b : α) (l : List α) (n : Nat) : (a :: l).set (n + 1) b = a :: l.set n b := rfl
mutual
def spec_GoodSnap.j0 : Nat → List (S94) → Bool → List Int → List (S94) → List (S76) → Int → Int → Option (Bool)
 | 0, _, _, _, _, _, _, _ => none
 | k + 1, x4, x41, x102000, x102001, x102002, x102003, x102004 => if x41 = true then (some false) else (spec_GoodSnap.l0 k x4 0 x102000 (x102000.length : Int) 0 x102000 x102001 x102002 x102003 x102004)
def spec_GoodSnap.l0 : Nat → List (S94) → Int → List Int → Int → Int → List Int → List (S94) → List (S76) → Int → Int → Option (Bool)
 | 0, _, _, _, _, _, _, _, _, _, _ => none
 | k + 1, x4, x5, x43, x44, x45, x102000, x102001, x102002, x102003, x102004 => if x45 < x44 then (if 0 ≤ x45 then (if x45 < (x43.length : Int) then ((spec_l1In.f (rd x43 x45) 0 1000).bind fun t108 => (if t108 = true then ((spec_l8Picture.f k x102000 x102001 x102002 x102003 x102004 x45).bind fun t109 => (spec_GoodSnap.j2 k x4 x5 (rd x43 x45) x43 x44 x45 (!t109) x102000 x102001 x102002 x102003 x102004)) else (spec_GoodSnap.j2 k x4 x5 (rd x43 x45) x43 x44 x45 true x102000 x102001 x102002 x102003 x102004))) else (none)) else (none)) else (spec_GoodSnap.l1 k x4 x5 x102001 (x102001.length : Int) 0 x102000 x102001 x102002 x102003 x102004)
def spec_GoodSnap.j2 : Nat → List (S94) → Int → Int → List Int → Int → Int → Bool → List Int → List (S94) → List (S76) → Int → Int → Option (Bool)
 | 0, _, _, _, _, _, _, _, _, _, _, _, _ => none
 | k + 1, x4, x5, x7, x43, x44, x45, x58, x102000, x102001, x102002, x102003, x102004 => if x58 = true then (some false) else (spec_GoodSnap.l0 k x4 (wrap64 (x5 + x7)) x43 x44 (wrap64 (x45 + 1)) x102000 x102001 x102002 x102003 x102004)
def spec_GoodSnap.l1 : Nat → List (S94) → Int → List (S94) → Int → Int → List Int → List (S94) → List (S76) → Int → Int → Option (Bool)
 | 0, _, _, _, _, _, _, _, _, _, _ => none
 | k + 1, x4, x5, x64, x65, x66, x102000, x102001, x102002, x102003, x102004 => if x66 < x65 then (if 0 ≤ x66 then (if x66 < (x64.length : Int) then (if x66 < (x4.length : Int) then (if ((rd_T94 x64 x66).f0) = ((rd_T94 x4 x66).f0) then (if ((rd_T94 x64 x66).f1) = ((rd_T94 x4 x66).f1) then (spec_GoodSnap.j4 k x4 x5 x64 x65 x66 (decide ((((rd_T94 x64 x66).f2).length : Int) > 8)) x102000 x102001 x102002 x102003 x102004 ((rd_T94 x64 x66).f0) ((rd_T94 x64 x66).f1) ((rd_T94 x64 x66).f2)) else (spec_GoodSnap.j4 k x4 x5 x64 x65 x66 true x102000 x102001 x102002 x102003 x102004 ((rd_T94 x64 x66).f0) ((rd_T94 x64 x66).f1) ((rd_T94 x64 x66).f2))) else (spec_GoodSnap.j4 k x4 x5 x64 x65 x66 true x102000 x102001 x102002 x102003 x102004 ((rd_T94 x64 x66).f0) ((rd_T94 x64 x66).f1) ((rd_T94 x64 x66).f2))) else (none)) else (none)) else (none)) else ((spec_l8OnWay.f k x102000 x102001 x102002 x102003 x102004).bind fun t122 => (if (wrap64 (x5 + t122)) = x102004 then ((spec_l1In.f x102004 0 1000).bind fun t123 => (some t123)) else (some false)))
def spec_GoodSnap.j4 : Nat → List (S94) → Int → List (S94) → Int → Int → Bool → List Int → List (S94) → List (S76) → Int → Int → Int → Int → List Int → Option (Bool)
 | 0, _, _, _, _, _, _, _, _, _, _, _, _, _, _ => none
 | k + 1, x4, x5, x64, x65, x66, x94, x102000, x102001, x102002, x102003, x102004, x112000, x112001, x112002 => if x94 = true then (some false) else (spec_GoodSnap.l2 k x4 x5 x64 x65 x66 x112002 (x112002.length : Int) 0 x102000 x102001 x102002 x102003 x102004 x112000 x112001 x112002)
def spec_GoodSnap.l2 : Nat → List (S94) → Int → List (S94) → Int → Int → List Int → Int → Int → List Int → List (S94) → List (S76) → Int → Int → Int → Int → List Int → Option (Bool)
 | 0, _, _, _, _, _, _, _, _, _, _, _, _, _, _, _, _ => none
 | k + 1, x4, x5, x64, x65, x66, x96, x97, x98, x102000, x102001, x102002, x102003, x102004, x112000, x112001, x112002 => if x98 < x97 then (if 0 ≤ x98 then (if x98 < (x96.length : Int) then ((spec_l1In.f (rd x96 x98) 0 1000).bind fun t115 => (if t115 = true then (spec_GoodSnap.l2 k x4 x5 x64 x65 x66 x96 x97 (wrap64 (x98 + 1)) x102000 x102001 x102002 x102003 x102004 x112000 x112001 x112002) else (some false))) else (none)) else (none)) else ((spec_l8Marks.f k x112000 x112001 x112002).bind fun t116 => (if 0 ≤ x112001 then (if x112001 < (x102002.length : Int) then (if 0 ≤ x112000 then (if x112000 < (((rd_T76 x102002 x112001).f3).length : Int) then (if rdOf false ((rd_T76 x102002 x112001).f3) x112000 = true then (spec_GoodSnap.j6 k x4 x5 (wrap64 (t116 + 1)) x64 x65 x66 x102000 x102001 x102002 x102003 x102004 x112000 x112001 x112002) else (spec_GoodSnap.j6 k x4 x5 t116 x64 x65 x66 x102000 x102001 x102002 x102003 x102004 x112000 x112001 x112002)) else (none)) else (none)) else (none)) else (none)))
def spec_GoodSnap.j6 : Nat → List (S94) → Int → Int → List (S94) → Int → Int → List Int → List (S94) → List (S76) → Int → Int → Int → Int → List Int → Option (Bool)
 | 0, _, _, _, _, _, _, _, _, _, _, _, _, _, _ => none
 | k + 1, x4, x5, x12, x64, x65, x66, x102000, x102001, x102002, x102003, x102004, x112000, x112001, x112002 => if 0 ≤ x112000 then (if x112000 < (x102002.length : Int) then (if (rd_T76 x102002 x112000).f0 = true then (if x12 = 1 then (if ((rd_T76 x102002 x112000).f0 = true) then (spec_GoodSnap.j7 k x4 x5 x64 x65 x66 false x102000 x102001 x102002 x102003 x102004) else (spec_GoodSnap.j7 k x4 x5 x64 x65 x66 (x12 != 0) x102000 x102001 x102002 x102003 x102004)) else (spec_GoodSnap.j7 k x4 x5 x64 x65 x66 true x102000 x102001 x102002 x102003 x102004)) else (if ((rd_T76 x102002 x112000).f0 = true) then (spec_GoodSnap.j7 k x4 x5 x64 x65 x66 false x102000 x102001 x102002 x102003 x102004) else (spec_GoodSnap.j7 k x4 x5 x64 x65 x66 (x12 != 0) x102000 x102001 x102002 x102003 x102004))) else (none)) else (none)
def spec_GoodSnap.j7 : Nat → List (S94) → Int → List (S94) → Int → Int → Bool → List Int → List (S94) → List (S76) → Int → Int → Option (Bool)
 | 0, _, _, _, _, _, _, _, _, _, _, _ => none
 | k + 1, x4, x5, x64, x65, x66, x145, x102000, x102001, x102002, x102003, x102004 => if x145 = true then (some false) else (spec_GoodSnap.l1 k x4 x5 x64 x65 (wrap64 (x66 + 1)) x102000 x102001 x102002 x102003 x102004)
end
def spec_GoodSnap.f (k : Nat) (l0_0 : List Int) (l0_1 : List (S94)) (l0_2 : List (S76)) (a0_3 : Int) (a0_4 : Int) : Option (Bool) := (spec_l8Chans.f k (l0_0.length : Int)).bind fun t102 => ((spec_l1In.f (l0_0.length : Int) 2 4).bind fun t105 => (if t105 = true then (if (l0_2.length : Int) = (l0_0.length : Int) then (if (l0_1.length : Int) = (t102.length : Int) then ((spec_l1In.f a0_3 0 1000).bind fun t106 => (spec_GoodSnap.j0 k t102 (!t106) l0_0 l0_1 l0_2 a0_3 a0_4)) else (spec_GoodSnap.j0 k t102 true l0_0 l0_1 l0_2 a0_3 a0_4)) else (spec_GoodSnap.j0 k t102 true l0_0 l0_1 l0_2 a0_3 a0_4)) else (spec_GoodSnap.j0 k t102 true l0_0 l0_1 l0_2 a0_3 a0_4)))
def spec_GoodSnap.T16 : Bool × List (List Nat × List Nat) := (true, [([], []), ([0], [0]), ([], []), ([], []), ([2, 3], [2, 3]), ([4], [4]), ([5], [5]), ([1, 6], [1, 6]), ([7], [7]), ([8], [8]), ([9, 8], [8, 9]), ([8], [8]), ([8], [8]), ([11, 12, 8], [8, 11, 12]), ([13, 8], [8, 13]), ([14, 8], [8, 14]), ([10, 15, 8], [8, 10, 15]), ([8, 16], [8, 16]), ([17, 8], [17]), ([18], [18]), ([19, 18], [18, 19]), ([20, 18], [18, 20]), ([21, 18], [18, 21]), ([18, 22], [18, 22])])
def spec_GoodSnap.B16 : List Nat := [0, 1, 0, 0, 12, 28, 60, 127, 255, 511, 1023, 511, 511, 6655, 14847, 31231, 65535, 131071, 262143, 524287, 1048575, 2097151, 4194303, 8388607]
theorem spec_GoodSnap.tab16 : rtab .any (opsOf Try.f36 16) = spec_GoodSnap.T16 := by kernel_rfl
theorem spec_GoodSnap.bits16 : waitsOk spec_GoodSnap.T16.2 spec_GoodSnap.B16 = true := by kernel_rfl
def spec_GoodSnap.T25 : Bool × List (List Nat × List Nat) := (true, [([], []), ([0], [0]), ([], []), ([2], [2]), ([1, 3], [1, 3]), ([4], [4]), ([5], [5]), ([], []), ([7], [7]), ([6, 8], [6, 8]), ([9], [9])])
def spec_GoodSnap.B25 : List Nat := [0, 1, 0, 4, 15, 31, 63, 0, 128, 511, 1023]
theorem spec_GoodSnap.tab25 : rtab .any (opsOf Try.f36 25) = spec_GoodSnap.T25 := by kernel_rfl
theorem spec_GoodSnap.bits25 : waitsOk spec_GoodSnap.T25.2 spec_GoodSnap.B25 = true := by kernel_rfl
def spec_GoodSnap.T30 : Bool × List (List Nat × List Nat) := (true, [([], []), ([], []), ([1], [1]), ([0, 2], [0, 2]), ([], []), ([4], [4]), ([3, 5], [3, 5]), ([6, 2], [6]), ([7], [7]), ([8, 7], [7, 8]), ([9, 7, 7], [7, 9]), ([7, 10], [7, 10]), ([11, 10, 0, 1, 2, 3, 4, 5, 6, 7, 8, 9, 10, 11], [11])])
def spec_GoodSnap.B30 : List Nat := [0, 0, 2, 7, 0, 16, 63, 127, 255, 511, 1023, 2047, 4095]
theorem spec_GoodSnap.tab30 : rtab .any (opsOf Try.f36 30) = spec_GoodSnap.T30 := by kernel_rfl
theorem spec_GoodSnap.bits30 : waitsOk spec_GoodSnap.T30.2 spec_GoodSnap.B30 = true := by kernel_rfl
set_option maxHeartbeats 8000000 in
set_option maxRecDepth 100000 in
theorem spec_GoodSnap.calls (k : Nat) (A0_0 : Option Addr) (c0_0 : Nat) (l0_0 : List Int) (A0_1 : Option Addr) (c0_1 : Nat) (l0_1 : List (S94)) (A0_2 : Option Addr) (c0_2 : Nat) (l0_2 : List (S76)) (a0_3 : Int) (a0_4 : Int) (r : Bool) (w : World) (hr0_0 : Kd.C (Kd.int .i64) w A0_0 l0_0.length l0_0) (hc0_0 : l0_0.length ≤ c0_0) (hr0_1 : Kd.C k94 w A0_1 l0_1.length l0_1) (hc0_1 : l0_1.length ≤ c0_1) (hr0_2 : Kd.C k76 w A0_2 l0_2.length l0_2) (hc0_2 : l0_2.length ≤ c0_2) (h : spec_GoodSnap.f k l0_0 l0_1 l0_2 a0_3 a0_4 = some r) :
  Calls Try.prog 36 #[.agg #[.slice A0_0 l0_0.length c0_0, .slice A0_1 l0_1.length c0_1, .slice A0_2 l0_2.length c0_2, .int .i64 a0_3, .int .i64 a0_4]] w fun e w' => e = .returned (.bool r) ∧ Below w.heap.size w w' := by
 have hu35 := Try.underlying35; have hu31 := Try.underlying31; have hu94 := Try.underlying94; have HR0_0 := Aside0.mk hr0_0; have HC0_0 := Aside0.mk hc0_0; clear hr0_0 hc0_0; have HR0_1 := Aside0.mk hr0_1; have HC0_1 := Aside0.mk hc0_1; clear hr0_1 hc0_1; have HR0_2 := Aside0.mk hr0_2; have HC0_2 := Aside0.mk hc0_2; clear hr0_2 hc0_2; have HB := Aside0.mk (Below.refl w.heap.size w); have H : ((spec_l8Chans.f k (l0_0.length : Int)).bind fun t102 => ((spec_l1In.f (l0_0.length : Int) 2 4).bind fun t105 => (if t105 = true then (if (l0_2.length : Int) = (l0_0.length : Int) then (if (l0_1.length : Int) = (t102.length : Int) then ((spec_l1In.f a0_3 0 1000).bind fun t106 => (spec_GoodSnap.j0 k t102 (!t106) l0_0 l0_1 l0_2 a0_3 a0_4)) else (spec_GoodSnap.j0 k t102 true l0_0 l0_1 l0_2 a0_3 a0_4)) else (spec_GoodSnap.j0 k t102 true l0_0 l0_1 l0_2 a0_3 a0_4)) else (spec_GoodSnap.j0 k t102 true l0_0 l0_1 l0_2 a0_3 a0_4)))) = some r := h; clear h; replace H := Option.bind_eq_some_iff.mp H; obtain ⟨t102, A20, H⟩ := H; have A2 := Aside0.mk A20; clear A20; have HC3 := Aside0.mk H; clear H; go_enter Try.func36, Try.ntmps36
 go_upto_region 3 with (first | ((with_reducible refine Zv (N := 1) rfl ?_); (try (refine gate_guard (by rfl) ?_; dsimp only)); refine Zu ?hg (N := 1) ?hd (cs := #[.slice A0_0 l0_0.length c0_0, .slice A0_1 l0_1.length c0_1, .slice A0_2 l0_2.length c0_2, .int .i64 a0_3, .int .i64 a0_4]) (t := 35) ?hr ?_; (case hd => rfl); (case hg => rfl); (case hr => first | (go_simp; done) | (go_simp; rfl)); intro gb101 hg w4 hbox hb; have n0_ := Aside0.mk (Zo (by repeat (first | (with_reducible first | exact HB.out | apply Ze | apply Za | apply Zd) | exact HB.out)) hb); have n1_ := Aside0.mk (hbox); have n2_ := Aside0.mk ((by rw [hg]; exact (Zn (by repeat (first | (with_reducible first | exact HB.out | apply Ze | apply Za | apply Zd) | exact HB.out))) : w.heap.size ≤ gb101)); have n3_ := n2_; clear HB; have HB := n0_; have BK101 := n1_; have GW101 := n2_; have GE101 := n3_; clear n0_ n1_ n2_ n3_; clear hb hbox hg; have hcz5_0 : w4.cell? ⟨gb101, 0, none⟩ = some (.slice A0_0 l0_0.length c0_0) := (Zb BK101.out 0).trans rfl; have hcz5_1 : w4.cell? ⟨gb101, 1, none⟩ = some (.slice A0_1 l0_1.length c0_1) := (Zb BK101.out 1).trans rfl; have hcz5_2 : w4.cell? ⟨gb101, 2, none⟩ = some (.slice A0_2 l0_2.length c0_2) := (Zb BK101.out 2).trans rfl; have hcz5_3 : w4.cell? ⟨gb101, 3, none⟩ = some (.int .i64 a0_3) := (Zb BK101.out 3).trans rfl; have hcz5_4 : w4.cell? ⟨gb101, 4, none⟩ = some (.int .i64 a0_4) := (Zb BK101.out 4).trans rfl; have hfz5_0 := Zc BK101.out 0; have hfz5_1 := Zc BK101.out 1; have hfz5_2 := Zc BK101.out 2; have hfz5_3 := Zc BK101.out 3; have hfz5_4 := Zc BK101.out 4) | ((with_reducible refine Zp (f := 52) rfl ?_); refine Zw (some 17) rfl rfl Try.func52 (by kernel_rfl) rfl #[.int .i64 (l0_0.length : Int)] rfl (by (try simp only [List.map_toArray, List.map_cons, List.map_nil]); first | done | rfl | (simp only [List.length_drop, List.length_take]; rfl)) ?_; (with_reducible refine (spec_l8Chans.calls k (l0_0.length : Int) t102 _ A2.out).mono ?_); rintro e w6 ⟨v103, rfl, ho0, hb⟩; refine ⟨_, rfl, ?_⟩; have n0_ := Aside0.mk (Kd.S_lower ho0 (Zn (by repeat (first | (with_reducible first | exact HB.out | apply Ze | apply Za | apply Zd | refine Zg ?_ GE101.out) | exact HB.out)))); have n1_ := Aside0.mk (Zq (g := gb101) (o := .cells #[.slice A0_0 l0_0.length c0_0, .slice A0_1 l0_1.length c0_1, .slice A0_2 l0_2.length c0_2, .int .i64 a0_3, .int .i64 a0_4] 35 (0, 0)) (by (with_reducible repeat (first | refine Zh ?_ _ | refine Zi ?_ | refine Zf ?_ _)); exact BK101.out) hb); have n2_ := Aside0.mk (Zo (by repeat (first | (with_reducible first | exact HB.out | apply Ze | apply Za | apply Zd | refine Zg ?_ GE101.out) | exact HB.out)) hb); clear BK101; clear HB; have HO104 := n0_; have BK101 := n1_; have HB := n2_; clear n0_ n1_ n2_; (try clear hb); (try clear ho0)))
 (try simp only [Act.put, Sa24, Sb24, Sc24])
 go_cut [41] (fun v41 wc => ∃ (kq : Nat) (x41_2 : Bool), v41 = .bool x41_2 ∧ Aside0 (spec_GoodSnap.j0 kq t102 x41_2 l0_0 l0_1 l0_2 a0_3 a0_4 = some r) ∧ Aside0 (kq ≤ k) ∧ Aside0 (Kd.S k94 94 wc w.heap.size (fun _ => True) v103 t102) ∧ Aside0 (wc.heap[gb101]? = some (.cells #[(.slice A0_0 l0_0.length c0_0), (.slice A0_1 l0_1.length c0_1), (.slice A0_2 l0_2.length c0_2), .int .i64 a0_3, .int .i64 a0_4] 35 (0, 0))) ∧ Aside0 (Below w.heap.size w wc))
 case first =>
  have H := HC3.out; clear HC3; replace H := Option.bind_eq_some_iff.mp H; obtain ⟨t105, A70, H⟩ := H; have A7 := Aside0.mk A70; clear A70; by_cases c8 : t105 = true
  ·subst c8; rw [if_pos rfl] at H; by_cases c9 : (l0_2.length : Int) = (l0_0.length : Int)
   ·rw [if_pos c9] at H; have c9b0 : ((l0_2.length : Int) == (l0_0.length : Int)) = true := beq_iff_eq.mpr c9; have c9b1 : ((l0_2.length : Int) != (l0_0.length : Int)) = false := bne_eq_false_iff_eq.mpr c9; have c9b2 : (l0_2.length == l0_0.length) = true := by first | simpa using c9 | (simp at c9 ⊢; omega)
    clear c9
    (first | rw [c9b0] | (simp only [Zk, Zl]; rw [c9b0]) | skip)
    by_cases c10 : (l0_1.length : Int) = (t102.length : Int)
    ·rw [if_pos c10] at H; have c10b0 : ((l0_1.length : Int) == (t102.length : Int)) = true := beq_iff_eq.mpr c10; have c10b1 : ((l0_1.length : Int) != (t102.length : Int)) = false := bne_eq_false_iff_eq.mpr c10; have c10b2 : (l0_1.length == t102.length) = true := by first | simpa using c10 | (simp at c10 ⊢; omega)
     clear c10; replace H := Option.bind_eq_some_iff.mp H; obtain ⟨t106, A110, H⟩ := H; have A11 := Aside0.mk A110; clear A110; have H' := Aside0.mk H; clear H; go_wp2_with (first | ((with_reducible refine Zp (f := 43) rfl ?_); refine Zw (some 19) rfl rfl Try.func43 (by kernel_rfl) rfl #[.int .i64 (l0_0.length : Int), .int .i64 2, .int .i64 4] rfl (by (try simp only [List.map_toArray, List.map_cons, List.map_nil]); first | done | rfl | (simp only [List.length_drop, List.length_take]; rfl)) ?_; (with_reducible refine (spec_l1In.calls (l0_0.length : Int) 2 4 true _ A7.out).mono ?_); rintro e w' ⟨rfl, ⟨nd, rfl⟩⟩; refine ⟨_, rfl, ?_⟩; have hcz12_0 : w6.cell? ⟨gb101, 0, none⟩ = some (.slice A0_0 l0_0.length c0_0) := (Zb BK101.out 0).trans rfl; have hcz12_1 : w6.cell? ⟨gb101, 1, none⟩ = some (.slice A0_1 l0_1.length c0_1) := (Zb BK101.out 1).trans rfl; have hcz12_2 : w6.cell? ⟨gb101, 2, none⟩ = some (.slice A0_2 l0_2.length c0_2) := (Zb BK101.out 2).trans rfl; have hcz12_3 : w6.cell? ⟨gb101, 3, none⟩ = some (.int .i64 a0_3) := (Zb BK101.out 3).trans rfl; have hcz12_4 : w6.cell? ⟨gb101, 4, none⟩ = some (.int .i64 a0_4) := (Zb BK101.out 4).trans rfl; have hfz12_0 := Zc BK101.out 0; have hfz12_1 := Zc BK101.out 1; have hfz12_2 := Zc BK101.out 2; have hfz12_3 := Zc BK101.out 3; have hfz12_4 := Zc BK101.out 4; obtain ⟨Ao13, co13, eo13⟩ := Kd.S_slice HO104.out; subst eo13) | (go_at_call 43; (with_reducible refine (spec_l1In.calls a0_3 0 1000 t106 _ A11.out).mono ?_); rintro e w' ⟨rfl, ⟨nd, rfl⟩⟩)); go_meet
     case rel => exact ⟨_, (!t106), (by first | rfl | (simp; done) | (simp [*]; done)), H', ⟨by first | omega | exact Nat.le_refl _⟩, ⟨by (with_reducible repeat (first | apply Kd.S_alloc | apply Kd.S_drewN | apply Kd.S_drew)); exact HO104.out⟩, ⟨by (with_reducible repeat (first | refine Zh ?_ _ | refine Zi ?_ | refine Zf ?_ _)); exact BK101.out⟩, ⟨by repeat (first | (with_reducible first | exact HB.out | apply Ze | apply Za | apply Zd | refine Zg ?_ GE101.out) | exact HB.out)⟩⟩
    ·rw [if_neg c10] at H; have c10b0 : ((l0_1.length : Int) == (t102.length : Int)) = false := beq_eq_false_iff_ne.mpr c10; have c10b1 : ((l0_1.length : Int) != (t102.length : Int)) = true := bne_iff_ne.mpr c10; have c10b2 : (l0_1.length == t102.length) = false := by first | simpa using c10 | (simp at c10 ⊢; omega)
     have H' := Aside0.mk H; clear H; go_wp2_with (first | ((with_reducible refine Zp (f := 43) rfl ?_); refine Zw (some 19) rfl rfl Try.func43 (by kernel_rfl) rfl #[.int .i64 (l0_0.length : Int), .int .i64 2, .int .i64 4] rfl (by (try simp only [List.map_toArray, List.map_cons, List.map_nil]); first | done | rfl | (simp only [List.length_drop, List.length_take]; rfl)) ?_; (with_reducible refine (spec_l1In.calls (l0_0.length : Int) 2 4 true _ A7.out).mono ?_); rintro e w' ⟨rfl, ⟨nd, rfl⟩⟩; refine ⟨_, rfl, ?_⟩; have hcz14_0 : w6.cell? ⟨gb101, 0, none⟩ = some (.slice A0_0 l0_0.length c0_0) := (Zb BK101.out 0).trans rfl; have hcz14_1 : w6.cell? ⟨gb101, 1, none⟩ = some (.slice A0_1 l0_1.length c0_1) := (Zb BK101.out 1).trans rfl; have hcz14_2 : w6.cell? ⟨gb101, 2, none⟩ = some (.slice A0_2 l0_2.length c0_2) := (Zb BK101.out 2).trans rfl; have hcz14_3 : w6.cell? ⟨gb101, 3, none⟩ = some (.int .i64 a0_3) := (Zb BK101.out 3).trans rfl; have hcz14_4 : w6.cell? ⟨gb101, 4, none⟩ = some (.int .i64 a0_4) := (Zb BK101.out 4).trans rfl; have hfz14_0 := Zc BK101.out 0; have hfz14_1 := Zc BK101.out 1; have hfz14_2 := Zc BK101.out 2; have hfz14_3 := Zc BK101.out 3; have hfz14_4 := Zc BK101.out 4; obtain ⟨Ao15, co15, eo15⟩ := Kd.S_slice HO104.out; subst eo15)); go_meet
     case rel => exact ⟨_, (true), (by first | rfl | (simp; done) | (simp [*]; done)), H', ⟨by first | omega | exact Nat.le_refl _⟩, ⟨by (with_reducible repeat (first | apply Kd.S_alloc | apply Kd.S_drewN | apply Kd.S_drew)); exact HO104.out⟩, ⟨by (with_reducible repeat (first | refine Zh ?_ _ | refine Zi ?_ | refine Zf ?_ _)); exact BK101.out⟩, ⟨by repeat (first | (with_reducible first | exact HB.out | apply Ze | apply Za | apply Zd | refine Zg ?_ GE101.out) | exact HB.out)⟩⟩
   ·rw [if_neg c9] at H; have c9b0 : ((l0_2.length : Int) == (l0_0.length : Int)) = false := beq_eq_false_iff_ne.mpr c9; have c9b1 : ((l0_2.length : Int) != (l0_0.length : Int)) = true := bne_iff_ne.mpr c9; have c9b2 : (l0_2.length == l0_0.length) = false := by first | simpa using c9 | (simp at c9 ⊢; omega)
    (first | rw [c9b0] | (simp only [Zk, Zl]; rw [c9b0]) | skip)
    have H' := Aside0.mk H; clear H; go_wp2_with (first | ((with_reducible refine Zp (f := 43) rfl ?_); refine Zw (some 19) rfl rfl Try.func43 (by kernel_rfl) rfl #[.int .i64 (l0_0.length : Int), .int .i64 2, .int .i64 4] rfl (by (try simp only [List.map_toArray, List.map_cons, List.map_nil]); first | done | rfl | (simp only [List.length_drop, List.length_take]; rfl)) ?_; (with_reducible refine (spec_l1In.calls (l0_0.length : Int) 2 4 true _ A7.out).mono ?_); rintro e w' ⟨rfl, ⟨nd, rfl⟩⟩; refine ⟨_, rfl, ?_⟩; have hcz16_0 : w6.cell? ⟨gb101, 0, none⟩ = some (.slice A0_0 l0_0.length c0_0) := (Zb BK101.out 0).trans rfl; have hcz16_1 : w6.cell? ⟨gb101, 1, none⟩ = some (.slice A0_1 l0_1.length c0_1) := (Zb BK101.out 1).trans rfl; have hcz16_2 : w6.cell? ⟨gb101, 2, none⟩ = some (.slice A0_2 l0_2.length c0_2) := (Zb BK101.out 2).trans rfl; have hcz16_3 : w6.cell? ⟨gb101, 3, none⟩ = some (.int .i64 a0_3) := (Zb BK101.out 3).trans rfl; have hcz16_4 : w6.cell? ⟨gb101, 4, none⟩ = some (.int .i64 a0_4) := (Zb BK101.out 4).trans rfl; have hfz16_0 := Zc BK101.out 0; have hfz16_1 := Zc BK101.out 1; have hfz16_2 := Zc BK101.out 2; have hfz16_3 := Zc BK101.out 3; have hfz16_4 := Zc BK101.out 4)); go_meet
    case rel => exact ⟨_, (true), (by first | rfl | (simp; done) | (simp [*]; done)), H', ⟨by first | omega | exact Nat.le_refl _⟩, ⟨by (with_reducible repeat (first | apply Kd.S_alloc | apply Kd.S_drewN | apply Kd.S_drew)); exact HO104.out⟩, ⟨by (with_reducible repeat (first | refine Zh ?_ _ | refine Zi ?_ | refine Zf ?_ _)); exact BK101.out⟩, ⟨by repeat (first | (with_reducible first | exact HB.out | apply Ze | apply Za | apply Zd | refine Zg ?_ GE101.out) | exact HB.out)⟩⟩
  ·replace c8 := Bool.eq_false_iff.mpr c8; subst c8; rw [if_neg (show ¬ (false = true) by decide)] at H; have H' := Aside0.mk H; clear H; go_wp2_with (first | ((with_reducible refine Zp (f := 43) rfl ?_); refine Zw (some 19) rfl rfl Try.func43 (by kernel_rfl) rfl #[.int .i64 (l0_0.length : Int), .int .i64 2, .int .i64 4] rfl (by (try simp only [List.map_toArray, List.map_cons, List.map_nil]); first | done | rfl | (simp only [List.length_drop, List.length_take]; rfl)) ?_; (with_reducible refine (spec_l1In.calls (l0_0.length : Int) 2 4 false _ A7.out).mono ?_); rintro e w' ⟨rfl, ⟨nd, rfl⟩⟩; refine ⟨_, rfl, ?_⟩)); go_meet
   case rel => exact ⟨_, (true), (by first | rfl | (simp; done) | (simp [*]; done)), H', ⟨by first | omega | exact Nat.le_refl _⟩, ⟨by (with_reducible repeat (first | apply Kd.S_alloc | apply Kd.S_drewN | apply Kd.S_drew)); exact HO104.out⟩, ⟨by (with_reducible repeat (first | refine Zh ?_ _ | refine Zi ?_ | refine Zf ?_ _)); exact BK101.out⟩, ⟨by repeat (first | (with_reducible first | exact HB.out | apply Ze | apply Za | apply Zd | refine Zg ?_ GE101.out) | exact HB.out)⟩⟩
 case rest =>
  clear HC3; try clear hcz5_0
  try clear hcz5_1
  try clear hcz5_2
  try clear hcz5_3
  try clear hcz5_4
  try clear hfz5_0
  try clear hfz5_1
  try clear hfz5_2
  try clear hfz5_3
  try clear hfz5_4
  obtain ⟨kq, x41_2, rfl, HA, HJ2, HO_4, BK101, HB⟩ := hcut; cases kq with
  | zero => exact absurd HA.out (by simp [spec_GoodSnap.j0])
  | succ kj2 =>
   have H := HA.out; clear HA; simp only [spec_GoodSnap.j0] at H; by_cases c17 : x41_2 = true
   ·subst c17; rw [if_pos rfl] at H; obtain rfl := Option.some.inj H; go_wp2
    go_ret
    exact ⟨by first | rfl | (simp [errW_none, errW_some] <;> rfl) | (simp [*, errW_none, errW_some] <;> rfl), by repeat (first | (with_reducible first | exact HB.out | apply Ze | apply Za | apply Zd | refine Zg ?_ GE101.out) | exact HB.out)⟩
   ·replace c17 := Bool.eq_false_iff.mpr c17; subst c17; rw [if_neg (show ¬ (false = true) by decide)] at H; have H' := Aside0.mk H; clear H; have hcz18_0 : wc.cell? ⟨gb101, 0, none⟩ = some (.slice A0_0 l0_0.length c0_0) := (Zb BK101.out 0).trans rfl; have hcz18_1 : wc.cell? ⟨gb101, 1, none⟩ = some (.slice A0_1 l0_1.length c0_1) := (Zb BK101.out 1).trans rfl; have hcz18_2 : wc.cell? ⟨gb101, 2, none⟩ = some (.slice A0_2 l0_2.length c0_2) := (Zb BK101.out 2).trans rfl; have hcz18_3 : wc.cell? ⟨gb101, 3, none⟩ = some (.int .i64 a0_3) := (Zb BK101.out 3).trans rfl; have hcz18_4 : wc.cell? ⟨gb101, 4, none⟩ = some (.int .i64 a0_4) := (Zb BK101.out 4).trans rfl; have hfz18_0 := Zc BK101.out 0; have hfz18_1 := Zc BK101.out 1; have hfz18_2 := Zc BK101.out 2; have hfz18_3 := Zc BK101.out 3; have hfz18_4 := Zc BK101.out 4; go_wp2
    go_loopg [5, 45] kj2 (fun kq v5 v45 w' => ∃ (x5_2 : Int) (x45_2 : Int), v5 = .int .i64 x5_2 ∧ v45 = .int .i64 x45_2 ∧ Aside0 (spec_GoodSnap.l0 kq t102 x5_2 l0_0 (l0_0.length : Int) x45_2 l0_0 l0_1 l0_2 a0_3 a0_4 = some r) ∧ Aside0 (kq ≤ kj2) ∧ Aside0 (Kd.S k94 94 w' w.heap.size (fun _ => True) v103 t102) ∧ Aside0 (w'.heap[gb101]? = some (.cells #[(.slice A0_0 l0_0.length c0_0), (.slice A0_1 l0_1.length c0_1), (.slice A0_2 l0_2.length c0_2), .int .i64 a0_3, .int .i64 a0_4] 35 (0, 0))) ∧ Aside0 (Below w.heap.size w w'))
    case atStart => exact ⟨(0), (0), (by first | rfl | (simp; done) | (simp [*]; done)), (by first | rfl | (simp; done) | (simp [*]; done)), H', ⟨Nat.le_refl _⟩, ⟨by (with_reducible repeat (first | apply Kd.S_alloc | apply Kd.S_drewN | apply Kd.S_drew)); exact HO_4.out⟩, ⟨by (with_reducible repeat (first | refine Zh ?_ _ | refine Zi ?_ | refine Zf ?_ _)); exact BK101.out⟩, ⟨by repeat (first | (with_reducible first | exact HB.out | apply Ze | apply Za | apply Zd | refine Zg ?_ GE101.out) | exact HB.out)⟩⟩
    case round =>
     clear H'; try clear c17
     try clear hcz18_0
     try clear hcz18_1
     try clear hcz18_2
     try clear hcz18_3
     try clear hcz18_4
     try clear hcz5_0
     try clear hcz5_1
     try clear hcz5_2
     try clear hcz5_3
     try clear hcz5_4
     try clear hfz18_0
     try clear hfz18_1
     try clear hfz18_2
     try clear hfz18_3
     try clear hfz18_4
     try clear hfz5_0
     try clear hfz5_1
     try clear hfz5_2
     try clear hfz5_3
     try clear hfz5_4
     obtain ⟨x5_2, x45_2, rfl, rfl, HA, HK2, HO_4, BK101, HB⟩ := hrel; cases gk with
     | zero => exact absurd HA.out (by simp [spec_GoodSnap.l0])
     | succ k2 =>
      have H := HA.out; clear HA; simp only [spec_GoodSnap.l0] at H; by_cases c19 : x45_2 < (l0_0.length : Int)
      ·rw [if_pos c19] at H; have c19b0 : decide (x45_2 < (l0_0.length : Int)) = true := decide_eq_true c19; clear c19; by_cases c20 : 0 ≤ x45_2
       case neg => rw [if_neg c20] at H; exact absurd H (by simp)
       rw [if_pos c20] at H; have c20b0 : decide (0 ≤ x45_2) = true := decide_eq_true c20; clear c20; by_cases c21 : x45_2 < (l0_0.length : Int)
       case neg => rw [if_neg c21] at H; exact absurd H (by simp)
       rw [if_pos c21] at H; have c21b0 : decide (x45_2 < (l0_0.length : Int)) = true := decide_eq_true c21; clear c21; have HC22 := Aside0.mk H; clear H; have p107 : 0 ≤ (x45_2 : Int) := of_decide_eq_true (by assumption); have q107 : x45_2 < (l0_0.length : Int) := of_decide_eq_true (by assumption); obtain ⟨ad107, e107, hx107_0⟩ := Kd.at_int HR0_0.out x45_2 p107 q107; cases e107; replace hx107_0 := (HB.out.cell (World.block_lt_of_cell? w _ hx107_0)).trans hx107_0; replace p107 := eq_true p107; replace q107 := eq_true q107; go_upto_region 9 with (fail)
       go_cut [58] (fun v58 wc => ∃ (kq : Nat) (x58_21 : Bool), v58 = .bool x58_21 ∧ Aside0 (spec_GoodSnap.j2 kq t102 x5_2 (rd l0_0 x45_2) l0_0 (l0_0.length : Int) x45_2 x58_21 l0_0 l0_1 l0_2 a0_3 a0_4 = some r) ∧ Aside0 (kq ≤ k2) ∧ Aside0 (Kd.S k94 94 wc w.heap.size (fun _ => True) v103 t102) ∧ Aside0 (wc.heap[gb101]? = some (.cells #[(.slice (some ad107) l0_0.length c0_0), (.slice A0_1 l0_1.length c0_1), (.slice A0_2 l0_2.length c0_2), .int .i64 a0_3, .int .i64 a0_4] 35 (0, 0))) ∧ Aside0 (Below w.heap.size w wc))
       case first =>
        have H := HC22.out; clear HC22; replace H := Option.bind_eq_some_iff.mp H; obtain ⟨t108, A230, H⟩ := H; have A23 := Aside0.mk A230; clear A230; by_cases c24 : t108 = true
        ·subst c24; rw [if_pos rfl] at H; replace H := Option.bind_eq_some_iff.mp H; obtain ⟨t109, A250, H⟩ := H; have A25 := Aside0.mk A250; clear A250; have H' := Aside0.mk H; clear H; go_wp2_with (first | ((with_reducible refine Zp (f := 43) rfl ?_); refine Zw (some 51) rfl rfl Try.func43 (by kernel_rfl) rfl #[.int .i64 (rd l0_0 x45_2), .int .i64 0, .int .i64 1000] rfl (by (try simp only [List.map_toArray, List.map_cons, List.map_nil]); first | done | rfl | (simp only [List.length_drop, List.length_take]; rfl)) ?_; (with_reducible refine (spec_l1In.calls (rd l0_0 x45_2) 0 1000 true _ A23.out).mono ?_); rintro e w' ⟨rfl, ⟨nd, rfl⟩⟩; refine ⟨_, rfl, ?_⟩; have hcz26_0 : wr.cell? ⟨gb101, 0, none⟩ = some (.slice (some ad107) l0_0.length c0_0) := (Zb BK101.out 0).trans rfl; have hcz26_1 : wr.cell? ⟨gb101, 1, none⟩ = some (.slice A0_1 l0_1.length c0_1) := (Zb BK101.out 1).trans rfl; have hcz26_2 : wr.cell? ⟨gb101, 2, none⟩ = some (.slice A0_2 l0_2.length c0_2) := (Zb BK101.out 2).trans rfl; have hcz26_3 : wr.cell? ⟨gb101, 3, none⟩ = some (.int .i64 a0_3) := (Zb BK101.out 3).trans rfl; have hcz26_4 : wr.cell? ⟨gb101, 4, none⟩ = some (.int .i64 a0_4) := (Zb BK101.out 4).trans rfl; have hfz26_0 := Zc BK101.out 0; have hfz26_1 := Zc BK101.out 1; have hfz26_2 := Zc BK101.out 2; have hfz26_3 := Zc BK101.out 3; have hfz26_4 := Zc BK101.out 4) | (go_at_call 70; (with_reducible refine (spec_l8Picture.calls k2 _ _ l0_0 _ _ l0_1 _ _ l0_2 a0_3 a0_4 x45_2 t109 _ ?side1 ?side2 ?side3 ?side4 ?side5 ?side6 A25.out).mono ?_); (case side1 => repeat (first | exact (Kd.C_below HR0_0.out (by repeat (first | (with_reducible first | exact HB.out | apply Ze | apply Za | apply Zd | refine Zg ?_ GE101.out) | exact HB.out))) | (with_reducible refine Kd.C_alloc ?_ _) | (with_reducible refine Kd.C_drewN ?_ _) | (with_reducible refine Kd.C_drew ?_))); (case side2 => exact HC0_0.out); (case side3 => repeat (first | exact (Kd.C_below HR0_1.out (by repeat (first | (with_reducible first | exact HB.out | apply Ze | apply Za | apply Zd | refine Zg ?_ GE101.out) | exact HB.out))) | (with_reducible refine Kd.C_alloc ?_ _) | (with_reducible refine Kd.C_drewN ?_ _) | (with_reducible refine Kd.C_drew ?_))); (case side4 => exact HC0_1.out); (case side5 => repeat (first | exact (Kd.C_below HR0_2.out (by repeat (first | (with_reducible first | exact HB.out | apply Ze | apply Za | apply Zd | refine Zg ?_ GE101.out) | exact HB.out))) | (with_reducible refine Kd.C_alloc ?_ _) | (with_reducible refine Kd.C_drewN ?_ _) | (with_reducible refine Kd.C_drew ?_))); (case side6 => exact HC0_2.out); rintro e w27 ⟨rfl, hb⟩; have n0_ := Aside0.mk (Kd.S_below (by (with_reducible repeat (first | apply Kd.S_alloc | apply Kd.S_drewN | apply Kd.S_drew)); exact HO_4.out) hb); have n1_ := Aside0.mk (Zq (g := gb101) (o := .cells #[.slice (some ad107) l0_0.length c0_0, .slice A0_1 l0_1.length c0_1, .slice A0_2 l0_2.length c0_2, .int .i64 a0_3, .int .i64 a0_4] 35 (0, 0)) (by (with_reducible repeat (first | refine Zh ?_ _ | refine Zi ?_ | refine Zf ?_ _)); exact BK101.out) hb); have n2_ := Aside0.mk (Zo (by repeat (first | (with_reducible first | exact HB.out | apply Ze | apply Za | apply Zd | refine Zg ?_ GE101.out) | exact HB.out)) hb); clear HO_4; clear BK101; clear HB; have HO_4 := n0_; have BK101 := n1_; have HB := n2_; clear n0_ n1_ n2_; (try clear hb))); go_meet
         case rel => exact ⟨_, (!t109), (by first | rfl | (simp; done) | (simp [*]; done)), H', ⟨by have := HJ2.out; have := HK2.out; first | omega | exact Nat.le_refl _⟩, ⟨by (with_reducible repeat (first | apply Kd.S_alloc | apply Kd.S_drewN | apply Kd.S_drew)); exact HO_4.out⟩, ⟨by (with_reducible repeat (first | refine Zh ?_ _ | refine Zi ?_ | refine Zf ?_ _)); exact BK101.out⟩, ⟨by repeat (first | (with_reducible first | exact HB.out | apply Ze | apply Za | apply Zd | refine Zg ?_ GE101.out) | exact HB.out)⟩⟩
        ·replace c24 := Bool.eq_false_iff.mpr c24; subst c24; rw [if_neg (show ¬ (false = true) by decide)] at H; have H' := Aside0.mk H; clear H; go_wp2_with (first | ((with_reducible refine Zp (f := 43) rfl ?_); refine Zw (some 51) rfl rfl Try.func43 (by kernel_rfl) rfl #[.int .i64 (rd l0_0 x45_2), .int .i64 0, .int .i64 1000] rfl (by (try simp only [List.map_toArray, List.map_cons, List.map_nil]); first | done | rfl | (simp only [List.length_drop, List.length_take]; rfl)) ?_; (with_reducible refine (spec_l1In.calls (rd l0_0 x45_2) 0 1000 false _ A23.out).mono ?_); rintro e w' ⟨rfl, ⟨nd, rfl⟩⟩; refine ⟨_, rfl, ?_⟩)); go_meet
         case rel => exact ⟨_, (true), (by first | rfl | (simp; done) | (simp [*]; done)), H', ⟨by have := HJ2.out; have := HK2.out; first | omega | exact Nat.le_refl _⟩, ⟨by (with_reducible repeat (first | apply Kd.S_alloc | apply Kd.S_drewN | apply Kd.S_drew)); exact HO_4.out⟩, ⟨by (with_reducible repeat (first | refine Zh ?_ _ | refine Zi ?_ | refine Zf ?_ _)); exact BK101.out⟩, ⟨by repeat (first | (with_reducible first | exact HB.out | apply Ze | apply Za | apply Zd | refine Zg ?_ GE101.out) | exact HB.out)⟩⟩
       case rest =>
        clear HC22; try clear c17
        try clear c19
        try clear c19b0
        try clear c20
        try clear c20b0
        try clear c21
        try clear c21b0
        try clear hcz18_0
        try clear hcz18_1
        try clear hcz18_2
        try clear hcz18_3
        try clear hcz18_4
        try clear hcz5_0
        try clear hcz5_1
        try clear hcz5_2
        try clear hcz5_3
        try clear hcz5_4
        try clear hfz18_0
        try clear hfz18_1
        try clear hfz18_2
        try clear hfz18_3
        try clear hfz18_4
        try clear hfz5_0
        try clear hfz5_1
        try clear hfz5_2
        try clear hfz5_3
        try clear hfz5_4
        try clear hx107_0
        try clear p107
        try clear q107
        obtain ⟨kq, x58_21, rfl, HA, HJ21, HO_4, BK101, HB⟩ := hcut; cases kq with
        | zero => exact absurd HA.out (by simp [spec_GoodSnap.j2])
        | succ kj21 =>
         have H := HA.out; clear HA; simp only [spec_GoodSnap.j2] at H; by_cases c28 : x58_21 = true
         ·subst c28; rw [if_pos rfl] at H; obtain rfl := Option.some.inj H; go_wp2
          go_ret
          exact ⟨by first | rfl | (simp [errW_none, errW_some] <;> rfl) | (simp [*, errW_none, errW_some] <;> rfl), by repeat (first | (with_reducible first | exact HB.out | apply Ze | apply Za | apply Zd | refine Zg ?_ GE101.out) | exact HB.out)⟩
         ·replace c28 := Bool.eq_false_iff.mpr c28; subst c28; rw [if_neg (show ¬ (false = true) by decide)] at H; have H' := Aside0.mk H; clear H; go_wp2
          go_roundg kj21
          case measure => have := HJ2.out; have := HK2.out; have := HJ21.out; omega
          case rel => exact ⟨(wrap64 (x5_2 + (rd l0_0 x45_2))), (wrap64 (x45_2 + 1)), (by first | rfl | (simp; done) | (simp [*]; done)), (by first | rfl | (simp; done) | (simp [*]; done)), H', ⟨by have := HJ2.out; have := HK2.out; have := HJ21.out; omega⟩, ⟨by (with_reducible repeat (first | apply Kd.S_alloc | apply Kd.S_drewN | apply Kd.S_drew)); exact HO_4.out⟩, ⟨by (with_reducible repeat (first | refine Zh ?_ _ | refine Zi ?_ | refine Zf ?_ _)); exact BK101.out⟩, ⟨by repeat (first | (with_reducible first | exact HB.out | apply Ze | apply Za | apply Zd | refine Zg ?_ GE101.out) | exact HB.out)⟩⟩
      ·rw [if_neg c19] at H; have c19b0 : decide (x45_2 < (l0_0.length : Int)) = false := decide_eq_false c19; clear c19; have H' := Aside0.mk H; clear H; have hcz29_0 : wr.cell? ⟨gb101, 0, none⟩ = some (.slice A0_0 l0_0.length c0_0) := (Zb BK101.out 0).trans rfl; have hcz29_1 : wr.cell? ⟨gb101, 1, none⟩ = some (.slice A0_1 l0_1.length c0_1) := (Zb BK101.out 1).trans rfl; have hcz29_2 : wr.cell? ⟨gb101, 2, none⟩ = some (.slice A0_2 l0_2.length c0_2) := (Zb BK101.out 2).trans rfl; have hcz29_3 : wr.cell? ⟨gb101, 3, none⟩ = some (.int .i64 a0_3) := (Zb BK101.out 3).trans rfl; have hcz29_4 : wr.cell? ⟨gb101, 4, none⟩ = some (.int .i64 a0_4) := (Zb BK101.out 4).trans rfl; have hfz29_0 := Zc BK101.out 0; have hfz29_1 := Zc BK101.out 1; have hfz29_2 := Zc BK101.out 2; have hfz29_3 := Zc BK101.out 3; have hfz29_4 := Zc BK101.out 4; go_wp2
       go_loopg [66] k2 (fun kq v66 w' => ∃ (x66_3 : Int), v66 = .int .i64 x66_3 ∧ Aside0 (spec_GoodSnap.l1 kq t102 x5_2 l0_1 (l0_1.length : Int) x66_3 l0_0 l0_1 l0_2 a0_3 a0_4 = some r) ∧ Aside0 (kq ≤ k2) ∧ Aside0 (Kd.S k94 94 w' w.heap.size (fun _ => True) v103 t102) ∧ Aside0 (w'.heap[gb101]? = some (.cells #[(.slice A0_0 l0_0.length c0_0), (.slice A0_1 l0_1.length c0_1), (.slice A0_2 l0_2.length c0_2), .int .i64 a0_3, .int .i64 a0_4] 35 (0, 0))) ∧ Aside0 (Below w.heap.size w w'))
       case atStart => exact ⟨(0), (by first | rfl | (simp; done) | (simp [*]; done)), H', ⟨Nat.le_refl _⟩, ⟨by (with_reducible repeat (first | apply Kd.S_alloc | apply Kd.S_drewN | apply Kd.S_drew)); exact HO_4.out⟩, ⟨by (with_reducible repeat (first | refine Zh ?_ _ | refine Zi ?_ | refine Zf ?_ _)); exact BK101.out⟩, ⟨by repeat (first | (with_reducible first | exact HB.out | apply Ze | apply Za | apply Zd | refine Zg ?_ GE101.out) | exact HB.out)⟩⟩
       case round =>
        clear H'; try clear c17
        try clear c19
        try clear c19b0
        try clear hcz18_0
        try clear hcz18_1
        try clear hcz18_2
        try clear hcz18_3
        try clear hcz18_4
        try clear hcz29_0
        try clear hcz29_1
        try clear hcz29_2
        try clear hcz29_3
        try clear hcz29_4
        try clear hcz5_0
        try clear hcz5_1
        try clear hcz5_2
        try clear hcz5_3
        try clear hcz5_4
        try clear hfz18_0
        try clear hfz18_1
        try clear hfz18_2
        try clear hfz18_3
        try clear hfz18_4
        try clear hfz29_0
        try clear hfz29_1
        try clear hfz29_2
        try clear hfz29_3
        try clear hfz29_4
        try clear hfz5_0
        try clear hfz5_1
        try clear hfz5_2
        try clear hfz5_3
        try clear hfz5_4
        obtain ⟨x66_3, rfl, HA, HK3, HO_4, BK101, HB⟩ := hrel; cases gk with
        | zero => exact absurd HA.out (by simp [spec_GoodSnap.l1])
        | succ k3 =>
         have H := HA.out; clear HA; simp only [spec_GoodSnap.l1] at H; by_cases c30 : x66_3 < (l0_1.length : Int)
         ·rw [if_pos c30] at H; have c30b0 : decide (x66_3 < (l0_1.length : Int)) = true := decide_eq_true c30; clear c30; by_cases c31 : 0 ≤ x66_3
          case neg => rw [if_neg c31] at H; exact absurd H (by simp)
          rw [if_pos c31] at H; have c31b0 : decide (0 ≤ x66_3) = true := decide_eq_true c31; clear c31; by_cases c32 : x66_3 < (l0_1.length : Int)
          case neg => rw [if_neg c32] at H; exact absurd H (by simp)
          rw [if_pos c32] at H; have c32b0 : decide (x66_3 < (l0_1.length : Int)) = true := decide_eq_true c32; clear c32; have HC33 := Aside0.mk H; clear H; have p110 : 0 ≤ (x66_3 : Int) := of_decide_eq_true (by assumption); have q110 : x66_3 < (l0_1.length : Int) := of_decide_eq_true (by assumption); obtain ⟨ad110, A110_2, c110_2, e110, hx110_0, hx110_1, hx110_2, hl110_2, hi110_2⟩ := at_T94 HR0_1.out x66_3 p110 q110; cases e110; replace hx110_0 := (HB.out.cell (World.block_lt_of_cell? w _ hx110_0)).trans hx110_0; replace hx110_1 := (HB.out.cell (World.block_lt_of_cell? w _ hx110_1)).trans hx110_1; replace hx110_2 := (HB.out.cell (World.block_lt_of_cell? w _ hx110_2)).trans hx110_2; have HR110_2 := Aside0.mk hi110_2; have HC110_2 := Aside0.mk hl110_2; clear hi110_2 hl110_2; replace p110 := eq_true p110; replace q110 := eq_true q110; go_upto_region 16 with (first | ((with_reducible refine Zv (N := 9) rfl ?_); (try (refine gate_guard (by rfl) ?_; dsimp only)); refine Zu ?hg (N := 9) ?hd (cs := #[.int .i64 0, .int .i64 0, .slice none 0 0]) (t := 94) ?hr ?_; (case hd => rfl); (case hg => rfl); (case hr => first | (go_simp; done) | (go_simp; rfl)); intro gb111 hg w34 hbox hb; have n0_ := Aside0.mk (Kd.S_below (Kd.S_elderB (by (with_reducible repeat (first | apply Kd.S_alloc | apply Kd.S_drewN | apply Kd.S_drew)); exact HO_4.out) gb111 (Nat.le_of_eq hg.symm)) hb); have n1_ := Aside0.mk (Zq (g := gb101) (o := .cells #[.slice A0_0 l0_0.length c0_0, .slice (some ad110) l0_1.length c0_1, .slice A0_2 l0_2.length c0_2, .int .i64 a0_3, .int .i64 a0_4] 35 (0, 0)) (by (with_reducible repeat (first | refine Zh ?_ _ | refine Zi ?_ | refine Zf ?_ _)); exact BK101.out) hb); have n2_ := Aside0.mk (Zo (by repeat (first | (with_reducible first | exact HB.out | apply Ze | apply Za | apply Zd | refine Zg ?_ GE101.out) | exact HB.out)) hb); have n3_ := Aside0.mk (hbox); have n4_ := Aside0.mk ((by rw [hg]; exact (Zn (by repeat (first | (with_reducible first | exact HB.out | apply Ze | apply Za | apply Zd | refine Zg ?_ GE101.out) | exact HB.out))) : w.heap.size ≤ gb111)); have n5_ := n4_; have n6_ := Aside0.mk ((by rw [hg]; exact Nat.ne_of_lt (Zx (g := gb101) (o := .cells #[.slice A0_0 l0_0.length c0_0, .slice (some ad110) l0_1.length c0_1, .slice A0_2 l0_2.length c0_2, .int .i64 a0_3, .int .i64 a0_4] 35 (0, 0)) (by (with_reducible repeat (first | refine Zh ?_ _ | refine Zi ?_ | refine Zf ?_ _)); exact BK101.out)) : gb101 ≠ gb111)); have n7_ := Aside0.mk n6_.out.symm; clear HO_4; clear BK101; clear HB; have HO_4 := n0_; have BK101 := n1_; have HB := n2_; have BK111 := n3_; have GW111 := n4_; have GE111 := n5_; have NB101_111 := n6_; have NB111_101 := n7_; clear n0_ n1_ n2_ n3_ n4_ n5_ n6_ n7_; clear hb hbox hg; have hnb35 := NB111_101.out; have hnc35 := NB101_111.out; have hcz36_0 : w34.cell? ⟨gb111, 0, none⟩ = some (.int .i64 0) := (Zb BK111.out 0).trans rfl; have hcz36_1 : w34.cell? ⟨gb111, 1, none⟩ = some (.int .i64 0) := (Zb BK111.out 1).trans rfl; have hcz36_2 : w34.cell? ⟨gb111, 2, none⟩ = some (.slice none 0 0) := (Zb BK111.out 2).trans rfl; have hfz36_0 := Zc BK111.out 0; have hfz36_1 := Zc BK111.out 1; have hfz36_2 := Zc BK111.out 2))
          (try simp only [Act.put, Sa24, Sb24, Sc24])
          go_cut [94] (fun v94 wc => ∃ (kq : Nat) (x94_32 : Bool), v94 = .bool x94_32 ∧ Aside0 (spec_GoodSnap.j4 kq t102 x5_2 l0_1 (l0_1.length : Int) x66_3 x94_32 l0_0 l0_1 l0_2 a0_3 a0_4 ((rd_T94 l0_1 x66_3).f0) ((rd_T94 l0_1 x66_3).f1) ((rd_T94 l0_1 x66_3).f2) = some r) ∧ Aside0 (kq ≤ k3) ∧ Aside0 (Kd.S k94 94 wc w.heap.size (fun k_ => k_ ≠ gb111) v103 t102) ∧ Aside0 (wc.heap[gb101]? = some (.cells #[(.slice A0_0 l0_0.length c0_0), (.slice (some ad110) l0_1.length c0_1), (.slice A0_2 l0_2.length c0_2), .int .i64 a0_3, .int .i64 a0_4] 35 (0, 0))) ∧ Aside0 (wc.heap[gb111]? = some (.cells #[.int .i64 ((rd_T94 l0_1 x66_3).f0), .int .i64 ((rd_T94 l0_1 x66_3).f1), (.slice A110_2 ((rd_T94 l0_1 x66_3).f2).length c110_2)] 94 (0, 0))) ∧ Aside0 (Below w.heap.size w wc))
          case first =>
           have H := HC33.out; clear HC33; by_cases c37 : x66_3 < (t102.length : Int)
           case neg => rw [if_neg c37] at H; exact absurd H (by simp)
           rw [if_pos c37] at H; have c37b0 : decide (x66_3 < (t102.length : Int)) = true := decide_eq_true c37; clear c37
           (first | rw [c37b0] | (simp only [Zk, Zl]; rw [c37b0]) | skip)
           by_cases c38 : ((rd_T94 l0_1 x66_3).f0) = ((rd_T94 t102 x66_3).f0)
           ·rw [if_pos c38] at H; have c38b0 : (((rd_T94 l0_1 x66_3).f0) == ((rd_T94 t102 x66_3).f0)) = true := beq_iff_eq.mpr c38; have c38b1 : (((rd_T94 l0_1 x66_3).f0) != ((rd_T94 t102 x66_3).f0)) = false := bne_eq_false_iff_eq.mpr c38; clear c38; by_cases c39 : ((rd_T94 l0_1 x66_3).f1) = ((rd_T94 t102 x66_3).f1)
            ·rw [if_pos c39] at H; have c39b0 : (((rd_T94 l0_1 x66_3).f1) == ((rd_T94 t102 x66_3).f1)) = true := beq_iff_eq.mpr c39; have c39b1 : (((rd_T94 l0_1 x66_3).f1) != ((rd_T94 t102 x66_3).f1)) = false := bne_eq_false_iff_eq.mpr c39; clear c39; have H' := Aside0.mk H; clear H; try go_wp2
             have n0_ : Aside0 (Kd.S k94 94 (((w34.setCell ⟨gb111, 0, none⟩ (.int .i64 ((rd_T94 l0_1 x66_3).f0))).setCell ⟨gb111, 1, none⟩ (.int .i64 ((rd_T94 l0_1 x66_3).f1))).setCell ⟨gb111, 2, none⟩ (.slice A110_2 ((rd_T94 l0_1 x66_3).f2).length c110_2)) w.heap.size (fun k_ => k_ ≠ gb111) v103 t102) := ⟨by (with_reducible repeat (first | apply Kd.S_alloc | apply Kd.S_drewN | apply Kd.S_drew)); exact Kd.S_mono (Kd.S_far (p := ⟨gb111, 2, none⟩) (Kd.S_far (p := ⟨gb111, 1, none⟩) (Kd.S_far (p := ⟨gb111, 0, none⟩) (Kd.S_mono HO_4.out (fun k_ hk => (⟨hk, hk.2⟩ : _ ∧ k_ ≠ gb111))) (fun _ hk => hk.2) (.int .i64 ((rd_T94 l0_1 x66_3).f0))) (fun _ hk => hk.2) (.int .i64 ((rd_T94 l0_1 x66_3).f1))) (fun _ hk => hk.2) (.slice A110_2 ((rd_T94 l0_1 x66_3).f2).length c110_2)) (fun _ hk => hk.1.2)⟩
             have n1_ : Aside0 ((((w34.setCell ⟨gb111, 0, none⟩ (.int .i64 ((rd_T94 l0_1 x66_3).f0))).setCell ⟨gb111, 1, none⟩ (.int .i64 ((rd_T94 l0_1 x66_3).f1))).setCell ⟨gb111, 2, none⟩ (.slice A110_2 ((rd_T94 l0_1 x66_3).f2).length c110_2)).heap[gb101]? = some (.cells #[.slice A0_0 l0_0.length c0_0, .slice (some ad110) l0_1.length c0_1, .slice A0_2 l0_2.length c0_2, .int .i64 a0_3, .int .i64 a0_4] 35 (0, 0))) := ⟨by (with_reducible repeat (first | refine Zh ?_ _ | refine Zi ?_ | refine Zf ?_ _)); refine Zs ?_ NB101_111.out _; (with_reducible repeat (first | refine Zh ?_ _ | refine Zi ?_ | refine Zf ?_ _)); refine Zs ?_ NB101_111.out _; (with_reducible repeat (first | refine Zh ?_ _ | refine Zi ?_ | refine Zf ?_ _)); refine Zs ?_ NB101_111.out _; (with_reducible repeat (first | refine Zh ?_ _ | refine Zi ?_ | refine Zf ?_ _)); exact BK101.out⟩
             have n2_ : Aside0 ((((w34.setCell ⟨gb111, 0, none⟩ (.int .i64 ((rd_T94 l0_1 x66_3).f0))).setCell ⟨gb111, 1, none⟩ (.int .i64 ((rd_T94 l0_1 x66_3).f1))).setCell ⟨gb111, 2, none⟩ (.slice A110_2 ((rd_T94 l0_1 x66_3).f2).length c110_2)).heap[gb111]? = some (.cells #[.int .i64 ((rd_T94 l0_1 x66_3).f0), .int .i64 ((rd_T94 l0_1 x66_3).f1), .slice A110_2 ((rd_T94 l0_1 x66_3).f2).length c110_2] 94 (0, 0))) := ⟨by (with_reducible repeat (first | refine Zh ?_ _ | refine Zi ?_ | refine Zf ?_ _)); refine Zt (cs := #[.int .i64 ((rd_T94 l0_1 x66_3).f0), .int .i64 ((rd_T94 l0_1 x66_3).f1), .slice none 0 0]) ?_ 2 _ rfl; (with_reducible repeat (first | refine Zh ?_ _ | refine Zi ?_ | refine Zf ?_ _)); refine Zt (cs := #[.int .i64 ((rd_T94 l0_1 x66_3).f0), .int .i64 0, .slice none 0 0]) ?_ 1 _ rfl; (with_reducible repeat (first | refine Zh ?_ _ | refine Zi ?_ | refine Zf ?_ _)); refine Zt (cs := #[.int .i64 0, .int .i64 0, .slice none 0 0]) ?_ 0 _ rfl; (with_reducible repeat (first | refine Zh ?_ _ | refine Zi ?_ | refine Zf ?_ _)); exact BK111.out⟩
             have n3_ : Aside0 (Below w.heap.size w (((w34.setCell ⟨gb111, 0, none⟩ (.int .i64 ((rd_T94 l0_1 x66_3).f0))).setCell ⟨gb111, 1, none⟩ (.int .i64 ((rd_T94 l0_1 x66_3).f1))).setCell ⟨gb111, 2, none⟩ (.slice A110_2 ((rd_T94 l0_1 x66_3).f2).length c110_2))) := ⟨by repeat (first | (with_reducible first | exact HB.out | apply Ze | apply Za | apply Zd | refine Zg ?_ GE101.out | refine Zg ?_ GE111.out) | exact HB.out)⟩
             (try clear HO_4)
             (try clear BK101)
             (try clear BK111)
             (try clear HB)
             generalize (((w34.setCell ⟨gb111, 0, none⟩ (.int .i64 ((rd_T94 l0_1 x66_3).f0))).setCell ⟨gb111, 1, none⟩ (.int .i64 ((rd_T94 l0_1 x66_3).f1))).setCell ⟨gb111, 2, none⟩ (.slice A110_2 ((rd_T94 l0_1 x66_3).f2).length c110_2)) = w40 at n0_ n1_ n2_ n3_ ⊢; have HO_4 := n0_; have BK101 := n1_; have BK111 := n2_; have HB := n3_; clear n0_ n1_ n2_ n3_; have n0_ := Aside0.mk (Kd.S_drew HO_4.out); have n1_ := Aside0.mk (Zi BK101.out); have n2_ := Aside0.mk (Zi BK111.out); have n3_ := Aside0.mk (Zd HB.out); clear HO_4; clear BK101; clear BK111; clear HB; have HO_4 := n0_; have BK101 := n1_; have BK111 := n2_; have HB := n3_; clear n0_ n1_ n2_ n3_; obtain ⟨Ao42, co42, eo42⟩ := Kd.S_slice HO_4.out
             (first | subst eo42 | (injection eo42 with f1_ f2_ f3_; have f4_ := f1_.symm; have f5_ := f3_.symm; clear f1_ f2_ f3_; subst f4_; subst f5_))
             have p112 : 0 ≤ (x66_3 : Int) := of_decide_eq_true (by assumption); have q112 : x66_3 < (t102.length : Int) := of_decide_eq_true (by assumption); obtain ⟨ad112, A112_2, c112_2, e112, hx112_0, hx112_1, hx112_2, hl112_2, hi112_2⟩ := at_T94 (Kd.S_reads' HO_4.out).2.2 x66_3 p112 q112; cases e112; obtain ⟨ce112, hce112, hMe112, hcc112⟩ := Kd.S_get HO_4.out z94 x66_3 p112 (by first | exact q112 | exact of_decide_eq_true (by assumption) | (have e_ := (Kd.S_reads' HO_4.out).1; omega)); obtain ⟨ve112_2, rfl, ge112_2⟩ := k94_openM hMe112; have hv112_2 := hcc112 2 _ rfl; rw [add_field _ _ 2 (by omega)] at hv112_2; replace hv112_2 := Option.some.inj (hv112_2.symm.trans hx112_2); rw [hv112_2] at ge112_2; have HL112_2 := Aside0.mk (show Kd.R (Kd.int .i64) 3 _ _ _ _ ((rd_T94 t102 x66_3).f2) from ge112_2); clear hv112_2 ge112_2; clear hcc112 hce112; have HR112_2 := Aside0.mk hi112_2; have HC112_2 := Aside0.mk hl112_2; clear hi112_2 hl112_2; replace p112 := eq_true p112; replace q112 := eq_true q112; have p113 : 0 ≤ (x66_3 : Int) := of_decide_eq_true (by assumption); have q113 : x66_3 < (t102.length : Int) := of_decide_eq_true (by assumption); obtain ⟨ad113, A113_2, c113_2, e113, hx113_0, hx113_1, hx113_2, hl113_2, hi113_2⟩ := at_T94 (Kd.S_reads' HO_4.out).2.2 x66_3 p113 q113; obtain rfl : ad112 = ad113 := (by injection e113)
             obtain ⟨ce113, hce113, hMe113, hcc113⟩ := Kd.S_get HO_4.out z94 x66_3 p113 (by first | exact q113 | exact of_decide_eq_true (by assumption) | (have e_ := (Kd.S_reads' HO_4.out).1; omega)); obtain ⟨ve113_2, rfl, ge113_2⟩ := k94_openM hMe113; have hv113_2 := hcc113 2 _ rfl; rw [add_field _ _ 2 (by omega)] at hv113_2; replace hv113_2 := Option.some.inj (hv113_2.symm.trans hx113_2); rw [hv113_2] at ge113_2; have HL113_2 := Aside0.mk (show Kd.R (Kd.int .i64) 3 _ _ _ _ ((rd_T94 t102 x66_3).f2) from ge113_2); clear hv113_2 ge113_2; clear hcc113 hce113; have HR113_2 := Aside0.mk hi113_2; have HC113_2 := Aside0.mk hl113_2; clear hi113_2 hl113_2; replace p113 := eq_true p113; replace q113 := eq_true q113; have ea_ := Option.some.inj (hx112_2.symm.trans hx113_2); injection ea_ with ea_ en_ ec_
             subst ea_; subst ec_; clear en_; refine start_ (n := 24) (S := fun w' => w'.cell? ⟨gb111, 0, none⟩ = some (.int .i64 ((rd_T94 l0_1 x66_3).f0)) ∧ w'.cell? ⟨gb111, 1, none⟩ = some (.int .i64 ((rd_T94 l0_1 x66_3).f1)) ∧ w'.cell? ⟨gb111, 2, none⟩ = some (.slice A110_2 ((rd_T94 l0_1 x66_3).f2).length c110_2) ∧ w'.cell? (ad112.add ((x66_3).toNat * 3)) = some (.int .i64 ((rd_T94 t102 x66_3).f0)) ∧ w'.cell? ⟨(ad112.add ((x66_3).toNat * 3)).block, (ad112.add ((x66_3).toNat * 3)).off + 1, none⟩ = some (.int .i64 ((rd_T94 t102 x66_3).f1)) ∧ w'.cell? ⟨(ad112.add ((x66_3).toNat * 3)).block, (ad112.add ((x66_3).toNat * 3)).off + 2, none⟩ = some (.slice A112_2 ((rd_T94 t102 x66_3).f2).length c112_2) ∧ w'.cell? (ad112.add ((x66_3).toNat * 3)) = some (.int .i64 ((rd_T94 t102 x66_3).f0)) ∧ w'.cell? ⟨(ad112.add ((x66_3).toNat * 3)).block, (ad112.add ((x66_3).toNat * 3)).off + 1, none⟩ = some (.int .i64 ((rd_T94 t102 x66_3).f1)) ∧ w'.cell? ⟨(ad112.add ((x66_3).toNat * 3)).block, (ad112.add ((x66_3).toNat * 3)).off + 2, none⟩ = some (.slice A112_2 ((rd_T94 t102 x66_3).f2).length c112_2)) (ds := []) #[false, false, false, false, false, false, false, false, false, false, false, false, false, false, false, false, false, false, false, false, false, false, false, false] (by kernel_rfl) rfl rfl ⟨(Zb BK111.out 0).trans rfl, (Zb BK111.out 1).trans rfl, (Zb BK111.out 2).trans rfl, hx112_0, hx112_1, hx112_2, hx113_0, hx113_1, hx113_2⟩ (fun hHeld => ?_); refine with_tabW spec_GoodSnap.tab16 spec_GoodSnap.bits16 (fun HT_ HW_ => ?_)
             generalize w40.drew = w41 at HO_4 BK101 BK111 HB HL112_2 HL113_2 HR112_2 HR113_2 hx112_0 hx112_1 hx112_2 hx113_0 hx113_1 hx113_2 hHeld ⊢; refine Zm (i := 0) (N := some 71) (v := ?_) (a' := ?_) (Bm24 24 1) rfl rfl (Zj HT_.out (by kernel_rfl)) (fun _ _ _ h => h) (Or.inl ⟨by rfl, ?_⟩) ?_ ?_; rotate_left
             ·intro w'; go_simp; with_reducible rfl
             rotate_left
             ·simp only [Act.put, Sa24, Sb24, Sc24, Zk, Zl]; rfl
             refine Zm (i := 2) (N := some 73) (v := ?_) (a' := ?_) (Bm24 24 5) rfl rfl (Zj HT_.out (by kernel_rfl)) (fun _ _ _ h => h) (Or.inl ⟨by rfl, ?_⟩) ?_ ?_; rotate_left
             ·intro w'; go_simp; with_reducible rfl
             rotate_left
             ·simp only [Act.put, Sa24, Sb24, Sc24, Zk, Zl]; rfl
             refine Zm (i := 3) (N := some 74) (v := ?_) (a' := ?_) (Bm24 24 13) rfl rfl (Zj HT_.out (by kernel_rfl)) (fun _ _ _ h => h) (Or.inl ⟨by rfl, ?_⟩) ?_ ?_; rotate_left
             ·intro w'; go_simp; with_reducible rfl
             rotate_left
             ·simp only [Act.put, Sa24, Sb24, Sc24, Zk, Zl]; rfl
             refine Zm (i := 4) (N := some 75) (v := ?_) (a' := ?_) (Bm24 24 29) rfl rfl (Zj HT_.out (by kernel_rfl)) (fun _ _ _ h => h) (Or.inl ⟨by rfl, ?_⟩) ?_ ?_; rotate_left
             ·intro w'; go_simp; with_reducible rfl
             rotate_left
             ·simp only [Act.put, Sa24, Sb24, Sc24, Zk, Zl]; rfl
             refine Zm (i := 5) (N := some 76) (v := ?_) (a' := ?_) (Bm24 24 61) rfl rfl (Zj HT_.out (by kernel_rfl)) (fun _ _ _ h => h) (Or.inl ⟨by rfl, ?_⟩) ?_ ?_; rotate_left
             ·intro w'; go_simp; with_reducible rfl
             rotate_left
             ·simp only [Act.put, Sa24, Sb24, Sc24, Zk, Zl]; rfl
             refine take_ (i := 1) (N := some 72) (v := ?_) (a' := ?_) (Bm24 24 63) rfl rfl (Zr HT_.out HW_.out (by kernel_rfl)) (fun _ _ _ h => h) (Or.inl ⟨by rfl, ?_⟩) hHeld ?_ ?_; rotate_left
             ·rintro w' ⟨s0, s1, s2, s3, s4, s5, s6, s7, s8⟩
              go_simp; with_reducible rfl
             rotate_left
             ·simp only [Act.put, Sa24, Sb24, Sc24, Zk, Zl]; rfl
             refine take_ (i := 6) (N := some 77) (v := ?_) (a' := ?_) (Bm24 24 127) rfl rfl (Zr HT_.out HW_.out (by kernel_rfl)) (fun _ _ _ h => h) (Or.inl ⟨by rfl, ?_⟩) hHeld ?_ ?_; rotate_left
             ·rintro w' ⟨s0, s1, s2, s3, s4, s5, s6, s7, s8⟩
              go_simp; with_reducible rfl
             rotate_left
             ·simp only [Act.put, Sa24, Sb24, Sc24, Zk, Zl]; rfl
             refine Zm (i := 7) (N := some 78) (v := ?_) (a' := ?_) (Bm24 24 255) rfl rfl (Zj HT_.out (by kernel_rfl)) (fun _ _ _ h => h) (Or.inl ⟨by rfl, ?_⟩) ?_ ?_; rotate_left
             ·intro w'; go_simp; with_reducible rfl
             rotate_left
             ·simp only [Act.put, Sa24, Sb24, Sc24, Zk, Zl]; rfl
             refine Zm (i := 8) (N := some 79) (v := ?_) (a' := ?_) (Bm24 24 511) rfl rfl (Zj HT_.out (by kernel_rfl)) (fun _ _ _ h => h) (Or.inl ⟨by rfl, ?_⟩) ?_ ?_; rotate_left
             ·intro w'; go_simp; with_reducible rfl
             rotate_left
             ·simp only [Act.put, Sa24, Sb24, Sc24, Zk, Zl]; rfl
             refine Zm (i := 9) (N := some 80) (v := ?_) (a' := ?_) (Bm24 24 1023) rfl rfl (Zj HT_.out (by kernel_rfl)) (fun _ _ _ h => h) (Or.inl ⟨by rfl, ?_⟩) ?_ ?_; rotate_left
             ·intro w'; go_simp; with_reducible rfl
             rotate_left
             ·simp only [Act.put, Sa24, Sb24, Sc24, Zk, Zl]; rfl
             refine Zm (i := 11) (N := some 82) (v := ?_) (a' := ?_) (Bm24 24 3071) rfl rfl (Zj HT_.out (by kernel_rfl)) (fun _ _ _ h => h) (Or.inl ⟨by rfl, ?_⟩) ?_ ?_; rotate_left
             ·intro w'; go_simp; with_reducible rfl
             rotate_left
             ·simp only [Act.put, Sa24, Sb24, Sc24, Zk, Zl]; rfl
             refine Zm (i := 12) (N := some 83) (v := ?_) (a' := ?_) (Bm24 24 7167) rfl rfl (Zj HT_.out (by kernel_rfl)) (fun _ _ _ h => h) (Or.inl ⟨by rfl, ?_⟩) ?_ ?_; rotate_left
             ·intro w'; go_simp; with_reducible rfl
             rotate_left
             ·simp only [Act.put, Sa24, Sb24, Sc24, Zk, Zl]; rfl
             refine Zm (i := 13) (N := some 84) (v := ?_) (a' := ?_) (Bm24 24 15359) rfl rfl (Zj HT_.out (by kernel_rfl)) (fun _ _ _ h => h) (Or.inl ⟨by rfl, ?_⟩) ?_ ?_; rotate_left
             ·intro w'; go_simp; with_reducible rfl
             rotate_left
             ·simp only [Act.put, Sa24, Sb24, Sc24, Zk, Zl]; rfl
             refine Zm (i := 14) (N := some 85) (v := ?_) (a' := ?_) (Bm24 24 31743) rfl rfl (Zj HT_.out (by kernel_rfl)) (fun _ _ _ h => h) (Or.inl ⟨by rfl, ?_⟩) ?_ ?_; rotate_left
             ·intro w'; go_simp; with_reducible rfl
             rotate_left
             ·simp only [Act.put, Sa24, Sb24, Sc24, Zk, Zl]; rfl
             refine take_ (i := 10) (N := some 81) (v := ?_) (a' := ?_) (Bm24 24 32767) rfl rfl (Zr HT_.out HW_.out (by kernel_rfl)) (fun _ _ _ h => h) (Or.inl ⟨by rfl, ?_⟩) hHeld ?_ ?_; rotate_left
             ·rintro w' ⟨s0, s1, s2, s3, s4, s5, s6, s7, s8⟩
              go_simp; with_reducible rfl
             rotate_left
             ·simp only [Act.put, Sa24, Sb24, Sc24, Zk, Zl]; rfl
             refine take_ (i := 15) (N := some 86) (v := ?_) (a' := ?_) (Bm24 24 65535) rfl rfl (Zr HT_.out HW_.out (by kernel_rfl)) (fun _ _ _ h => h) (Or.inl ⟨by rfl, ?_⟩) hHeld ?_ ?_; rotate_left
             ·rintro w' ⟨s0, s1, s2, s3, s4, s5, s6, s7, s8⟩
              go_simp; with_reducible rfl
             rotate_left
             ·simp only [Act.put, Sa24, Sb24, Sc24, Zk, Zl]; rfl
             refine Zm (i := 16) (N := some 87) (v := ?_) (a' := ?_) (Bm24 24 131071) rfl rfl (Zj HT_.out (by kernel_rfl)) (fun _ _ _ h => h) (Or.inl ⟨by rfl, ?_⟩) ?_ ?_; rotate_left
             ·intro w'; go_simp; with_reducible rfl
             rotate_left
             ·simp only [Act.put, Sa24, Sb24, Sc24, Zk, Zl]; rfl
             refine Zm (i := 17) (N := some 88) (v := ?_) (a' := ?_) (Bm24 24 262143) rfl rfl (Zj HT_.out (by kernel_rfl)) (fun _ _ _ h => h) (Or.inl ⟨by rfl, ?_⟩) ?_ ?_; rotate_left
             ·intro w'; go_simp; with_reducible rfl
             rotate_left
             ·simp only [Act.put, Sa24, Sb24, Sc24, Zk, Zl]; rfl
             refine Zm (i := 18) (N := some 89) (v := ?_) (a' := ?_) (Bm24 24 524287) rfl rfl (Zj HT_.out (by kernel_rfl)) (fun _ _ _ h => h) (Or.inl ⟨by rfl, ?_⟩) ?_ ?_; rotate_left
             ·intro w'; go_simp; with_reducible rfl
             rotate_left
             ·simp only [Act.put, Sa24, Sb24, Sc24, Zk, Zl]; rfl
             refine Zm (i := 19) (N := some 90) (v := ?_) (a' := ?_) (Bm24 24 1048575) rfl rfl (Zj HT_.out (by kernel_rfl)) (fun _ _ _ h => h) (Or.inl ⟨by rfl, ?_⟩) ?_ ?_; rotate_left
             ·intro w'; go_simp; with_reducible rfl
             rotate_left
             ·simp only [Act.put, Sa24, Sb24, Sc24, Zk, Zl]; rfl
             refine take_ (i := 20) (N := some 91) (v := ?_) (a' := ?_) (Bm24 24 2097151) rfl rfl (Zr HT_.out HW_.out (by kernel_rfl)) (fun _ _ _ h => h) (Or.inl ⟨by rfl, ?_⟩) hHeld ?_ ?_; rotate_left
             ·rintro w' ⟨s0, s1, s2, s3, s4, s5, s6, s7, s8⟩
              go_simp; with_reducible rfl
             rotate_left
             ·simp only [Act.put, Sa24, Sb24, Sc24, Zk, Zl]; rfl
             refine Zm (i := 21) (N := some 92) (v := ?_) (a' := ?_) (Bm24 24 4194303) rfl rfl (Zj HT_.out (by kernel_rfl)) (fun _ _ _ h => h) (Or.inl ⟨by rfl, ?_⟩) ?_ ?_; rotate_left
             ·intro w'; go_simp; with_reducible rfl
             rotate_left
             ·simp only [Act.put, Sa24, Sb24, Sc24, Zk, Zl]; rfl
             refine Zm (i := 22) (N := some 93) (v := ?_) (a' := ?_) (Bm24 24 8388607) rfl rfl (Zj HT_.out (by kernel_rfl)) (fun _ _ _ h => h) (Or.inl ⟨by rfl, ?_⟩) ?_ ?_; rotate_left
             ·intro w'; go_simp; with_reducible rfl
             rotate_left
             ·simp only [Act.put, Sa24, Sb24, Sc24, Zk, Zl]; rfl
             refine Zm (i := 23) (N := some 94) (v := ?_) (a' := ?_) (Bm24 24 16777215) rfl rfl (Zj HT_.out (by kernel_rfl)) (fun _ _ _ h => h) (Or.inl ⟨by rfl, ?_⟩) ?_ ?_; rotate_left
             ·intro w'; go_simp; with_reducible rfl
             rotate_left
             ·simp only [Act.put, Sa24, Sb24, Sc24, Zk, Zl]; rfl
             refine done_ (done_of HT_.out (by kernel_rfl)) ?_; try go_wp2
             go_meet
             case rel => exact ⟨_, (decide ((((rd_T94 l0_1 x66_3).f2).length : Int) > 8)), (by first | rfl | (simp; done) | (simp [*]; done)), H', ⟨by have := HJ2.out; have := HK2.out; have := HK3.out; first | omega | exact Nat.le_refl _⟩, ⟨by (with_reducible repeat (first | apply Kd.S_alloc | apply Kd.S_drewN | apply Kd.S_drew)); exact HO_4.out⟩, ⟨by (with_reducible repeat (first | refine Zh ?_ _ | refine Zi ?_ | refine Zf ?_ _)); exact BK101.out⟩, ⟨by (with_reducible repeat (first | refine Zh ?_ _ | refine Zi ?_ | refine Zf ?_ _)); exact BK111.out⟩, ⟨by repeat (first | (with_reducible first | exact HB.out | apply Ze | apply Za | apply Zd | refine Zg ?_ GE101.out | refine Zg ?_ GE111.out) | exact HB.out)⟩⟩
            ·rw [if_neg c39] at H; have c39b0 : (((rd_T94 l0_1 x66_3).f1) == ((rd_T94 t102 x66_3).f1)) = false := beq_eq_false_iff_ne.mpr c39; have c39b1 : (((rd_T94 l0_1 x66_3).f1) != ((rd_T94 t102 x66_3).f1)) = true := bne_iff_ne.mpr c39; have H' := Aside0.mk H; clear H; try go_wp2
             have n0_ : Aside0 (Kd.S k94 94 (((w34.setCell ⟨gb111, 0, none⟩ (.int .i64 ((rd_T94 l0_1 x66_3).f0))).setCell ⟨gb111, 1, none⟩ (.int .i64 ((rd_T94 l0_1 x66_3).f1))).setCell ⟨gb111, 2, none⟩ (.slice A110_2 ((rd_T94 l0_1 x66_3).f2).length c110_2)) w.heap.size (fun k_ => k_ ≠ gb111) v103 t102) := ⟨by (with_reducible repeat (first | apply Kd.S_alloc | apply Kd.S_drewN | apply Kd.S_drew)); exact Kd.S_mono (Kd.S_far (p := ⟨gb111, 2, none⟩) (Kd.S_far (p := ⟨gb111, 1, none⟩) (Kd.S_far (p := ⟨gb111, 0, none⟩) (Kd.S_mono HO_4.out (fun k_ hk => (⟨hk, hk.2⟩ : _ ∧ k_ ≠ gb111))) (fun _ hk => hk.2) (.int .i64 ((rd_T94 l0_1 x66_3).f0))) (fun _ hk => hk.2) (.int .i64 ((rd_T94 l0_1 x66_3).f1))) (fun _ hk => hk.2) (.slice A110_2 ((rd_T94 l0_1 x66_3).f2).length c110_2)) (fun _ hk => hk.1.2)⟩
             have n1_ : Aside0 ((((w34.setCell ⟨gb111, 0, none⟩ (.int .i64 ((rd_T94 l0_1 x66_3).f0))).setCell ⟨gb111, 1, none⟩ (.int .i64 ((rd_T94 l0_1 x66_3).f1))).setCell ⟨gb111, 2, none⟩ (.slice A110_2 ((rd_T94 l0_1 x66_3).f2).length c110_2)).heap[gb101]? = some (.cells #[.slice A0_0 l0_0.length c0_0, .slice (some ad110) l0_1.length c0_1, .slice A0_2 l0_2.length c0_2, .int .i64 a0_3, .int .i64 a0_4] 35 (0, 0))) := ⟨by (with_reducible repeat (first | refine Zh ?_ _ | refine Zi ?_ | refine Zf ?_ _)); refine Zs ?_ NB101_111.out _; (with_reducible repeat (first | refine Zh ?_ _ | refine Zi ?_ | refine Zf ?_ _)); refine Zs ?_ NB101_111.out _; (with_reducible repeat (first | refine Zh ?_ _ | refine Zi ?_ | refine Zf ?_ _)); refine Zs ?_ NB101_111.out _; (with_reducible repeat (first | refine Zh ?_ _ | refine Zi ?_ | refine Zf ?_ _)); exact BK101.out⟩
             have n2_ : Aside0 ((((w34.setCell ⟨gb111, 0, none⟩ (.int .i64 ((rd_T94 l0_1 x66_3).f0))).setCell ⟨gb111, 1, none⟩ (.int .i64 ((rd_T94 l0_1 x66_3).f1))).setCell ⟨gb111, 2, none⟩ (.slice A110_2 ((rd_T94 l0_1 x66_3).f2).length c110_2)).heap[gb111]? = some (.cells #[.int .i64 ((rd_T94 l0_1 x66_3).f0), .int .i64 ((rd_T94 l0_1 x66_3).f1), .slice A110_2 ((rd_T94 l0_1 x66_3).f2).length c110_2] 94 (0, 0))) := ⟨by (with_reducible repeat (first | refine Zh ?_ _ | refine Zi ?_ | refine Zf ?_ _)); refine Zt (cs := #[.int .i64 ((rd_T94 l0_1 x66_3).f0), .int .i64 ((rd_T94 l0_1 x66_3).f1), .slice none 0 0]) ?_ 2 _ rfl; (with_reducible repeat (first | refine Zh ?_ _ | refine Zi ?_ | refine Zf ?_ _)); refine Zt (cs := #[.int .i64 ((rd_T94 l0_1 x66_3).f0), .int .i64 0, .slice none 0 0]) ?_ 1 _ rfl; (with_reducible repeat (first | refine Zh ?_ _ | refine Zi ?_ | refine Zf ?_ _)); refine Zt (cs := #[.int .i64 0, .int .i64 0, .slice none 0 0]) ?_ 0 _ rfl; (with_reducible repeat (first | refine Zh ?_ _ | refine Zi ?_ | refine Zf ?_ _)); exact BK111.out⟩
             have n3_ : Aside0 (Below w.heap.size w (((w34.setCell ⟨gb111, 0, none⟩ (.int .i64 ((rd_T94 l0_1 x66_3).f0))).setCell ⟨gb111, 1, none⟩ (.int .i64 ((rd_T94 l0_1 x66_3).f1))).setCell ⟨gb111, 2, none⟩ (.slice A110_2 ((rd_T94 l0_1 x66_3).f2).length c110_2))) := ⟨by repeat (first | (with_reducible first | exact HB.out | apply Ze | apply Za | apply Zd | refine Zg ?_ GE101.out | refine Zg ?_ GE111.out) | exact HB.out)⟩
             (try clear HO_4)
             (try clear BK101)
             (try clear BK111)
             (try clear HB)
             generalize (((w34.setCell ⟨gb111, 0, none⟩ (.int .i64 ((rd_T94 l0_1 x66_3).f0))).setCell ⟨gb111, 1, none⟩ (.int .i64 ((rd_T94 l0_1 x66_3).f1))).setCell ⟨gb111, 2, none⟩ (.slice A110_2 ((rd_T94 l0_1 x66_3).f2).length c110_2)) = w43 at n0_ n1_ n2_ n3_ ⊢; have HO_4 := n0_; have BK101 := n1_; have BK111 := n2_; have HB := n3_; clear n0_ n1_ n2_ n3_; have n0_ := Aside0.mk (Kd.S_drew HO_4.out); have n1_ := Aside0.mk (Zi BK101.out); have n2_ := Aside0.mk (Zi BK111.out); have n3_ := Aside0.mk (Zd HB.out); clear HO_4; clear BK101; clear BK111; clear HB; have HO_4 := n0_; have BK101 := n1_; have BK111 := n2_; have HB := n3_; clear n0_ n1_ n2_ n3_; obtain ⟨Ao45, co45, eo45⟩ := Kd.S_slice HO_4.out
             (first | subst eo45 | (injection eo45 with f1_ f2_ f3_; have f4_ := f1_.symm; have f5_ := f3_.symm; clear f1_ f2_ f3_; subst f4_; subst f5_))
             have p112 : 0 ≤ (x66_3 : Int) := of_decide_eq_true (by assumption); have q112 : x66_3 < (t102.length : Int) := of_decide_eq_true (by assumption); obtain ⟨ad112, A112_2, c112_2, e112, hx112_0, hx112_1, hx112_2, hl112_2, hi112_2⟩ := at_T94 (Kd.S_reads' HO_4.out).2.2 x66_3 p112 q112; cases e112; obtain ⟨ce112, hce112, hMe112, hcc112⟩ := Kd.S_get HO_4.out z94 x66_3 p112 (by first | exact q112 | exact of_decide_eq_true (by assumption) | (have e_ := (Kd.S_reads' HO_4.out).1; omega)); obtain ⟨ve112_2, rfl, ge112_2⟩ := k94_openM hMe112; have hv112_2 := hcc112 2 _ rfl; rw [add_field _ _ 2 (by omega)] at hv112_2; replace hv112_2 := Option.some.inj (hv112_2.symm.trans hx112_2); rw [hv112_2] at ge112_2; have HL112_2 := Aside0.mk (show Kd.R (Kd.int .i64) 3 _ _ _ _ ((rd_T94 t102 x66_3).f2) from ge112_2); clear hv112_2 ge112_2; clear hcc112 hce112; have HR112_2 := Aside0.mk hi112_2; have HC112_2 := Aside0.mk hl112_2; clear hi112_2 hl112_2; replace p112 := eq_true p112; replace q112 := eq_true q112; have p113 : 0 ≤ (x66_3 : Int) := of_decide_eq_true (by assumption); have q113 : x66_3 < (t102.length : Int) := of_decide_eq_true (by assumption); obtain ⟨ad113, A113_2, c113_2, e113, hx113_0, hx113_1, hx113_2, hl113_2, hi113_2⟩ := at_T94 (Kd.S_reads' HO_4.out).2.2 x66_3 p113 q113; obtain rfl : ad112 = ad113 := (by injection e113)
             obtain ⟨ce113, hce113, hMe113, hcc113⟩ := Kd.S_get HO_4.out z94 x66_3 p113 (by first | exact q113 | exact of_decide_eq_true (by assumption) | (have e_ := (Kd.S_reads' HO_4.out).1; omega)); obtain ⟨ve113_2, rfl, ge113_2⟩ := k94_openM hMe113; have hv113_2 := hcc113 2 _ rfl; rw [add_field _ _ 2 (by omega)] at hv113_2; replace hv113_2 := Option.some.inj (hv113_2.symm.trans hx113_2); rw [hv113_2] at ge113_2; have HL113_2 := Aside0.mk (show Kd.R (Kd.int .i64) 3 _ _ _ _ ((rd_T94 t102 x66_3).f2) from ge113_2); clear hv113_2 ge113_2; clear hcc113 hce113; have HR113_2 := Aside0.mk hi113_2; have HC113_2 := Aside0.mk hl113_2; clear hi113_2 hl113_2; replace p113 := eq_true p113; replace q113 := eq_true q113; have ea_ := Option.some.inj (hx112_2.symm.trans hx113_2); injection ea_ with ea_ en_ ec_
             subst ea_; subst ec_; clear en_; refine start_ (n := 24) (S := fun w' => w'.cell? ⟨gb111, 0, none⟩ = some (.int .i64 ((rd_T94 l0_1 x66_3).f0)) ∧ w'.cell? ⟨gb111, 1, none⟩ = some (.int .i64 ((rd_T94 l0_1 x66_3).f1)) ∧ w'.cell? ⟨gb111, 2, none⟩ = some (.slice A110_2 ((rd_T94 l0_1 x66_3).f2).length c110_2) ∧ w'.cell? (ad112.add ((x66_3).toNat * 3)) = some (.int .i64 ((rd_T94 t102 x66_3).f0)) ∧ w'.cell? ⟨(ad112.add ((x66_3).toNat * 3)).block, (ad112.add ((x66_3).toNat * 3)).off + 1, none⟩ = some (.int .i64 ((rd_T94 t102 x66_3).f1)) ∧ w'.cell? ⟨(ad112.add ((x66_3).toNat * 3)).block, (ad112.add ((x66_3).toNat * 3)).off + 2, none⟩ = some (.slice A112_2 ((rd_T94 t102 x66_3).f2).length c112_2) ∧ w'.cell? (ad112.add ((x66_3).toNat * 3)) = some (.int .i64 ((rd_T94 t102 x66_3).f0)) ∧ w'.cell? ⟨(ad112.add ((x66_3).toNat * 3)).block, (ad112.add ((x66_3).toNat * 3)).off + 1, none⟩ = some (.int .i64 ((rd_T94 t102 x66_3).f1)) ∧ w'.cell? ⟨(ad112.add ((x66_3).toNat * 3)).block, (ad112.add ((x66_3).toNat * 3)).off + 2, none⟩ = some (.slice A112_2 ((rd_T94 t102 x66_3).f2).length c112_2)) (ds := []) #[false, false, false, false, false, false, false, false, false, false, false, false, false, false, false, false, false, false, false, false, false, false, false, false] (by kernel_rfl) rfl rfl ⟨(Zb BK111.out 0).trans rfl, (Zb BK111.out 1).trans rfl, (Zb BK111.out 2).trans rfl, hx112_0, hx112_1, hx112_2, hx113_0, hx113_1, hx113_2⟩ (fun hHeld => ?_); refine with_tabW spec_GoodSnap.tab16 spec_GoodSnap.bits16 (fun HT_ HW_ => ?_)
             generalize w43.drew = w44 at HO_4 BK101 BK111 HB HL112_2 HL113_2 HR112_2 HR113_2 hx112_0 hx112_1 hx112_2 hx113_0 hx113_1 hx113_2 hHeld ⊢; refine Zm (i := 0) (N := some 71) (v := ?_) (a' := ?_) (Bm24 24 1) rfl rfl (Zj HT_.out (by kernel_rfl)) (fun _ _ _ h => h) (Or.inl ⟨by rfl, ?_⟩) ?_ ?_; rotate_left
             ·intro w'; go_simp; with_reducible rfl
             rotate_left
             ·simp only [Act.put, Sa24, Sb24, Sc24, Zk, Zl]; rfl
             refine Zm (i := 2) (N := some 73) (v := ?_) (a' := ?_) (Bm24 24 5) rfl rfl (Zj HT_.out (by kernel_rfl)) (fun _ _ _ h => h) (Or.inl ⟨by rfl, ?_⟩) ?_ ?_; rotate_left
             ·intro w'; go_simp; with_reducible rfl
             rotate_left
             ·simp only [Act.put, Sa24, Sb24, Sc24, Zk, Zl]; rfl
             refine Zm (i := 3) (N := some 74) (v := ?_) (a' := ?_) (Bm24 24 13) rfl rfl (Zj HT_.out (by kernel_rfl)) (fun _ _ _ h => h) (Or.inl ⟨by rfl, ?_⟩) ?_ ?_; rotate_left
             ·intro w'; go_simp; with_reducible rfl
             rotate_left
             ·simp only [Act.put, Sa24, Sb24, Sc24, Zk, Zl]; rfl
             refine Zm (i := 4) (N := some 75) (v := ?_) (a' := ?_) (Bm24 24 29) rfl rfl (Zj HT_.out (by kernel_rfl)) (fun _ _ _ h => h) (Or.inl ⟨by rfl, ?_⟩) ?_ ?_; rotate_left
             ·intro w'; go_simp; with_reducible rfl
             rotate_left
             ·simp only [Act.put, Sa24, Sb24, Sc24, Zk, Zl]; rfl
             refine Zm (i := 5) (N := some 76) (v := ?_) (a' := ?_) (Bm24 24 61) rfl rfl (Zj HT_.out (by kernel_rfl)) (fun _ _ _ h => h) (Or.inl ⟨by rfl, ?_⟩) ?_ ?_; rotate_left
             ·intro w'; go_simp; with_reducible rfl
             rotate_left
             ·simp only [Act.put, Sa24, Sb24, Sc24, Zk, Zl]; rfl
             refine take_ (i := 1) (N := some 72) (v := ?_) (a' := ?_) (Bm24 24 63) rfl rfl (Zr HT_.out HW_.out (by kernel_rfl)) (fun _ _ _ h => h) (Or.inl ⟨by rfl, ?_⟩) hHeld ?_ ?_; rotate_left
             ·rintro w' ⟨s0, s1, s2, s3, s4, s5, s6, s7, s8⟩
              go_simp; with_reducible rfl
             rotate_left
             ·simp only [Act.put, Sa24, Sb24, Sc24, Zk, Zl]; rfl
             refine take_ (i := 6) (N := some 77) (v := ?_) (a' := ?_) (Bm24 24 127) rfl rfl (Zr HT_.out HW_.out (by kernel_rfl)) (fun _ _ _ h => h) (Or.inl ⟨by rfl, ?_⟩) hHeld ?_ ?_; rotate_left
             ·rintro w' ⟨s0, s1, s2, s3, s4, s5, s6, s7, s8⟩
              go_simp; with_reducible rfl
             rotate_left
             ·simp only [Act.put, Sa24, Sb24, Sc24, Zk, Zl]; rfl
             refine Zm (i := 7) (N := some 78) (v := ?_) (a' := ?_) (Bm24 24 255) rfl rfl (Zj HT_.out (by kernel_rfl)) (fun _ _ _ h => h) (Or.inl ⟨by rfl, ?_⟩) ?_ ?_; rotate_left
             ·intro w'; go_simp; with_reducible rfl
             rotate_left
             ·simp only [Act.put, Sa24, Sb24, Sc24, Zk, Zl]; rfl
             refine Zm (i := 8) (N := some 79) (v := ?_) (a' := ?_) (Bm24 24 511) rfl rfl (Zj HT_.out (by kernel_rfl)) (fun _ _ _ h => h) (Or.inl ⟨by rfl, ?_⟩) ?_ ?_; rotate_left
             ·intro w'; go_simp; with_reducible rfl
             rotate_left
             ·simp only [Act.put, Sa24, Sb24, Sc24, Zk, Zl]; rfl
             refine Zm (i := 9) (N := some 80) (v := ?_) (a' := ?_) (Bm24 24 1023) rfl rfl (Zj HT_.out (by kernel_rfl)) (fun _ _ _ h => h) (Or.inl ⟨by rfl, ?_⟩) ?_ ?_; rotate_left
             ·intro w'; go_simp; with_reducible rfl
             rotate_left
             ·simp only [Act.put, Sa24, Sb24, Sc24, Zk, Zl]; rfl
             refine Zm (i := 11) (N := some 82) (v := ?_) (a' := ?_) (Bm24 24 3071) rfl rfl (Zj HT_.out (by kernel_rfl)) (fun _ _ _ h => h) (Or.inl ⟨by rfl, ?_⟩) ?_ ?_; rotate_left
             ·intro w'; go_simp; with_reducible rfl
             rotate_left
             ·simp only [Act.put, Sa24, Sb24, Sc24, Zk, Zl]; rfl
             refine Zm (i := 12) (N := some 83) (v := ?_) (a' := ?_) (Bm24 24 7167) rfl rfl (Zj HT_.out (by kernel_rfl)) (fun _ _ _ h => h) (Or.inl ⟨by rfl, ?_⟩) ?_ ?_; rotate_left
             ·intro w'; go_simp; with_reducible rfl
             rotate_left
             ·simp only [Act.put, Sa24, Sb24, Sc24, Zk, Zl]; rfl
             refine Zm (i := 13) (N := some 84) (v := ?_) (a' := ?_) (Bm24 24 15359) rfl rfl (Zj HT_.out (by kernel_rfl)) (fun _ _ _ h => h) (Or.inl ⟨by rfl, ?_⟩) ?_ ?_; rotate_left
             ·intro w'; go_simp; with_reducible rfl
             rotate_left
             ·simp only [Act.put, Sa24, Sb24, Sc24, Zk, Zl]; rfl
             refine Zm (i := 14) (N := some 85) (v := ?_) (a' := ?_) (Bm24 24 31743) rfl rfl (Zj HT_.out (by kernel_rfl)) (fun _ _ _ h => h) (Or.inl ⟨by rfl, ?_⟩) ?_ ?_; rotate_left
             ·intro w'; go_simp; with_reducible rfl
             rotate_left
             ·simp only [Act.put, Sa24, Sb24, Sc24, Zk, Zl]; rfl
             refine take_ (i := 10) (N := some 81) (v := ?_) (a' := ?_) (Bm24 24 32767) rfl rfl (Zr HT_.out HW_.out (by kernel_rfl)) (fun _ _ _ h => h) (Or.inl ⟨by rfl, ?_⟩) hHeld ?_ ?_; rotate_left
             ·rintro w' ⟨s0, s1, s2, s3, s4, s5, s6, s7, s8⟩
              go_simp; with_reducible rfl
             rotate_left
             ·simp only [Act.put, Sa24, Sb24, Sc24, Zk, Zl]; rfl
             refine take_ (i := 15) (N := some 86) (v := ?_) (a' := ?_) (Bm24 24 65535) rfl rfl (Zr HT_.out HW_.out (by kernel_rfl)) (fun _ _ _ h => h) (Or.inl ⟨by rfl, ?_⟩) hHeld ?_ ?_; rotate_left
             ·rintro w' ⟨s0, s1, s2, s3, s4, s5, s6, s7, s8⟩
              go_simp; with_reducible rfl
             rotate_left
             ·simp only [Act.put, Sa24, Sb24, Sc24, Zk, Zl]; rfl
             refine Zm (i := 16) (N := some 87) (v := ?_) (a' := ?_) (Bm24 24 131071) rfl rfl (Zj HT_.out (by kernel_rfl)) (fun _ _ _ h => h) (Or.inl ⟨by rfl, ?_⟩) ?_ ?_; rotate_left
             ·intro w'; go_simp; with_reducible rfl
             rotate_left
             ·simp only [Act.put, Sa24, Sb24, Sc24, Zk, Zl]; rfl
             refine Zm (i := 17) (N := some 88) (v := ?_) (a' := ?_) (Bm24 24 262143) rfl rfl (Zj HT_.out (by kernel_rfl)) (fun _ _ _ h => h) (Or.inl ⟨by rfl, ?_⟩) ?_ ?_; rotate_left
             ·intro w'; go_simp; with_reducible rfl
             rotate_left
             ·simp only [Act.put, Sa24, Sb24, Sc24, Zk, Zl]; rfl
             refine Zm (i := 18) (N := some 89) (v := ?_) (a' := ?_) (Bm24 24 524287) rfl rfl (Zj HT_.out (by kernel_rfl)) (fun _ _ _ h => h) (Or.inl ⟨by rfl, ?_⟩) ?_ ?_; rotate_left
             ·intro w'; go_simp; with_reducible rfl
             rotate_left
             ·simp only [Act.put, Sa24, Sb24, Sc24, Zk, Zl]; rfl
             refine Zm (i := 19) (N := some 90) (v := undef) (a' := ?_) (Bm24 24 1048575) rfl rfl (Zj HT_.out (by kernel_rfl)) (fun _ _ _ h => h) (Or.inr ⟨by rfl, rfl⟩) ?_ ?_; rotate_left
             ·simp only [Act.put, Sa24, Sb24, Sc24, Zk, Zl]; rfl
             refine Zm (i := 20) (N := some 91) (v := undef) (a' := ?_) (Bm24 24 2097151) rfl rfl (Zj HT_.out (by kernel_rfl)) (fun _ _ _ h => h) (Or.inr ⟨by rfl, rfl⟩) ?_ ?_; rotate_left
             ·simp only [Act.put, Sa24, Sb24, Sc24, Zk, Zl]; rfl
             refine Zm (i := 21) (N := some 92) (v := undef) (a' := ?_) (Bm24 24 4194303) rfl rfl (Zj HT_.out (by kernel_rfl)) (fun _ _ _ h => h) (Or.inr ⟨by rfl, rfl⟩) ?_ ?_; rotate_left
             ·simp only [Act.put, Sa24, Sb24, Sc24, Zk, Zl]; rfl
             refine Zm (i := 22) (N := some 93) (v := undef) (a' := ?_) (Bm24 24 8388607) rfl rfl (Zj HT_.out (by kernel_rfl)) (fun _ _ _ h => h) (Or.inr ⟨by rfl, rfl⟩) ?_ ?_; rotate_left
             ·simp only [Act.put, Sa24, Sb24, Sc24, Zk, Zl]; rfl
             refine Zm (i := 23) (N := some 94) (v := ?_) (a' := ?_) (Bm24 24 16777215) rfl rfl (Zj HT_.out (by kernel_rfl)) (fun _ _ _ h => h) (Or.inl ⟨by rfl, ?_⟩) ?_ ?_; rotate_left
             ·intro w'; go_simp; with_reducible rfl
             rotate_left
             ·simp only [Act.put, Sa24, Sb24, Sc24, Zk, Zl]; rfl
             refine done_ (done_of HT_.out (by kernel_rfl)) ?_; try go_wp2
             go_meet
             case rel => exact ⟨_, (true), (by first | rfl | (simp; done) | (simp [*]; done)), H', ⟨by have := HJ2.out; have := HK2.out; have := HK3.out; first | omega | exact Nat.le_refl _⟩, ⟨by (with_reducible repeat (first | apply Kd.S_alloc | apply Kd.S_drewN | apply Kd.S_drew)); exact HO_4.out⟩, ⟨by (with_reducible repeat (first | refine Zh ?_ _ | refine Zi ?_ | refine Zf ?_ _)); exact BK101.out⟩, ⟨by (with_reducible repeat (first | refine Zh ?_ _ | refine Zi ?_ | refine Zf ?_ _)); exact BK111.out⟩, ⟨by repeat (first | (with_reducible first | exact HB.out | apply Ze | apply Za | apply Zd | refine Zg ?_ GE101.out | refine Zg ?_ GE111.out) | exact HB.out)⟩⟩
           ·rw [if_neg c38] at H; have c38b0 : (((rd_T94 l0_1 x66_3).f0) == ((rd_T94 t102 x66_3).f0)) = false := beq_eq_false_iff_ne.mpr c38; have c38b1 : (((rd_T94 l0_1 x66_3).f0) != ((rd_T94 t102 x66_3).f0)) = true := bne_iff_ne.mpr c38; have H' := Aside0.mk H; clear H; try go_wp2
            have n0_ : Aside0 (Kd.S k94 94 (((w34.setCell ⟨gb111, 0, none⟩ (.int .i64 ((rd_T94 l0_1 x66_3).f0))).setCell ⟨gb111, 1, none⟩ (.int .i64 ((rd_T94 l0_1 x66_3).f1))).setCell ⟨gb111, 2, none⟩ (.slice A110_2 ((rd_T94 l0_1 x66_3).f2).length c110_2)) w.heap.size (fun k_ => k_ ≠ gb111) v103 t102) := ⟨by (with_reducible repeat (first | apply Kd.S_alloc | apply Kd.S_drewN | apply Kd.S_drew)); exact Kd.S_mono (Kd.S_far (p := ⟨gb111, 2, none⟩) (Kd.S_far (p := ⟨gb111, 1, none⟩) (Kd.S_far (p := ⟨gb111, 0, none⟩) (Kd.S_mono HO_4.out (fun k_ hk => (⟨hk, hk.2⟩ : _ ∧ k_ ≠ gb111))) (fun _ hk => hk.2) (.int .i64 ((rd_T94 l0_1 x66_3).f0))) (fun _ hk => hk.2) (.int .i64 ((rd_T94 l0_1 x66_3).f1))) (fun _ hk => hk.2) (.slice A110_2 ((rd_T94 l0_1 x66_3).f2).length c110_2)) (fun _ hk => hk.1.2)⟩
            have n1_ : Aside0 ((((w34.setCell ⟨gb111, 0, none⟩ (.int .i64 ((rd_T94 l0_1 x66_3).f0))).setCell ⟨gb111, 1, none⟩ (.int .i64 ((rd_T94 l0_1 x66_3).f1))).setCell ⟨gb111, 2, none⟩ (.slice A110_2 ((rd_T94 l0_1 x66_3).f2).length c110_2)).heap[gb101]? = some (.cells #[.slice A0_0 l0_0.length c0_0, .slice (some ad110) l0_1.length c0_1, .slice A0_2 l0_2.length c0_2, .int .i64 a0_3, .int .i64 a0_4] 35 (0, 0))) := ⟨by (with_reducible repeat (first | refine Zh ?_ _ | refine Zi ?_ | refine Zf ?_ _)); refine Zs ?_ NB101_111.out _; (with_reducible repeat (first | refine Zh ?_ _ | refine Zi ?_ | refine Zf ?_ _)); refine Zs ?_ NB101_111.out _; (with_reducible repeat (first | refine Zh ?_ _ | refine Zi ?_ | refine Zf ?_ _)); refine Zs ?_ NB101_111.out _; (with_reducible repeat (first | refine Zh ?_ _ | refine Zi ?_ | refine Zf ?_ _)); exact BK101.out⟩
            have n2_ : Aside0 ((((w34.setCell ⟨gb111, 0, none⟩ (.int .i64 ((rd_T94 l0_1 x66_3).f0))).setCell ⟨gb111, 1, none⟩ (.int .i64 ((rd_T94 l0_1 x66_3).f1))).setCell ⟨gb111, 2, none⟩ (.slice A110_2 ((rd_T94 l0_1 x66_3).f2).length c110_2)).heap[gb111]? = some (.cells #[.int .i64 ((rd_T94 l0_1 x66_3).f0), .int .i64 ((rd_T94 l0_1 x66_3).f1), .slice A110_2 ((rd_T94 l0_1 x66_3).f2).length c110_2] 94 (0, 0))) := ⟨by (with_reducible repeat (first | refine Zh ?_ _ | refine Zi ?_ | refine Zf ?_ _)); refine Zt (cs := #[.int .i64 ((rd_T94 l0_1 x66_3).f0), .int .i64 ((rd_T94 l0_1 x66_3).f1), .slice none 0 0]) ?_ 2 _ rfl; (with_reducible repeat (first | refine Zh ?_ _ | refine Zi ?_ | refine Zf ?_ _)); refine Zt (cs := #[.int .i64 ((rd_T94 l0_1 x66_3).f0), .int .i64 0, .slice none 0 0]) ?_ 1 _ rfl; (with_reducible repeat (first | refine Zh ?_ _ | refine Zi ?_ | refine Zf ?_ _)); refine Zt (cs := #[.int .i64 0, .int .i64 0, .slice none 0 0]) ?_ 0 _ rfl; (with_reducible repeat (first | refine Zh ?_ _ | refine Zi ?_ | refine Zf ?_ _)); exact BK111.out⟩
            have n3_ : Aside0 (Below w.heap.size w (((w34.setCell ⟨gb111, 0, none⟩ (.int .i64 ((rd_T94 l0_1 x66_3).f0))).setCell ⟨gb111, 1, none⟩ (.int .i64 ((rd_T94 l0_1 x66_3).f1))).setCell ⟨gb111, 2, none⟩ (.slice A110_2 ((rd_T94 l0_1 x66_3).f2).length c110_2))) := ⟨by repeat (first | (with_reducible first | exact HB.out | apply Ze | apply Za | apply Zd | refine Zg ?_ GE101.out | refine Zg ?_ GE111.out) | exact HB.out)⟩
            (try clear HO_4)
            (try clear BK101)
            (try clear BK111)
            (try clear HB)
            generalize (((w34.setCell ⟨gb111, 0, none⟩ (.int .i64 ((rd_T94 l0_1 x66_3).f0))).setCell ⟨gb111, 1, none⟩ (.int .i64 ((rd_T94 l0_1 x66_3).f1))).setCell ⟨gb111, 2, none⟩ (.slice A110_2 ((rd_T94 l0_1 x66_3).f2).length c110_2)) = w46 at n0_ n1_ n2_ n3_ ⊢; have HO_4 := n0_; have BK101 := n1_; have BK111 := n2_; have HB := n3_; clear n0_ n1_ n2_ n3_; have n0_ := Aside0.mk (Kd.S_drew HO_4.out); have n1_ := Aside0.mk (Zi BK101.out); have n2_ := Aside0.mk (Zi BK111.out); have n3_ := Aside0.mk (Zd HB.out); clear HO_4; clear BK101; clear BK111; clear HB; have HO_4 := n0_; have BK101 := n1_; have BK111 := n2_; have HB := n3_; clear n0_ n1_ n2_ n3_; obtain ⟨Ao48, co48, eo48⟩ := Kd.S_slice HO_4.out
            (first | subst eo48 | (injection eo48 with f1_ f2_ f3_; have f4_ := f1_.symm; have f5_ := f3_.symm; clear f1_ f2_ f3_; subst f4_; subst f5_))
            have p112 : 0 ≤ (x66_3 : Int) := of_decide_eq_true (by assumption); have q112 : x66_3 < (t102.length : Int) := of_decide_eq_true (by assumption); obtain ⟨ad112, A112_2, c112_2, e112, hx112_0, hx112_1, hx112_2, hl112_2, hi112_2⟩ := at_T94 (Kd.S_reads' HO_4.out).2.2 x66_3 p112 q112; cases e112; obtain ⟨ce112, hce112, hMe112, hcc112⟩ := Kd.S_get HO_4.out z94 x66_3 p112 (by first | exact q112 | exact of_decide_eq_true (by assumption) | (have e_ := (Kd.S_reads' HO_4.out).1; omega)); obtain ⟨ve112_2, rfl, ge112_2⟩ := k94_openM hMe112; have hv112_2 := hcc112 2 _ rfl; rw [add_field _ _ 2 (by omega)] at hv112_2; replace hv112_2 := Option.some.inj (hv112_2.symm.trans hx112_2); rw [hv112_2] at ge112_2; have HL112_2 := Aside0.mk (show Kd.R (Kd.int .i64) 3 _ _ _ _ ((rd_T94 t102 x66_3).f2) from ge112_2); clear hv112_2 ge112_2; clear hcc112 hce112; have HR112_2 := Aside0.mk hi112_2; have HC112_2 := Aside0.mk hl112_2; clear hi112_2 hl112_2; replace p112 := eq_true p112; replace q112 := eq_true q112; refine start_ (n := 24) (S := fun w' => w'.cell? ⟨gb111, 0, none⟩ = some (.int .i64 ((rd_T94 l0_1 x66_3).f0)) ∧ w'.cell? ⟨gb111, 1, none⟩ = some (.int .i64 ((rd_T94 l0_1 x66_3).f1)) ∧ w'.cell? ⟨gb111, 2, none⟩ = some (.slice A110_2 ((rd_T94 l0_1 x66_3).f2).length c110_2) ∧ w'.cell? (ad112.add ((x66_3).toNat * 3)) = some (.int .i64 ((rd_T94 t102 x66_3).f0)) ∧ w'.cell? ⟨(ad112.add ((x66_3).toNat * 3)).block, (ad112.add ((x66_3).toNat * 3)).off + 1, none⟩ = some (.int .i64 ((rd_T94 t102 x66_3).f1)) ∧ w'.cell? ⟨(ad112.add ((x66_3).toNat * 3)).block, (ad112.add ((x66_3).toNat * 3)).off + 2, none⟩ = some (.slice A112_2 ((rd_T94 t102 x66_3).f2).length c112_2)) (ds := []) #[false, false, false, false, false, false, false, false, false, false, false, false, false, false, false, false, false, false, false, false, false, false, false, false] (by kernel_rfl) rfl rfl ⟨(Zb BK111.out 0).trans rfl, (Zb BK111.out 1).trans rfl, (Zb BK111.out 2).trans rfl, hx112_0, hx112_1, hx112_2⟩ (fun hHeld => ?_); refine with_tabW spec_GoodSnap.tab16 spec_GoodSnap.bits16 (fun HT_ HW_ => ?_)
            generalize w46.drew = w47 at HO_4 BK101 BK111 HB HL112_2 HR112_2 hx112_0 hx112_1 hx112_2 hHeld ⊢; refine Zm (i := 0) (N := some 71) (v := ?_) (a' := ?_) (Bm24 24 1) rfl rfl (Zj HT_.out (by kernel_rfl)) (fun _ _ _ h => h) (Or.inl ⟨by rfl, ?_⟩) ?_ ?_; rotate_left
            ·intro w'; go_simp; with_reducible rfl
            rotate_left
            ·simp only [Act.put, Sa24, Sb24, Sc24, Zk, Zl]; rfl
            refine Zm (i := 2) (N := some 73) (v := ?_) (a' := ?_) (Bm24 24 5) rfl rfl (Zj HT_.out (by kernel_rfl)) (fun _ _ _ h => h) (Or.inl ⟨by rfl, ?_⟩) ?_ ?_; rotate_left
            ·intro w'; go_simp; with_reducible rfl
            rotate_left
            ·simp only [Act.put, Sa24, Sb24, Sc24, Zk, Zl]; rfl
            refine Zm (i := 3) (N := some 74) (v := ?_) (a' := ?_) (Bm24 24 13) rfl rfl (Zj HT_.out (by kernel_rfl)) (fun _ _ _ h => h) (Or.inl ⟨by rfl, ?_⟩) ?_ ?_; rotate_left
            ·intro w'; go_simp; with_reducible rfl
            rotate_left
            ·simp only [Act.put, Sa24, Sb24, Sc24, Zk, Zl]; rfl
            refine Zm (i := 4) (N := some 75) (v := ?_) (a' := ?_) (Bm24 24 29) rfl rfl (Zj HT_.out (by kernel_rfl)) (fun _ _ _ h => h) (Or.inl ⟨by rfl, ?_⟩) ?_ ?_; rotate_left
            ·intro w'; go_simp; with_reducible rfl
            rotate_left
            ·simp only [Act.put, Sa24, Sb24, Sc24, Zk, Zl]; rfl
            refine Zm (i := 5) (N := some 76) (v := ?_) (a' := ?_) (Bm24 24 61) rfl rfl (Zj HT_.out (by kernel_rfl)) (fun _ _ _ h => h) (Or.inl ⟨by rfl, ?_⟩) ?_ ?_; rotate_left
            ·intro w'; go_simp; with_reducible rfl
            rotate_left
            ·simp only [Act.put, Sa24, Sb24, Sc24, Zk, Zl]; rfl
            refine take_ (i := 1) (N := some 72) (v := ?_) (a' := ?_) (Bm24 24 63) rfl rfl (Zr HT_.out HW_.out (by kernel_rfl)) (fun _ _ _ h => h) (Or.inl ⟨by rfl, ?_⟩) hHeld ?_ ?_; rotate_left
            ·rintro w' ⟨s0, s1, s2, s3, s4, s5⟩
             go_simp; with_reducible rfl
            rotate_left
            ·simp only [Act.put, Sa24, Sb24, Sc24, Zk, Zl]; rfl
            refine take_ (i := 6) (N := some 77) (v := ?_) (a' := ?_) (Bm24 24 127) rfl rfl (Zr HT_.out HW_.out (by kernel_rfl)) (fun _ _ _ h => h) (Or.inl ⟨by rfl, ?_⟩) hHeld ?_ ?_; rotate_left
            ·rintro w' ⟨s0, s1, s2, s3, s4, s5⟩
             go_simp; with_reducible rfl
            rotate_left
            ·simp only [Act.put, Sa24, Sb24, Sc24, Zk, Zl]; rfl
            refine Zm (i := 7) (N := some 78) (v := ?_) (a' := ?_) (Bm24 24 255) rfl rfl (Zj HT_.out (by kernel_rfl)) (fun _ _ _ h => h) (Or.inl ⟨by rfl, ?_⟩) ?_ ?_; rotate_left
            ·intro w'; go_simp; with_reducible rfl
            rotate_left
            ·simp only [Act.put, Sa24, Sb24, Sc24, Zk, Zl]; rfl
            refine Zm (i := 8) (N := some 79) (v := ?_) (a' := ?_) (Bm24 24 511) rfl rfl (Zj HT_.out (by kernel_rfl)) (fun _ _ _ h => h) (Or.inl ⟨by rfl, ?_⟩) ?_ ?_; rotate_left
            ·intro w'; go_simp; with_reducible rfl
            rotate_left
            ·simp only [Act.put, Sa24, Sb24, Sc24, Zk, Zl]; rfl
            refine Zm (i := 9) (N := some 80) (v := undef) (a' := ?_) (Bm24 24 1023) rfl rfl (Zj HT_.out (by kernel_rfl)) (fun _ _ _ h => h) (Or.inr ⟨by rfl, rfl⟩) ?_ ?_; rotate_left
            ·simp only [Act.put, Sa24, Sb24, Sc24, Zk, Zl]; rfl
            refine Zm (i := 10) (N := some 81) (v := undef) (a' := ?_) (Bm24 24 2047) rfl rfl (Zj HT_.out (by kernel_rfl)) (fun _ _ _ h => h) (Or.inr ⟨by rfl, rfl⟩) ?_ ?_; rotate_left
            ·simp only [Act.put, Sa24, Sb24, Sc24, Zk, Zl]; rfl
            refine Zm (i := 11) (N := some 82) (v := undef) (a' := ?_) (Bm24 24 4095) rfl rfl (Zj HT_.out (by kernel_rfl)) (fun _ _ _ h => h) (Or.inr ⟨by rfl, rfl⟩) ?_ ?_; rotate_left
            ·simp only [Act.put, Sa24, Sb24, Sc24, Zk, Zl]; rfl
            refine Zm (i := 12) (N := some 83) (v := undef) (a' := ?_) (Bm24 24 8191) rfl rfl (Zj HT_.out (by kernel_rfl)) (fun _ _ _ h => h) (Or.inr ⟨by rfl, rfl⟩) ?_ ?_; rotate_left
            ·simp only [Act.put, Sa24, Sb24, Sc24, Zk, Zl]; rfl
            refine Zm (i := 13) (N := some 84) (v := undef) (a' := ?_) (Bm24 24 16383) rfl rfl (Zj HT_.out (by kernel_rfl)) (fun _ _ _ h => h) (Or.inr ⟨by rfl, rfl⟩) ?_ ?_; rotate_left
            ·simp only [Act.put, Sa24, Sb24, Sc24, Zk, Zl]; rfl
            refine Zm (i := 14) (N := some 85) (v := undef) (a' := ?_) (Bm24 24 32767) rfl rfl (Zj HT_.out (by kernel_rfl)) (fun _ _ _ h => h) (Or.inr ⟨by rfl, rfl⟩) ?_ ?_; rotate_left
            ·simp only [Act.put, Sa24, Sb24, Sc24, Zk, Zl]; rfl
            refine Zm (i := 15) (N := some 86) (v := undef) (a' := ?_) (Bm24 24 65535) rfl rfl (Zj HT_.out (by kernel_rfl)) (fun _ _ _ h => h) (Or.inr ⟨by rfl, rfl⟩) ?_ ?_; rotate_left
            ·simp only [Act.put, Sa24, Sb24, Sc24, Zk, Zl]; rfl
            refine Zm (i := 16) (N := some 87) (v := undef) (a' := ?_) (Bm24 24 131071) rfl rfl (Zj HT_.out (by kernel_rfl)) (fun _ _ _ h => h) (Or.inr ⟨by rfl, rfl⟩) ?_ ?_; rotate_left
            ·simp only [Act.put, Sa24, Sb24, Sc24, Zk, Zl]; rfl
            refine Zm (i := 17) (N := some 88) (v := ?_) (a' := ?_) (Bm24 24 262143) rfl rfl (Zj HT_.out (by kernel_rfl)) (fun _ _ _ h => h) (Or.inl ⟨by rfl, ?_⟩) ?_ ?_; rotate_left
            ·intro w'; go_simp; with_reducible rfl
            rotate_left
            ·simp only [Act.put, Sa24, Sb24, Sc24, Zk, Zl]; rfl
            refine Zm (i := 18) (N := some 89) (v := ?_) (a' := ?_) (Bm24 24 524287) rfl rfl (Zj HT_.out (by kernel_rfl)) (fun _ _ _ h => h) (Or.inl ⟨by rfl, ?_⟩) ?_ ?_; rotate_left
            ·intro w'; go_simp; with_reducible rfl
            rotate_left
            ·simp only [Act.put, Sa24, Sb24, Sc24, Zk, Zl]; rfl
            refine Zm (i := 19) (N := some 90) (v := undef) (a' := ?_) (Bm24 24 1048575) rfl rfl (Zj HT_.out (by kernel_rfl)) (fun _ _ _ h => h) (Or.inr ⟨by rfl, rfl⟩) ?_ ?_; rotate_left
            ·simp only [Act.put, Sa24, Sb24, Sc24, Zk, Zl]; rfl
            refine Zm (i := 20) (N := some 91) (v := undef) (a' := ?_) (Bm24 24 2097151) rfl rfl (Zj HT_.out (by kernel_rfl)) (fun _ _ _ h => h) (Or.inr ⟨by rfl, rfl⟩) ?_ ?_; rotate_left
            ·simp only [Act.put, Sa24, Sb24, Sc24, Zk, Zl]; rfl
            refine Zm (i := 21) (N := some 92) (v := undef) (a' := ?_) (Bm24 24 4194303) rfl rfl (Zj HT_.out (by kernel_rfl)) (fun _ _ _ h => h) (Or.inr ⟨by rfl, rfl⟩) ?_ ?_; rotate_left
            ·simp only [Act.put, Sa24, Sb24, Sc24, Zk, Zl]; rfl
            refine Zm (i := 22) (N := some 93) (v := undef) (a' := ?_) (Bm24 24 8388607) rfl rfl (Zj HT_.out (by kernel_rfl)) (fun _ _ _ h => h) (Or.inr ⟨by rfl, rfl⟩) ?_ ?_; rotate_left
            ·simp only [Act.put, Sa24, Sb24, Sc24, Zk, Zl]; rfl
            refine Zm (i := 23) (N := some 94) (v := ?_) (a' := ?_) (Bm24 24 16777215) rfl rfl (Zj HT_.out (by kernel_rfl)) (fun _ _ _ h => h) (Or.inl ⟨by rfl, ?_⟩) ?_ ?_; rotate_left
            ·intro w'; go_simp; with_reducible rfl
            rotate_left
            ·simp only [Act.put, Sa24, Sb24, Sc24, Zk, Zl]; rfl
            refine done_ (done_of HT_.out (by kernel_rfl)) ?_; try go_wp2
            go_meet
            case rel => exact ⟨_, (true), (by first | rfl | (simp; done) | (simp [*]; done)), H', ⟨by have := HJ2.out; have := HK2.out; have := HK3.out; first | omega | exact Nat.le_refl _⟩, ⟨by (with_reducible repeat (first | apply Kd.S_alloc | apply Kd.S_drewN | apply Kd.S_drew)); exact HO_4.out⟩, ⟨by (with_reducible repeat (first | refine Zh ?_ _ | refine Zi ?_ | refine Zf ?_ _)); exact BK101.out⟩, ⟨by (with_reducible repeat (first | refine Zh ?_ _ | refine Zi ?_ | refine Zf ?_ _)); exact BK111.out⟩, ⟨by repeat (first | (with_reducible first | exact HB.out | apply Ze | apply Za | apply Zd | refine Zg ?_ GE101.out | refine Zg ?_ GE111.out) | exact HB.out)⟩⟩
          case rest =>
           clear HC33; obtain ⟨kq, x94_32, rfl, HA, HJ32, HO_4, BK101, BK111, HB⟩ := hcut; cases kq with
           | zero => exact absurd HA.out (by simp [spec_GoodSnap.j4])
           | succ kj32 =>
            have H := HA.out; clear HA; simp only [spec_GoodSnap.j4] at H; by_cases c49 : x94_32 = true
            ·subst c49; rw [if_pos rfl] at H; obtain rfl := Option.some.inj H; go_wp2
             go_ret
             exact ⟨by first | rfl | (simp [errW_none, errW_some] <;> rfl) | (simp [*, errW_none, errW_some] <;> rfl), by repeat (first | (with_reducible first | exact HB.out | apply Ze | apply Za | apply Zd | refine Zg ?_ GE101.out | refine Zg ?_ GE111.out) | exact HB.out)⟩
            ·replace c49 := Bool.eq_false_iff.mpr c49; subst c49; rw [if_neg (show ¬ (false = true) by decide)] at H; have H' := Aside0.mk H; clear H; have hnb50 := NB111_101.out; have hnc50 := NB101_111.out; have hcz51_0 : wc.cell? ⟨gb111, 0, none⟩ = some (.int .i64 ((rd_T94 l0_1 x66_3).f0)) := (Zb BK111.out 0).trans rfl; have hcz51_1 : wc.cell? ⟨gb111, 1, none⟩ = some (.int .i64 ((rd_T94 l0_1 x66_3).f1)) := (Zb BK111.out 1).trans rfl; have hcz51_2 : wc.cell? ⟨gb111, 2, none⟩ = some (.slice A110_2 ((rd_T94 l0_1 x66_3).f2).length c110_2) := (Zb BK111.out 2).trans rfl; have hfz51_0 := Zc BK111.out 0; have hfz51_1 := Zc BK111.out 1; have hfz51_2 := Zc BK111.out 2; go_wp2
             go_loopg [98] kj32 (fun kq v98 w' => ∃ (x98_5 : Int), v98 = .int .i64 x98_5 ∧ Aside0 (spec_GoodSnap.l2 kq t102 x5_2 l0_1 (l0_1.length : Int) x66_3 ((rd_T94 l0_1 x66_3).f2) (((rd_T94 l0_1 x66_3).f2).length : Int) x98_5 l0_0 l0_1 l0_2 a0_3 a0_4 ((rd_T94 l0_1 x66_3).f0) ((rd_T94 l0_1 x66_3).f1) ((rd_T94 l0_1 x66_3).f2) = some r) ∧ Aside0 (kq ≤ kj32) ∧ Aside0 (Kd.S k94 94 w' w.heap.size (fun k_ => k_ ≠ gb111) v103 t102) ∧ Aside0 (w'.heap[gb101]? = some (.cells #[(.slice A0_0 l0_0.length c0_0), (.slice (some ad110) l0_1.length c0_1), (.slice A0_2 l0_2.length c0_2), .int .i64 a0_3, .int .i64 a0_4] 35 (0, 0))) ∧ Aside0 (w'.heap[gb111]? = some (.cells #[.int .i64 ((rd_T94 l0_1 x66_3).f0), .int .i64 ((rd_T94 l0_1 x66_3).f1), (.slice A110_2 ((rd_T94 l0_1 x66_3).f2).length c110_2)] 94 (0, 0))) ∧ Aside0 (Below w.heap.size w w'))
             case atStart => exact ⟨(0), (by first | rfl | (simp; done) | (simp [*]; done)), H', ⟨Nat.le_refl _⟩, ⟨by (with_reducible repeat (first | apply Kd.S_alloc | apply Kd.S_drewN | apply Kd.S_drew)); exact HO_4.out⟩, ⟨by (with_reducible repeat (first | refine Zh ?_ _ | refine Zi ?_ | refine Zf ?_ _)); exact BK101.out⟩, ⟨by (with_reducible repeat (first | refine Zh ?_ _ | refine Zi ?_ | refine Zf ?_ _)); exact BK111.out⟩, ⟨by repeat (first | (with_reducible first | exact HB.out | apply Ze | apply Za | apply Zd | refine Zg ?_ GE101.out | refine Zg ?_ GE111.out) | exact HB.out)⟩⟩
             case round =>
              clear H'; try clear c49
              try clear hcz51_0
              try clear hcz51_1
              try clear hcz51_2
              try clear hfz51_0
              try clear hfz51_1
              try clear hfz51_2
              obtain ⟨x98_5, rfl, HA, HK5, HO_4, BK101, BK111, HB⟩ := hrel; cases gk with
              | zero => exact absurd HA.out (by simp [spec_GoodSnap.l2])
              | succ k5 =>
               have H := HA.out; clear HA; simp only [spec_GoodSnap.l2] at H; by_cases c52 : x98_5 < (((rd_T94 l0_1 x66_3).f2).length : Int)
               ·rw [if_pos c52] at H; have c52b0 : decide (x98_5 < (((rd_T94 l0_1 x66_3).f2).length : Int)) = true := decide_eq_true c52; clear c52; by_cases c53 : 0 ≤ x98_5
                case neg => rw [if_neg c53] at H; exact absurd H (by simp)
                rw [if_pos c53] at H; have c53b0 : decide (0 ≤ x98_5) = true := decide_eq_true c53; clear c53; by_cases c54 : x98_5 < (((rd_T94 l0_1 x66_3).f2).length : Int)
                case neg => rw [if_neg c54] at H; exact absurd H (by simp)
                rw [if_pos c54] at H; have c54b0 : decide (x98_5 < (((rd_T94 l0_1 x66_3).f2).length : Int)) = true := decide_eq_true c54; clear c54; replace H := Option.bind_eq_some_iff.mp H; obtain ⟨t115, A550, H⟩ := H; have A55 := Aside0.mk A550; clear A550; by_cases c56 : t115 = true
                ·subst c56; rw [if_pos rfl] at H; have H' := Aside0.mk H; clear H; have p114 : 0 ≤ (x98_5 : Int) := of_decide_eq_true (by assumption); have q114 : x98_5 < (((rd_T94 l0_1 x66_3).f2).length : Int) := of_decide_eq_true (by assumption); obtain ⟨ad114, e114, hx114_0⟩ := Kd.at_int HR110_2.out x98_5 p114 q114; cases e114; replace hx114_0 := (HB.out.cell (World.block_lt_of_cell? w _ hx114_0)).trans hx114_0; replace p114 := eq_true p114; replace q114 := eq_true q114; go_wp2_with (first | ((with_reducible refine Zp (f := 43) rfl ?_); refine Zw (some 103) rfl rfl Try.func43 (by kernel_rfl) rfl #[.int .i64 (rd ((rd_T94 l0_1 x66_3).f2) x98_5), .int .i64 0, .int .i64 1000] rfl (by (try simp only [List.map_toArray, List.map_cons, List.map_nil]); first | done | rfl | (simp only [List.length_drop, List.length_take]; rfl)) ?_; (with_reducible refine (spec_l1In.calls (rd ((rd_T94 l0_1 x66_3).f2) x98_5) 0 1000 true _ A55.out).mono ?_); rintro e w' ⟨rfl, ⟨nd, rfl⟩⟩; refine ⟨_, rfl, ?_⟩)); go_roundg k5
                 case measure => have := HJ2.out; have := HK2.out; have := HK3.out; have := HJ32.out; have := HK5.out; omega
                 case rel => exact ⟨(wrap64 (x98_5 + 1)), (by first | rfl | (simp; done) | (simp [*]; done)), H', ⟨by have := HJ2.out; have := HK2.out; have := HK3.out; have := HJ32.out; have := HK5.out; omega⟩, ⟨by (with_reducible repeat (first | apply Kd.S_alloc | apply Kd.S_drewN | apply Kd.S_drew)); exact HO_4.out⟩, ⟨by (with_reducible repeat (first | refine Zh ?_ _ | refine Zi ?_ | refine Zf ?_ _)); exact BK101.out⟩, ⟨by (with_reducible repeat (first | refine Zh ?_ _ | refine Zi ?_ | refine Zf ?_ _)); exact BK111.out⟩, ⟨by repeat (first | (with_reducible first | exact HB.out | apply Ze | apply Za | apply Zd | refine Zg ?_ GE101.out | refine Zg ?_ GE111.out) | exact HB.out)⟩⟩
                ·replace c56 := Bool.eq_false_iff.mpr c56; subst c56; rw [if_neg (show ¬ (false = true) by decide)] at H; obtain rfl := Option.some.inj H; have p114 : 0 ≤ (x98_5 : Int) := of_decide_eq_true (by assumption); have q114 : x98_5 < (((rd_T94 l0_1 x66_3).f2).length : Int) := of_decide_eq_true (by assumption); obtain ⟨ad114, e114, hx114_0⟩ := Kd.at_int HR110_2.out x98_5 p114 q114; cases e114; replace hx114_0 := (HB.out.cell (World.block_lt_of_cell? w _ hx114_0)).trans hx114_0; replace p114 := eq_true p114; replace q114 := eq_true q114; go_wp2_with (first | ((with_reducible refine Zp (f := 43) rfl ?_); refine Zw (some 103) rfl rfl Try.func43 (by kernel_rfl) rfl #[.int .i64 (rd ((rd_T94 l0_1 x66_3).f2) x98_5), .int .i64 0, .int .i64 1000] rfl (by (try simp only [List.map_toArray, List.map_cons, List.map_nil]); first | done | rfl | (simp only [List.length_drop, List.length_take]; rfl)) ?_; (with_reducible refine (spec_l1In.calls (rd ((rd_T94 l0_1 x66_3).f2) x98_5) 0 1000 false _ A55.out).mono ?_); rintro e w' ⟨rfl, ⟨nd, rfl⟩⟩; refine ⟨_, rfl, ?_⟩)); go_ret
                 exact ⟨by first | rfl | (simp [errW_none, errW_some] <;> rfl) | (simp [*, errW_none, errW_some] <;> rfl), by repeat (first | (with_reducible first | exact HB.out | apply Ze | apply Za | apply Zd | refine Zg ?_ GE101.out | refine Zg ?_ GE111.out) | exact HB.out)⟩
               ·rw [if_neg c52] at H; have c52b0 : decide (x98_5 < (((rd_T94 l0_1 x66_3).f2).length : Int)) = false := decide_eq_false c52; clear c52; replace H := Option.bind_eq_some_iff.mp H; obtain ⟨t116, A570, H⟩ := H; have A57 := Aside0.mk A570; clear A570; by_cases c58 : 0 ≤ ((rd_T94 l0_1 x66_3).f1)
                case neg => rw [if_neg c58] at H; exact absurd H (by simp)
                rw [if_pos c58] at H; have c58b0 : decide (0 ≤ ((rd_T94 l0_1 x66_3).f1)) = true := decide_eq_true c58; clear c58; by_cases c59 : ((rd_T94 l0_1 x66_3).f1) < (l0_2.length : Int)
                case neg => rw [if_neg c59] at H; exact absurd H (by simp)
                rw [if_pos c59] at H; have c59b0 : decide (((rd_T94 l0_1 x66_3).f1) < (l0_2.length : Int)) = true := decide_eq_true c59; clear c59; by_cases c60 : 0 ≤ ((rd_T94 l0_1 x66_3).f0)
                case neg => rw [if_neg c60] at H; exact absurd H (by simp)
                rw [if_pos c60] at H; have c60b0 : decide (0 ≤ ((rd_T94 l0_1 x66_3).f0)) = true := decide_eq_true c60; clear c60; by_cases c61 : ((rd_T94 l0_1 x66_3).f0) < (((rd_T76 l0_2 ((rd_T94 l0_1 x66_3).f1)).f3).length : Int)
                case neg => rw [if_neg c61] at H; exact absurd H (by simp)
                rw [if_pos c61] at H; have c61b0 : decide (((rd_T94 l0_1 x66_3).f0) < (((rd_T76 l0_2 ((rd_T94 l0_1 x66_3).f1)).f3).length : Int)) = true := decide_eq_true c61; clear c61; have HC62 := Aside0.mk H; clear H; have hnb63 := NB111_101.out; have hnc63 := NB101_111.out; have hcz64_0 : wr.cell? ⟨gb111, 0, none⟩ = some (.int .i64 ((rd_T94 l0_1 x66_3).f0)) := (Zb BK111.out 0).trans rfl; have hcz64_1 : wr.cell? ⟨gb111, 1, none⟩ = some (.int .i64 ((rd_T94 l0_1 x66_3).f1)) := (Zb BK111.out 1).trans rfl; have hcz64_2 : wr.cell? ⟨gb111, 2, none⟩ = some (.slice A110_2 ((rd_T94 l0_1 x66_3).f2).length c110_2) := (Zb BK111.out 2).trans rfl; have hfz64_0 := Zc BK111.out 0; have hfz64_1 := Zc BK111.out 1; have hfz64_2 := Zc BK111.out 2; try go_wp2_with (first | ((with_reducible refine Zp (f := 71) rfl ?_); refine Zw (some 107) rfl rfl Try.func71 (by kernel_rfl) rfl #[.agg #[.int .i64 ((rd_T94 l0_1 x66_3).f0), .int .i64 ((rd_T94 l0_1 x66_3).f1), .slice A110_2 ((rd_T94 l0_1 x66_3).f2).length c110_2]] rfl (by (try simp only [List.map_toArray, List.map_cons, List.map_nil]); first | done | rfl | (simp only [List.length_drop, List.length_take]; rfl)) ?_; (with_reducible refine (spec_l8Marks.calls k5 ((rd_T94 l0_1 x66_3).f0) ((rd_T94 l0_1 x66_3).f1) _ _ ((rd_T94 l0_1 x66_3).f2) t116 _ ?side1 ?side2 A57.out).mono ?_); (case side1 => repeat (first | exact (Kd.C_below HR110_2.out HB.out) | (with_reducible refine Kd.C_alloc ?_ _) | (with_reducible refine Kd.C_drewN ?_ _) | (with_reducible refine Kd.C_drew ?_))); (case side2 => exact HC110_2.out); rintro e w65 ⟨rfl, hb⟩; refine ⟨_, rfl, ?_⟩; have n0_ := Aside0.mk (Kd.S_below (by (with_reducible repeat (first | apply Kd.S_alloc | apply Kd.S_drewN | apply Kd.S_drew)); exact HO_4.out) hb); have n1_ := Aside0.mk (Zq (g := gb101) (o := .cells #[.slice A0_0 l0_0.length c0_0, .slice (some ad110) l0_1.length c0_1, .slice A0_2 l0_2.length c0_2, .int .i64 a0_3, .int .i64 a0_4] 35 (0, 0)) (by (with_reducible repeat (first | refine Zh ?_ _ | refine Zi ?_ | refine Zf ?_ _)); exact BK101.out) hb); have n2_ := Aside0.mk (Zq (g := gb111) (o := .cells #[.int .i64 ((rd_T94 l0_1 x66_3).f0), .int .i64 ((rd_T94 l0_1 x66_3).f1), .slice A110_2 ((rd_T94 l0_1 x66_3).f2).length c110_2] 94 (0, 0)) (by (with_reducible repeat (first | refine Zh ?_ _ | refine Zi ?_ | refine Zf ?_ _)); exact BK111.out) hb); have n3_ := Aside0.mk (Zo (by repeat (first | (with_reducible first | exact HB.out | apply Ze | apply Za | apply Zd | refine Zg ?_ GE101.out | refine Zg ?_ GE111.out) | exact HB.out)) hb); clear HO_4; clear BK101; clear BK111; clear HB; have HO_4 := n0_; have BK101 := n1_; have BK111 := n2_; have HB := n3_; clear n0_ n1_ n2_ n3_; (try clear hb)))
                have n0_ := Aside0.mk (Kd.S_drew HO_4.out); have n1_ := Aside0.mk (Zi BK101.out); have n2_ := Aside0.mk (Zi BK111.out); have n3_ := Aside0.mk (Zd HB.out); clear HO_4; clear BK101; clear BK111; clear HB; have HO_4 := n0_; have BK101 := n1_; have BK111 := n2_; have HB := n3_; clear n0_ n1_ n2_ n3_; have p117 : 0 ≤ (((rd_T94 l0_1 x66_3).f1) : Int) := of_decide_eq_true (by assumption); have q117 : ((rd_T94 l0_1 x66_3).f1) < (l0_2.length : Int) := of_decide_eq_true (by assumption); obtain ⟨ad117, A117_2, c117_2, A117_3, c117_3, e117, hx117_0, hx117_1, hx117_2, hx117_3, hl117_2, hi117_2, hl117_3, hi117_3⟩ := at_T76 HR0_2.out ((rd_T94 l0_1 x66_3).f1) p117 q117; have hw117_3 := hx117_3; have hw117_2 := hx117_2; have hw117_1 := hx117_1; have hw117_0 := hx117_0; cases e117; replace hx117_0 := (HB.out.cell (World.block_lt_of_cell? w _ hx117_0)).trans hx117_0; replace hx117_1 := (HB.out.cell (World.block_lt_of_cell? w _ hx117_1)).trans hx117_1; replace hx117_2 := (HB.out.cell (World.block_lt_of_cell? w _ hx117_2)).trans hx117_2; replace hx117_3 := (HB.out.cell (World.block_lt_of_cell? w _ hx117_3)).trans hx117_3; have HR117_2 := Aside0.mk hi117_2; have HC117_2 := Aside0.mk hl117_2; clear hi117_2 hl117_2; have HR117_3 := Aside0.mk hi117_3; have HC117_3 := Aside0.mk hl117_3; clear hi117_3 hl117_3; replace p117 := eq_true p117; replace q117 := eq_true q117; have p118 : 0 ≤ (((rd_T94 l0_1 x66_3).f0) : Int) := of_decide_eq_true (by assumption); have q118 : ((rd_T94 l0_1 x66_3).f0) < (((rd_T76 l0_2 ((rd_T94 l0_1 x66_3).f1)).f3).length : Int) := of_decide_eq_true (by assumption); obtain ⟨ad118, e118, hx118_0⟩ := Kd.at_bool HR117_3.out ((rd_T94 l0_1 x66_3).f0) p118 q118; have hw118_0 := hx118_0; cases e118; replace hx118_0 := (HB.out.cell (World.block_lt_of_cell? w _ hx118_0)).trans hx118_0; replace p118 := eq_true p118; replace q118 := eq_true q118; refine start_ (n := 11) (S := fun w' => w'.cell? ⟨gb101, 0, none⟩ = some (.slice A0_0 l0_0.length c0_0) ∧ w'.cell? ⟨gb101, 1, none⟩ = some (.slice (some ad110) l0_1.length c0_1) ∧ w'.cell? ⟨gb101, 2, none⟩ = some (.slice (some ad117) l0_2.length c0_2) ∧ w'.cell? ⟨gb101, 3, none⟩ = some (.int .i64 a0_3) ∧ w'.cell? ⟨gb101, 4, none⟩ = some (.int .i64 a0_4) ∧ w'.cell? ⟨gb111, 0, none⟩ = some (.int .i64 ((rd_T94 l0_1 x66_3).f0)) ∧ w'.cell? ⟨gb111, 1, none⟩ = some (.int .i64 ((rd_T94 l0_1 x66_3).f1)) ∧ w'.cell? ⟨gb111, 2, none⟩ = some (.slice A110_2 ((rd_T94 l0_1 x66_3).f2).length c110_2) ∧ w'.cell? (ad117.add ((((rd_T94 l0_1 x66_3).f1)).toNat * 4)) = some (.bool ((rd_T76 l0_2 ((rd_T94 l0_1 x66_3).f1)).f0)) ∧ w'.cell? ⟨(ad117.add ((((rd_T94 l0_1 x66_3).f1)).toNat * 4)).block, (ad117.add ((((rd_T94 l0_1 x66_3).f1)).toNat * 4)).off + 1, none⟩ = some (.int .i64 ((rd_T76 l0_2 ((rd_T94 l0_1 x66_3).f1)).f1)) ∧ w'.cell? ⟨(ad117.add ((((rd_T94 l0_1 x66_3).f1)).toNat * 4)).block, (ad117.add ((((rd_T94 l0_1 x66_3).f1)).toNat * 4)).off + 2, none⟩ = some (.slice A117_2 ((rd_T76 l0_2 ((rd_T94 l0_1 x66_3).f1)).f2).length c117_2) ∧ w'.cell? ⟨(ad117.add ((((rd_T94 l0_1 x66_3).f1)).toNat * 4)).block, (ad117.add ((((rd_T94 l0_1 x66_3).f1)).toNat * 4)).off + 3, none⟩ = some (.slice (some ad118) ((rd_T76 l0_2 ((rd_T94 l0_1 x66_3).f1)).f3).length c117_3) ∧ w'.cell? (ad118.add (((rd_T94 l0_1 x66_3).f0)).toNat) = some (.bool (rdOf false ((rd_T76 l0_2 ((rd_T94 l0_1 x66_3).f1)).f3) ((rd_T94 l0_1 x66_3).f0)))) (ds := []) #[false, false, false, false, false, false, false, false, false, false, false] (by kernel_rfl) rfl rfl ⟨(Zb BK101.out 0).trans rfl, (Zb BK101.out 1).trans rfl, (Zb BK101.out 2).trans rfl, (Zb BK101.out 3).trans rfl, (Zb BK101.out 4).trans rfl, (Zb BK111.out 0).trans rfl, (Zb BK111.out 1).trans rfl, (Zb BK111.out 2).trans rfl, ((HB.out.cell (World.block_lt_of_cell? w _ hw117_0)).trans hw117_0), ((HB.out.cell (World.block_lt_of_cell? w _ hw117_1)).trans hw117_1), ((HB.out.cell (World.block_lt_of_cell? w _ hw117_2)).trans hw117_2), ((HB.out.cell (World.block_lt_of_cell? w _ hw117_3)).trans hw117_3), ((HB.out.cell (World.block_lt_of_cell? w _ hw118_0)).trans hw118_0)⟩ (fun hHeld => ?_); refine with_tabW spec_GoodSnap.tab25 spec_GoodSnap.bits25 (fun HT_ HW_ => ?_)
                generalize w65.drew = w66 at HO_4 BK101 BK111 HB HR117_2 HR117_3 hx117_0 hx117_1 hx117_2 hx117_3 hx118_0 hHeld ⊢; refine Zm (i := 0) (N := some 108) (v := ?_) (a' := ?_) (Bm24 11 1) rfl rfl (Zj HT_.out (by kernel_rfl)) (fun _ _ _ h => h) (Or.inl ⟨by rfl, ?_⟩) ?_ ?_; rotate_left
                ·intro w'; go_simp; with_reducible rfl
                rotate_left
                ·simp only [Act.put, Sa24, Sb24, Sc24, Zk, Zl]; rfl
                refine Zm (i := 2) (N := some 110) (v := ?_) (a' := ?_) (Bm24 11 5) rfl rfl (Zj HT_.out (by kernel_rfl)) (fun _ _ _ h => h) (Or.inl ⟨by rfl, ?_⟩) ?_ ?_; rotate_left
                ·intro w'; go_simp; with_reducible rfl
                rotate_left
                ·simp only [Act.put, Sa24, Sb24, Sc24, Zk, Zl]; rfl
                refine Zm (i := 7) (N := some 115) (v := ?_) (a' := ?_) (Bm24 11 133) rfl rfl (Zj HT_.out (by kernel_rfl)) (fun _ _ _ h => h) (Or.inl ⟨by rfl, ?_⟩) ?_ ?_; rotate_left
                ·intro w'; go_simp; with_reducible rfl
                rotate_left
                ·simp only [Act.put, Sa24, Sb24, Sc24, Zk, Zl]; rfl
                refine take_ (i := 1) (N := some 109) (v := ?_) (a' := ?_) (Bm24 11 135) rfl rfl (Zr HT_.out HW_.out (by kernel_rfl)) (fun _ _ _ h => h) (Or.inl ⟨by rfl, ?_⟩) hHeld ?_ ?_; rotate_left
                ·rintro w' ⟨s0, s1, s2, s3, s4, s5, s6, s7, s8, s9, s10, s11, s12⟩
                 go_simp; with_reducible rfl
                rotate_left
                ·simp only [Act.put, Sa24, Sb24, Sc24, Zk, Zl]; rfl
                refine take_ (i := 3) (N := some 111) (v := ?_) (a' := ?_) (Bm24 11 143) rfl rfl (Zr HT_.out HW_.out (by kernel_rfl)) (fun _ _ _ h => h) (Or.inl ⟨by rfl, ?_⟩) hHeld ?_ ?_; rotate_left
                ·rintro w' ⟨s0, s1, s2, s3, s4, s5, s6, s7, s8, s9, s10, s11, s12⟩
                 go_simp; with_reducible rfl
                rotate_left
                ·simp only [Act.put, Sa24, Sb24, Sc24, Zk, Zl]; rfl
                refine Zm (i := 4) (N := some 112) (v := ?_) (a' := ?_) (Bm24 11 159) rfl rfl (Zj HT_.out (by kernel_rfl)) (fun _ _ _ h => h) (Or.inl ⟨by rfl, ?_⟩) ?_ ?_; rotate_left
                ·intro w'; go_simp; with_reducible rfl
                rotate_left
                ·simp only [Act.put, Sa24, Sb24, Sc24, Zk, Zl]; rfl
                refine Zm (i := 5) (N := some 113) (v := ?_) (a' := ?_) (Bm24 11 191) rfl rfl (Zj HT_.out (by kernel_rfl)) (fun _ _ _ h => h) (Or.inl ⟨by rfl, ?_⟩) ?_ ?_; rotate_left
                ·intro w'; go_simp; with_reducible rfl
                rotate_left
                ·simp only [Act.put, Sa24, Sb24, Sc24, Zk, Zl]; rfl
                refine take_ (i := 6) (N := some 114) (v := ?_) (a' := ?_) (Bm24 11 255) rfl rfl (Zr HT_.out HW_.out (by kernel_rfl)) (fun _ _ _ h => h) (Or.inl ⟨by rfl, ?_⟩) hHeld ?_ ?_; rotate_left
                ·rintro w' ⟨s0, s1, s2, s3, s4, s5, s6, s7, s8, s9, s10, s11, s12⟩
                 go_simp; with_reducible rfl
                rotate_left
                ·simp only [Act.put, Sa24, Sb24, Sc24, Zk, Zl]; rfl
                refine take_ (i := 8) (N := some 116) (v := ?_) (a' := ?_) (Bm24 11 511) rfl rfl (Zr HT_.out HW_.out (by kernel_rfl)) (fun _ _ _ h => h) (Or.inl ⟨by rfl, ?_⟩) hHeld ?_ ?_; rotate_left
                ·rintro w' ⟨s0, s1, s2, s3, s4, s5, s6, s7, s8, s9, s10, s11, s12⟩
                 go_simp; with_reducible rfl
                rotate_left
                ·simp only [Act.put, Sa24, Sb24, Sc24, Zk, Zl]; rfl
                refine Zm (i := 9) (N := some 117) (v := ?_) (a' := ?_) (Bm24 11 1023) rfl rfl (Zj HT_.out (by kernel_rfl)) (fun _ _ _ h => h) (Or.inl ⟨by rfl, ?_⟩) ?_ ?_; rotate_left
                ·intro w'; go_simp; with_reducible rfl
                rotate_left
                ·simp only [Act.put, Sa24, Sb24, Sc24, Zk, Zl]; rfl
                refine take_ (i := 10) (N := some 118) (v := ?_) (a' := ?_) (Bm24 11 2047) rfl rfl (Zr HT_.out HW_.out (by kernel_rfl)) (fun _ _ _ h => h) (Or.inl ⟨by rfl, ?_⟩) hHeld ?_ ?_; rotate_left
                ·rintro w' ⟨s0, s1, s2, s3, s4, s5, s6, s7, s8, s9, s10, s11, s12⟩
                 go_simp; with_reducible rfl
                rotate_left
                ·simp only [Act.put, Sa24, Sb24, Sc24, Zk, Zl]; rfl
                refine done_ (done_of HT_.out (by kernel_rfl)) ?_; go_upto_if 118 with (fail)
                go_cut [12] (fun v12 wc => ∃ (kq : Nat) (x12_61 : Int), v12 = .int .i64 x12_61 ∧ Aside0 (spec_GoodSnap.j6 kq t102 x5_2 x12_61 l0_1 (l0_1.length : Int) x66_3 l0_0 l0_1 l0_2 a0_3 a0_4 ((rd_T94 l0_1 x66_3).f0) ((rd_T94 l0_1 x66_3).f1) ((rd_T94 l0_1 x66_3).f2) = some r) ∧ Aside0 (kq ≤ k5) ∧ Aside0 (Kd.S k94 94 wc w.heap.size (fun k_ => k_ ≠ gb111) v103 t102) ∧ Aside0 (wc.heap[gb101]? = some (.cells #[(.slice A0_0 l0_0.length c0_0), (.slice (some ad110) l0_1.length c0_1), (.slice (some ad117) l0_2.length c0_2), .int .i64 a0_3, .int .i64 a0_4] 35 (0, 0))) ∧ Aside0 (wc.heap[gb111]? = some (.cells #[.int .i64 ((rd_T94 l0_1 x66_3).f0), .int .i64 ((rd_T94 l0_1 x66_3).f1), (.slice A110_2 ((rd_T94 l0_1 x66_3).f2).length c110_2)] 94 (0, 0))) ∧ Aside0 (Below w.heap.size w wc))
                case first =>
                 have H := HC62.out; clear HC62; obtain ⟨bq67, hbq67⟩ : ∃ b_ : Bool, b_ = (rdOf false ((rd_T76 l0_2 ((rd_T94 l0_1 x66_3).f1)).f3) ((rd_T94 l0_1 x66_3).f0)) := ⟨_, rfl⟩
                 replace H : (if bq67 = true then (spec_GoodSnap.j6 k5 t102 x5_2 (wrap64 (t116 + 1)) l0_1 (l0_1.length : Int) x66_3 l0_0 l0_1 l0_2 a0_3 a0_4 ((rd_T94 l0_1 x66_3).f0) ((rd_T94 l0_1 x66_3).f1) ((rd_T94 l0_1 x66_3).f2)) else (spec_GoodSnap.j6 k5 t102 x5_2 t116 l0_1 (l0_1.length : Int) x66_3 l0_0 l0_1 l0_2 a0_3 a0_4 ((rd_T94 l0_1 x66_3).f0) ((rd_T94 l0_1 x66_3).f1) ((rd_T94 l0_1 x66_3).f2))) = some r := by rw [← hbq67] at H; exact H
                 have Nbq67 := Aside0.mk hbq67; clear hbq67
                 (try rw [← Nbq67.out])
                 by_cases c68 : bq67 = true
                 ·subst c68; rw [if_pos rfl] at H; have H' := Aside0.mk H; clear H; go_wp2
                  go_meet
                  case rel => (try simp only [← Nbq67.out]); exact ⟨_, (wrap64 (t116 + 1)), (by first | rfl | (simp; done) | (simp [*]; done)), H', ⟨by have := HJ2.out; have := HK2.out; have := HK3.out; have := HJ32.out; have := HK5.out; first | omega | exact Nat.le_refl _⟩, ⟨by (with_reducible repeat (first | apply Kd.S_alloc | apply Kd.S_drewN | apply Kd.S_drew)); exact HO_4.out⟩, ⟨by (with_reducible repeat (first | refine Zh ?_ _ | refine Zi ?_ | refine Zf ?_ _)); exact BK101.out⟩, ⟨by (with_reducible repeat (first | refine Zh ?_ _ | refine Zi ?_ | refine Zf ?_ _)); exact BK111.out⟩, ⟨by repeat (first | (with_reducible first | exact HB.out | apply Ze | apply Za | apply Zd | refine Zg ?_ GE101.out | refine Zg ?_ GE111.out) | exact HB.out)⟩⟩
                 ·replace c68 := Bool.eq_false_iff.mpr c68; subst c68; rw [if_neg (show ¬ (false = true) by decide)] at H; have H' := Aside0.mk H; clear H; go_wp2
                  go_meet
                  case rel => (try simp only [← Nbq67.out]); exact ⟨_, (t116), (by first | rfl | (simp; done) | (simp [*]; done)), H', ⟨by have := HJ2.out; have := HK2.out; have := HK3.out; have := HJ32.out; have := HK5.out; first | omega | exact Nat.le_refl _⟩, ⟨by (with_reducible repeat (first | apply Kd.S_alloc | apply Kd.S_drewN | apply Kd.S_drew)); exact HO_4.out⟩, ⟨by (with_reducible repeat (first | refine Zh ?_ _ | refine Zi ?_ | refine Zf ?_ _)); exact BK101.out⟩, ⟨by (with_reducible repeat (first | refine Zh ?_ _ | refine Zi ?_ | refine Zf ?_ _)); exact BK111.out⟩, ⟨by repeat (first | (with_reducible first | exact HB.out | apply Ze | apply Za | apply Zd | refine Zg ?_ GE101.out | refine Zg ?_ GE111.out) | exact HB.out)⟩⟩
                case rest =>
                 clear HC62; try clear c49
                 try clear c52
                 try clear c52b0
                 try clear c58
                 try clear c58b0
                 try clear c59
                 try clear c59b0
                 try clear c60
                 try clear c60b0
                 try clear c61
                 try clear c61b0
                 try clear hcz51_0
                 try clear hcz51_1
                 try clear hcz51_2
                 try clear hcz64_0
                 try clear hcz64_1
                 try clear hcz64_2
                 try clear hfz51_0
                 try clear hfz51_1
                 try clear hfz51_2
                 try clear hfz64_0
                 try clear hfz64_1
                 try clear hfz64_2
                 try clear hx117_0
                 try clear hx117_1
                 try clear hx117_2
                 try clear hx117_3
                 try clear hx118_0
                 try clear p117
                 try clear p118
                 try clear q117
                 try clear q118
                 obtain ⟨kq, x12_61, rfl, HA, HJ61, HO_4, BK101, BK111, HB⟩ := hcut; cases kq with
                 | zero => exact absurd HA.out (by simp [spec_GoodSnap.j6])
                 | succ kj61 =>
                  have H := HA.out; clear HA; simp only [spec_GoodSnap.j6] at H; have HC69 := Aside0.mk H; clear H; go_upto_region 27 with (fail)
                  go_cut [145] (fun v145 wc => ∃ (kq : Nat) (x145_68 : Bool), v145 = .bool x145_68 ∧ Aside0 (spec_GoodSnap.j7 kq t102 x5_2 l0_1 (l0_1.length : Int) x66_3 x145_68 l0_0 l0_1 l0_2 a0_3 a0_4 = some r) ∧ Aside0 (kq ≤ kj61) ∧ Aside0 (Kd.S k94 94 wc w.heap.size (fun k_ => k_ ≠ gb111) v103 t102) ∧ Aside0 (wc.heap[gb101]? = some (.cells #[(.slice A0_0 l0_0.length c0_0), (.slice (some ad110) l0_1.length c0_1), (.slice (some ad117) l0_2.length c0_2), .int .i64 a0_3, .int .i64 a0_4] 35 (0, 0))) ∧ Aside0 (wc.heap[gb111]? = some (.cells #[.int .i64 ((rd_T94 l0_1 x66_3).f0), .int .i64 ((rd_T94 l0_1 x66_3).f1), (.slice A110_2 ((rd_T94 l0_1 x66_3).f2).length c110_2)] 94 (0, 0))) ∧ Aside0 (Below w.heap.size w wc))
                  case first =>
                   have H := HC69.out; clear HC69; by_cases c70 : 0 ≤ ((rd_T94 l0_1 x66_3).f0)
                   case neg => rw [if_neg c70] at H; exact absurd H (by simp)
                   rw [if_pos c70] at H; have c70b0 : decide (0 ≤ ((rd_T94 l0_1 x66_3).f0)) = true := decide_eq_true c70; clear c70
                   (first | rw [c70b0] | (simp only [Zk, Zl]; rw [c70b0]) | skip)
                   by_cases c71 : ((rd_T94 l0_1 x66_3).f0) < (l0_2.length : Int)
                   case neg => rw [if_neg c71] at H; exact absurd H (by simp)
                   rw [if_pos c71] at H; have c71b0 : decide (((rd_T94 l0_1 x66_3).f0) < (l0_2.length : Int)) = true := decide_eq_true c71; clear c71; obtain ⟨bq72, hbq72⟩ : ∃ b_ : Bool, b_ = ((rd_T76 l0_2 ((rd_T94 l0_1 x66_3).f0)).f0) := ⟨_, rfl⟩
                   replace H : (if bq72 = true then (if x12_61 = 1 then (if (bq72 = true) then (spec_GoodSnap.j7 kj61 t102 x5_2 l0_1 (l0_1.length : Int) x66_3 false l0_0 l0_1 l0_2 a0_3 a0_4) else (spec_GoodSnap.j7 kj61 t102 x5_2 l0_1 (l0_1.length : Int) x66_3 (x12_61 != 0) l0_0 l0_1 l0_2 a0_3 a0_4)) else (spec_GoodSnap.j7 kj61 t102 x5_2 l0_1 (l0_1.length : Int) x66_3 true l0_0 l0_1 l0_2 a0_3 a0_4)) else (if (bq72 = true) then (spec_GoodSnap.j7 kj61 t102 x5_2 l0_1 (l0_1.length : Int) x66_3 false l0_0 l0_1 l0_2 a0_3 a0_4) else (spec_GoodSnap.j7 kj61 t102 x5_2 l0_1 (l0_1.length : Int) x66_3 (x12_61 != 0) l0_0 l0_1 l0_2 a0_3 a0_4))) = some r := by rw [← hbq72] at H; exact H
                   have Nbq72 := Aside0.mk hbq72; clear hbq72; by_cases c73 : bq72 = true
                   ·subst c73; rw [if_pos rfl] at H; by_cases c74 : x12_61 = 1
                    ·rw [if_pos c74] at H; have c74b0 : (x12_61 == 1) = true := beq_iff_eq.mpr c74; have c74b1 : (x12_61 != 1) = false := bne_eq_false_iff_eq.mpr c74; clear c74; by_cases c75 : (true = true)
                     ·clear c75; rw [if_pos rfl] at H; have H' := Aside0.mk H; clear H; have hnb76 := NB101_111.out; have hnc76 := NB111_101.out; have hcz77_0 : wc.cell? ⟨gb101, 0, none⟩ = some (.slice A0_0 l0_0.length c0_0) := (Zb BK101.out 0).trans rfl; have hcz77_1 : wc.cell? ⟨gb101, 1, none⟩ = some (.slice (some ad110) l0_1.length c0_1) := (Zb BK101.out 1).trans rfl; have hcz77_2 : wc.cell? ⟨gb101, 2, none⟩ = some (.slice (some ad117) l0_2.length c0_2) := (Zb BK101.out 2).trans rfl; have hcz77_3 : wc.cell? ⟨gb101, 3, none⟩ = some (.int .i64 a0_3) := (Zb BK101.out 3).trans rfl; have hcz77_4 : wc.cell? ⟨gb101, 4, none⟩ = some (.int .i64 a0_4) := (Zb BK101.out 4).trans rfl; have hfz77_0 := Zc BK101.out 0; have hfz77_1 := Zc BK101.out 1; have hfz77_2 := Zc BK101.out 2; have hfz77_3 := Zc BK101.out 3; have hfz77_4 := Zc BK101.out 4; have hcz78_0 : wc.cell? ⟨gb111, 0, none⟩ = some (.int .i64 ((rd_T94 l0_1 x66_3).f0)) := (Zb BK111.out 0).trans rfl; have hcz78_1 : wc.cell? ⟨gb111, 1, none⟩ = some (.int .i64 ((rd_T94 l0_1 x66_3).f1)) := (Zb BK111.out 1).trans rfl; have hcz78_2 : wc.cell? ⟨gb111, 2, none⟩ = some (.slice A110_2 ((rd_T94 l0_1 x66_3).f2).length c110_2) := (Zb BK111.out 2).trans rfl; have hfz78_0 := Zc BK111.out 0; have hfz78_1 := Zc BK111.out 1; have hfz78_2 := Zc BK111.out 2; have p119 : 0 ≤ (((rd_T94 l0_1 x66_3).f0) : Int) := of_decide_eq_true (by assumption); have q119 : ((rd_T94 l0_1 x66_3).f0) < (l0_2.length : Int) := of_decide_eq_true (by assumption); obtain ⟨ad119, A119_2, c119_2, A119_3, c119_3, e119, hx119_0, hx119_1, hx119_2, hx119_3, hl119_2, hi119_2, hl119_3, hi119_3⟩ := at_T76 HR0_2.out ((rd_T94 l0_1 x66_3).f0) p119 q119
                      (try rw [← Nbq72.out] at hx119_0)
                      obtain rfl : ad117 = ad119 := (by injection e119)
                      replace hx119_0 := (HB.out.cell (World.block_lt_of_cell? w _ hx119_0)).trans hx119_0; replace hx119_1 := (HB.out.cell (World.block_lt_of_cell? w _ hx119_1)).trans hx119_1; replace hx119_2 := (HB.out.cell (World.block_lt_of_cell? w _ hx119_2)).trans hx119_2; replace hx119_3 := (HB.out.cell (World.block_lt_of_cell? w _ hx119_3)).trans hx119_3; have HR119_2 := Aside0.mk hi119_2; have HC119_2 := Aside0.mk hl119_2; clear hi119_2 hl119_2; have HR119_3 := Aside0.mk hi119_3; have HC119_3 := Aside0.mk hl119_3; clear hi119_3 hl119_3; replace p119 := eq_true p119; replace q119 := eq_true q119; have p120 : 0 ≤ (((rd_T94 l0_1 x66_3).f0) : Int) := of_decide_eq_true (by assumption); have q120 : ((rd_T94 l0_1 x66_3).f0) < (l0_2.length : Int) := of_decide_eq_true (by assumption); obtain ⟨ad120, A120_2, c120_2, A120_3, c120_3, e120, hx120_0, hx120_1, hx120_2, hx120_3, hl120_2, hi120_2, hl120_3, hi120_3⟩ := at_T76 HR0_2.out ((rd_T94 l0_1 x66_3).f0) p120 q120
                      (try rw [← Nbq72.out] at hx120_0)
                      obtain rfl : ad117 = ad120 := (by injection e120)
                      replace hx120_0 := (HB.out.cell (World.block_lt_of_cell? w _ hx120_0)).trans hx120_0; replace hx120_1 := (HB.out.cell (World.block_lt_of_cell? w _ hx120_1)).trans hx120_1; replace hx120_2 := (HB.out.cell (World.block_lt_of_cell? w _ hx120_2)).trans hx120_2; replace hx120_3 := (HB.out.cell (World.block_lt_of_cell? w _ hx120_3)).trans hx120_3; have HR120_2 := Aside0.mk hi120_2; have HC120_2 := Aside0.mk hl120_2; clear hi120_2 hl120_2; have HR120_3 := Aside0.mk hi120_3; have HC120_3 := Aside0.mk hl120_3; clear hi120_3 hl120_3; replace p120 := eq_true p120; replace q120 := eq_true q120; have ea_ := Option.some.inj (hx119_2.symm.trans hx120_2); injection ea_ with ea_ en_ ec_
                      subst ea_; subst ec_; clear en_; have ea_ := Option.some.inj (hx119_3.symm.trans hx120_3); injection ea_ with ea_ en_ ec_
                      subst ea_; subst ec_; clear en_; go_wp2
                      go_meet
                      case rel => (try simp only [← Nbq72.out]); exact ⟨_, (false), (by first | rfl | (simp; done) | (simp [*]; done)), H', ⟨by have := HJ2.out; have := HK2.out; have := HK3.out; have := HJ32.out; have := HK5.out; have := HJ61.out; first | omega | exact Nat.le_refl _⟩, ⟨by (with_reducible repeat (first | apply Kd.S_alloc | apply Kd.S_drewN | apply Kd.S_drew)); exact HO_4.out⟩, ⟨by (with_reducible repeat (first | refine Zh ?_ _ | refine Zi ?_ | refine Zf ?_ _)); exact BK101.out⟩, ⟨by (with_reducible repeat (first | refine Zh ?_ _ | refine Zi ?_ | refine Zf ?_ _)); exact BK111.out⟩, ⟨by repeat (first | (with_reducible first | exact HB.out | apply Ze | apply Za | apply Zd | refine Zg ?_ GE101.out | refine Zg ?_ GE111.out) | exact HB.out)⟩⟩
                     ·exact absurd rfl c75
                    ·rw [if_neg c74] at H; have c74b0 : (x12_61 == 1) = false := beq_eq_false_iff_ne.mpr c74; have c74b1 : (x12_61 != 1) = true := bne_iff_ne.mpr c74; have H' := Aside0.mk H; clear H; have hnb82 := NB101_111.out; have hnc82 := NB111_101.out; have hcz83_0 : wc.cell? ⟨gb101, 0, none⟩ = some (.slice A0_0 l0_0.length c0_0) := (Zb BK101.out 0).trans rfl; have hcz83_1 : wc.cell? ⟨gb101, 1, none⟩ = some (.slice (some ad110) l0_1.length c0_1) := (Zb BK101.out 1).trans rfl; have hcz83_2 : wc.cell? ⟨gb101, 2, none⟩ = some (.slice (some ad117) l0_2.length c0_2) := (Zb BK101.out 2).trans rfl; have hcz83_3 : wc.cell? ⟨gb101, 3, none⟩ = some (.int .i64 a0_3) := (Zb BK101.out 3).trans rfl; have hcz83_4 : wc.cell? ⟨gb101, 4, none⟩ = some (.int .i64 a0_4) := (Zb BK101.out 4).trans rfl; have hfz83_0 := Zc BK101.out 0; have hfz83_1 := Zc BK101.out 1; have hfz83_2 := Zc BK101.out 2; have hfz83_3 := Zc BK101.out 3; have hfz83_4 := Zc BK101.out 4; have hcz84_0 : wc.cell? ⟨gb111, 0, none⟩ = some (.int .i64 ((rd_T94 l0_1 x66_3).f0)) := (Zb BK111.out 0).trans rfl; have hcz84_1 : wc.cell? ⟨gb111, 1, none⟩ = some (.int .i64 ((rd_T94 l0_1 x66_3).f1)) := (Zb BK111.out 1).trans rfl; have hcz84_2 : wc.cell? ⟨gb111, 2, none⟩ = some (.slice A110_2 ((rd_T94 l0_1 x66_3).f2).length c110_2) := (Zb BK111.out 2).trans rfl; have hfz84_0 := Zc BK111.out 0; have hfz84_1 := Zc BK111.out 1; have hfz84_2 := Zc BK111.out 2; have p119 : 0 ≤ (((rd_T94 l0_1 x66_3).f0) : Int) := of_decide_eq_true (by assumption); have q119 : ((rd_T94 l0_1 x66_3).f0) < (l0_2.length : Int) := of_decide_eq_true (by assumption); obtain ⟨ad119, A119_2, c119_2, A119_3, c119_3, e119, hx119_0, hx119_1, hx119_2, hx119_3, hl119_2, hi119_2, hl119_3, hi119_3⟩ := at_T76 HR0_2.out ((rd_T94 l0_1 x66_3).f0) p119 q119
                     (try rw [← Nbq72.out] at hx119_0)
                     obtain rfl : ad117 = ad119 := (by injection e119)
                     replace hx119_0 := (HB.out.cell (World.block_lt_of_cell? w _ hx119_0)).trans hx119_0; replace hx119_1 := (HB.out.cell (World.block_lt_of_cell? w _ hx119_1)).trans hx119_1; replace hx119_2 := (HB.out.cell (World.block_lt_of_cell? w _ hx119_2)).trans hx119_2; replace hx119_3 := (HB.out.cell (World.block_lt_of_cell? w _ hx119_3)).trans hx119_3; have HR119_2 := Aside0.mk hi119_2; have HC119_2 := Aside0.mk hl119_2; clear hi119_2 hl119_2; have HR119_3 := Aside0.mk hi119_3; have HC119_3 := Aside0.mk hl119_3; clear hi119_3 hl119_3; replace p119 := eq_true p119; replace q119 := eq_true q119; go_wp2
                     go_meet
                     case rel => (try simp only [← Nbq72.out]); exact ⟨_, (true), (by first | rfl | (simp; done) | (simp [*]; done)), H', ⟨by have := HJ2.out; have := HK2.out; have := HK3.out; have := HJ32.out; have := HK5.out; have := HJ61.out; first | omega | exact Nat.le_refl _⟩, ⟨by (with_reducible repeat (first | apply Kd.S_alloc | apply Kd.S_drewN | apply Kd.S_drew)); exact HO_4.out⟩, ⟨by (with_reducible repeat (first | refine Zh ?_ _ | refine Zi ?_ | refine Zf ?_ _)); exact BK101.out⟩, ⟨by (with_reducible repeat (first | refine Zh ?_ _ | refine Zi ?_ | refine Zf ?_ _)); exact BK111.out⟩, ⟨by repeat (first | (with_reducible first | exact HB.out | apply Ze | apply Za | apply Zd | refine Zg ?_ GE101.out | refine Zg ?_ GE111.out) | exact HB.out)⟩⟩
                   ·replace c73 := Bool.eq_false_iff.mpr c73; subst c73; rw [if_neg (show ¬ (false = true) by decide)] at H; by_cases c85 : (false = true)
                    ·exact absurd (show false = true from c85) (by decide)
                    ·clear c85; rw [if_neg (show ¬ (false = true) by decide)] at H; have H' := Aside0.mk H; clear H; have hnb89 := NB101_111.out; have hnc89 := NB111_101.out; have hcz90_0 : wc.cell? ⟨gb101, 0, none⟩ = some (.slice A0_0 l0_0.length c0_0) := (Zb BK101.out 0).trans rfl; have hcz90_1 : wc.cell? ⟨gb101, 1, none⟩ = some (.slice (some ad110) l0_1.length c0_1) := (Zb BK101.out 1).trans rfl; have hcz90_2 : wc.cell? ⟨gb101, 2, none⟩ = some (.slice (some ad117) l0_2.length c0_2) := (Zb BK101.out 2).trans rfl; have hcz90_3 : wc.cell? ⟨gb101, 3, none⟩ = some (.int .i64 a0_3) := (Zb BK101.out 3).trans rfl; have hcz90_4 : wc.cell? ⟨gb101, 4, none⟩ = some (.int .i64 a0_4) := (Zb BK101.out 4).trans rfl; have hfz90_0 := Zc BK101.out 0; have hfz90_1 := Zc BK101.out 1; have hfz90_2 := Zc BK101.out 2; have hfz90_3 := Zc BK101.out 3; have hfz90_4 := Zc BK101.out 4; have hcz91_0 : wc.cell? ⟨gb111, 0, none⟩ = some (.int .i64 ((rd_T94 l0_1 x66_3).f0)) := (Zb BK111.out 0).trans rfl; have hcz91_1 : wc.cell? ⟨gb111, 1, none⟩ = some (.int .i64 ((rd_T94 l0_1 x66_3).f1)) := (Zb BK111.out 1).trans rfl; have hcz91_2 : wc.cell? ⟨gb111, 2, none⟩ = some (.slice A110_2 ((rd_T94 l0_1 x66_3).f2).length c110_2) := (Zb BK111.out 2).trans rfl; have hfz91_0 := Zc BK111.out 0; have hfz91_1 := Zc BK111.out 1; have hfz91_2 := Zc BK111.out 2; have p119 : 0 ≤ (((rd_T94 l0_1 x66_3).f0) : Int) := of_decide_eq_true (by assumption); have q119 : ((rd_T94 l0_1 x66_3).f0) < (l0_2.length : Int) := of_decide_eq_true (by assumption); obtain ⟨ad119, A119_2, c119_2, A119_3, c119_3, e119, hx119_0, hx119_1, hx119_2, hx119_3, hl119_2, hi119_2, hl119_3, hi119_3⟩ := at_T76 HR0_2.out ((rd_T94 l0_1 x66_3).f0) p119 q119
                     (try rw [← Nbq72.out] at hx119_0)
                     obtain rfl : ad117 = ad119 := (by injection e119)
                     replace hx119_0 := (HB.out.cell (World.block_lt_of_cell? w _ hx119_0)).trans hx119_0; replace hx119_1 := (HB.out.cell (World.block_lt_of_cell? w _ hx119_1)).trans hx119_1; replace hx119_2 := (HB.out.cell (World.block_lt_of_cell? w _ hx119_2)).trans hx119_2; replace hx119_3 := (HB.out.cell (World.block_lt_of_cell? w _ hx119_3)).trans hx119_3; have HR119_2 := Aside0.mk hi119_2; have HC119_2 := Aside0.mk hl119_2; clear hi119_2 hl119_2; have HR119_3 := Aside0.mk hi119_3; have HC119_3 := Aside0.mk hl119_3; clear hi119_3 hl119_3; replace p119 := eq_true p119; replace q119 := eq_true q119; have p121 : 0 ≤ (((rd_T94 l0_1 x66_3).f0) : Int) := of_decide_eq_true (by assumption); have q121 : ((rd_T94 l0_1 x66_3).f0) < (l0_2.length : Int) := of_decide_eq_true (by assumption); obtain ⟨ad121, A121_2, c121_2, A121_3, c121_3, e121, hx121_0, hx121_1, hx121_2, hx121_3, hl121_2, hi121_2, hl121_3, hi121_3⟩ := at_T76 HR0_2.out ((rd_T94 l0_1 x66_3).f0) p121 q121
                     (try rw [← Nbq72.out] at hx121_0)
                     obtain rfl : ad117 = ad121 := (by injection e121)
                     replace hx121_0 := (HB.out.cell (World.block_lt_of_cell? w _ hx121_0)).trans hx121_0; replace hx121_1 := (HB.out.cell (World.block_lt_of_cell? w _ hx121_1)).trans hx121_1; replace hx121_2 := (HB.out.cell (World.block_lt_of_cell? w _ hx121_2)).trans hx121_2; replace hx121_3 := (HB.out.cell (World.block_lt_of_cell? w _ hx121_3)).trans hx121_3; have HR121_2 := Aside0.mk hi121_2; have HC121_2 := Aside0.mk hl121_2; clear hi121_2 hl121_2; have HR121_3 := Aside0.mk hi121_3; have HC121_3 := Aside0.mk hl121_3; clear hi121_3 hl121_3; replace p121 := eq_true p121; replace q121 := eq_true q121; have ea_ := Option.some.inj (hx119_2.symm.trans hx121_2); injection ea_ with ea_ en_ ec_
                     subst ea_; subst ec_; clear en_; have ea_ := Option.some.inj (hx119_3.symm.trans hx121_3); injection ea_ with ea_ en_ ec_
                     subst ea_; subst ec_; clear en_; go_wp2
                     go_meet
                     case rel => (try simp only [← Nbq72.out]); exact ⟨_, ((x12_61 != 0)), (by first | rfl | (simp; done) | (simp [*]; done)), H', ⟨by have := HJ2.out; have := HK2.out; have := HK3.out; have := HJ32.out; have := HK5.out; have := HJ61.out; first | omega | exact Nat.le_refl _⟩, ⟨by (with_reducible repeat (first | apply Kd.S_alloc | apply Kd.S_drewN | apply Kd.S_drew)); exact HO_4.out⟩, ⟨by (with_reducible repeat (first | refine Zh ?_ _ | refine Zi ?_ | refine Zf ?_ _)); exact BK101.out⟩, ⟨by (with_reducible repeat (first | refine Zh ?_ _ | refine Zi ?_ | refine Zf ?_ _)); exact BK111.out⟩, ⟨by repeat (first | (with_reducible first | exact HB.out | apply Ze | apply Za | apply Zd | refine Zg ?_ GE101.out | refine Zg ?_ GE111.out) | exact HB.out)⟩⟩
                  case rest =>
                   clear HC69; try clear c49
                   try clear c52
                   try clear c52b0
                   try clear c58
                   try clear c58b0
                   try clear c59
                   try clear c59b0
                   try clear c60
                   try clear c60b0
                   try clear c61
                   try clear c61b0
                   try clear hcz51_0
                   try clear hcz51_1
                   try clear hcz51_2
                   try clear hcz64_0
                   try clear hcz64_1
                   try clear hcz64_2
                   try clear hfz51_0
                   try clear hfz51_1
                   try clear hfz51_2
                   try clear hfz64_0
                   try clear hfz64_1
                   try clear hfz64_2
                   try clear hx117_0
                   try clear hx117_1
                   try clear hx117_2
                   try clear hx117_3
                   try clear hx118_0
                   try clear p117
                   try clear p118
                   try clear q117
                   try clear q118
                   obtain ⟨kq, x145_68, rfl, HA, HJ68, HO_4, BK101, BK111, HB⟩ := hcut; cases kq with
                   | zero => exact absurd HA.out (by simp [spec_GoodSnap.j7])
                   | succ kj68 =>
                    have H := HA.out; clear HA; simp only [spec_GoodSnap.j7] at H; by_cases c92 : x145_68 = true
                    ·subst c92; rw [if_pos rfl] at H; obtain rfl := Option.some.inj H; go_wp2
                     go_ret
                     exact ⟨by first | rfl | (simp [errW_none, errW_some] <;> rfl) | (simp [*, errW_none, errW_some] <;> rfl), by repeat (first | (with_reducible first | exact HB.out | apply Ze | apply Za | apply Zd | refine Zg ?_ GE101.out | refine Zg ?_ GE111.out) | exact HB.out)⟩
                    ·replace c92 := Bool.eq_false_iff.mpr c92; subst c92; rw [if_neg (show ¬ (false = true) by decide)] at H; have H' := Aside0.mk H; clear H; go_wp2
                     go_roundg kj68
                     case measure => have := HJ2.out; have := HK2.out; have := HK3.out; have := HJ32.out; have := HK5.out; have := HJ61.out; have := HJ68.out; omega
                     case rel => exact ⟨(wrap64 (x66_3 + 1)), (by first | rfl | (simp; done) | (simp [*]; done)), H', ⟨by have := HJ2.out; have := HK2.out; have := HK3.out; have := HJ32.out; have := HK5.out; have := HJ61.out; have := HJ68.out; omega⟩, ⟨by (with_reducible repeat (first | apply Kd.S_alloc | apply Kd.S_drewN | apply Kd.S_drew)); exact Kd.S_mono HO_4.out (fun _ hk => trivial)⟩, ⟨by (with_reducible repeat (first | refine Zh ?_ _ | refine Zi ?_ | refine Zf ?_ _)); exact BK101.out⟩, ⟨by repeat (first | (with_reducible first | exact HB.out | apply Ze | apply Za | apply Zd | refine Zg ?_ GE101.out | refine Zg ?_ GE111.out) | exact HB.out)⟩⟩
         ·rw [if_neg c30] at H; have c30b0 : decide (x66_3 < (l0_1.length : Int)) = false := decide_eq_false c30; clear c30; replace H := Option.bind_eq_some_iff.mp H; obtain ⟨t122, A930, H⟩ := H; have A93 := Aside0.mk A930; clear A930; by_cases c94 : (wrap64 (x5_2 + t122)) = a0_4
          ·rw [if_pos c94] at H; have c94b0 : ((wrap64 (x5_2 + t122)) == a0_4) = true := beq_iff_eq.mpr c94; have c94b1 : ((wrap64 (x5_2 + t122)) != a0_4) = false := bne_eq_false_iff_eq.mpr c94; clear c94; replace H := Option.bind_eq_some_iff.mp H; obtain ⟨t123, A950, H⟩ := H; have A95 := Aside0.mk A950; clear A950; obtain rfl := Option.some.inj H; try go_wp2
           have n0_ := Aside0.mk (Kd.S_drew HO_4.out); have n1_ := Aside0.mk (Zi BK101.out); have n2_ := Aside0.mk (Zd HB.out); clear HO_4; clear BK101; clear HB; have HO_4 := n0_; have BK101 := n1_; have HB := n2_; clear n0_ n1_ n2_; refine start_ (n := 13) (S := fun w' => w'.cell? ⟨gb101, 0, none⟩ = some (.slice A0_0 l0_0.length c0_0) ∧ w'.cell? ⟨gb101, 1, none⟩ = some (.slice A0_1 l0_1.length c0_1) ∧ w'.cell? ⟨gb101, 2, none⟩ = some (.slice A0_2 l0_2.length c0_2) ∧ w'.cell? ⟨gb101, 3, none⟩ = some (.int .i64 a0_3) ∧ w'.cell? ⟨gb101, 4, none⟩ = some (.int .i64 a0_4)) (ds := []) #[false, false, false, false, false, false, false, false, false, false, false, false, false] (by kernel_rfl) rfl rfl ⟨(Zb BK101.out 0).trans rfl, (Zb BK101.out 1).trans rfl, (Zb BK101.out 2).trans rfl, (Zb BK101.out 3).trans rfl, (Zb BK101.out 4).trans rfl⟩ (fun hHeld => ?_); refine with_tabW spec_GoodSnap.tab30 spec_GoodSnap.bits30 (fun HT_ HW_ => ?_)
           generalize wr.drew = w96 at HO_4 BK101 HB hHeld ⊢; refine Zm (i := 0) (N := some 147) (v := ?_) (a' := ?_) (Bm24 13 1) rfl rfl (Zj HT_.out (by kernel_rfl)) (fun _ _ _ h => h) (Or.inl ⟨by rfl, ?_⟩) ?_ ?_; rotate_left
           ·intro w'; go_simp; with_reducible rfl
           rotate_left
           ·simp only [Act.put, Sa24, Sb24, Sc24, Zk, Zl]; rfl
           refine Zm (i := 4) (N := some 151) (v := ?_) (a' := ?_) (Bm24 13 17) rfl rfl (Zj HT_.out (by kernel_rfl)) (fun _ _ _ h => h) (Or.inl ⟨by rfl, ?_⟩) ?_ ?_; rotate_left
           ·intro w'; go_simp; with_reducible rfl
           rotate_left
           ·simp only [Act.put, Sa24, Sb24, Sc24, Zk, Zl]; rfl
           refine take_ (i := 1) (N := some 148) (v := ?_) (a' := ?_) (Bm24 13 19) rfl rfl (Zr HT_.out HW_.out (by kernel_rfl)) (fun _ _ _ h => h) (Or.inl ⟨by rfl, ?_⟩) hHeld ?_ ?_; rotate_left
           ·rintro w' ⟨s0, s1, s2, s3, s4⟩
            go_simp; with_reducible rfl
           rotate_left
           ·simp only [Act.put, Sa24, Sb24, Sc24, Zk, Zl]; rfl
           refine take_ (i := 5) (N := some 152) (v := ?_) (a' := ?_) (Bm24 13 51) rfl rfl (Zr HT_.out HW_.out (by kernel_rfl)) (fun _ _ _ h => h) (Or.inl ⟨by rfl, ?_⟩) hHeld ?_ ?_; rotate_left
           ·rintro w' ⟨s0, s1, s2, s3, s4⟩
            go_simp; with_reducible rfl
           rotate_left
           ·simp only [Act.put, Sa24, Sb24, Sc24, Zk, Zl]; rfl
           refine one_ (i := 2) (N := some 149) (Bm24 13 55) rfl rfl (one_of HT_.out (by kernel_rfl)) (by decide) (fun K hK => ?_); refine goes_ Try.func72 (by kernel_rfl) rfl #[.agg #[.slice A0_0 l0_0.length c0_0, .slice A0_1 l0_1.length c0_1, .slice A0_2 l0_2.length c0_2, .int .i64 a0_3, .int .i64 a0_4]] (by rfl) rfl rfl (by (try simp only [List.map_toArray, List.map_cons, List.map_nil]); first | done | rfl | (simp only [List.length_drop, List.length_take]; rfl)) ?_; with_reducible refine (spec_l8OnWay.calls k3 _ _ l0_0 _ _ l0_1 _ _ l0_2 a0_3 a0_4 t122 _ ?side1 ?side2 ?side3 ?side4 ?side5 ?side6 A93.out).mono ?_
           (case side1 => repeat (first | exact (Kd.C_below HR0_0.out HB.out) | (with_reducible refine Kd.C_alloc ?_ _) | (with_reducible refine Kd.C_drewN ?_ _) | (with_reducible refine Kd.C_drew ?_)))
           (case side2 => exact HC0_0.out)
           (case side3 => repeat (first | exact (Kd.C_below HR0_1.out HB.out) | (with_reducible refine Kd.C_alloc ?_ _) | (with_reducible refine Kd.C_drewN ?_ _) | (with_reducible refine Kd.C_drew ?_)))
           (case side4 => exact HC0_1.out)
           (case side5 => repeat (first | exact (Kd.C_below HR0_2.out HB.out) | (with_reducible refine Kd.C_alloc ?_ _) | (with_reducible refine Kd.C_drewN ?_ _) | (with_reducible refine Kd.C_drew ?_)))
           (case side6 => exact HC0_2.out)
           rintro e w97 ⟨rfl, hb⟩
           refine ⟨_, rfl, ?_⟩; have n0_ := Aside0.mk (Kd.S_below (by (with_reducible repeat (first | apply Kd.S_alloc | apply Kd.S_drewN | apply Kd.S_drew)); exact HO_4.out) hb); have n1_ := Aside0.mk (Zq (g := gb101) (o := .cells #[.slice A0_0 l0_0.length c0_0, .slice A0_1 l0_1.length c0_1, .slice A0_2 l0_2.length c0_2, .int .i64 a0_3, .int .i64 a0_4] 35 (0, 0)) (by (with_reducible repeat (first | refine Zh ?_ _ | refine Zi ?_ | refine Zf ?_ _)); exact BK101.out) hb); have n2_ := Aside0.mk (Zo (by repeat (first | (with_reducible first | exact HB.out | apply Ze | apply Za | apply Zd | refine Zg ?_ GE101.out) | exact HB.out)) hb); clear HO_4; clear BK101; clear HB; have HO_4 := n0_; have BK101 := n1_; have HB := n2_; clear n0_ n1_ n2_
           (try clear hb)
           (try clear hb2)
           (try clear hk)
           (try clear hi)
           refine hK.out _ _ ⟨(Zb BK101.out 0).trans rfl, (Zb BK101.out 1).trans rfl, (Zb BK101.out 2).trans rfl, (Zb BK101.out 3).trans rfl, (Zb BK101.out 4).trans rfl⟩ (fun hHeld => ?_); clear hK K; refine norm_ (a' := ?_) ?_ ?_; rotate_left
           ·show Act.put _ (some 149) _ = _
            simp only [Act.put, Sa24, Sb24, Sc24, Zk, Zl]; rfl
           refine Zm (i := 3) (N := some 150) (v := ?_) (a' := ?_) (Bm24 13 63) rfl rfl (Zj HT_.out (by kernel_rfl)) (fun _ _ _ h => h) (Or.inl ⟨by rfl, ?_⟩) ?_ ?_; rotate_left
           ·intro w'; go_simp; with_reducible rfl
           rotate_left
           ·simp only [Act.put, Sa24, Sb24, Sc24, Zk, Zl]; rfl
           refine Zm (i := 6) (N := some 153) (v := ?_) (a' := ?_) (Bm24 13 127) rfl rfl (Zj HT_.out (by kernel_rfl)) (fun _ _ _ h => h) (Or.inl ⟨by rfl, ?_⟩) ?_ ?_; rotate_left
           ·intro w'; go_simp; with_reducible rfl
           rotate_left
           ·simp only [Act.put, Sa24, Sb24, Sc24, Zk, Zl]; rfl
           refine Zm (i := 7) (N := some 154) (v := ?_) (a' := ?_) (Bm24 13 255) rfl rfl (Zj HT_.out (by kernel_rfl)) (fun _ _ _ h => h) (Or.inl ⟨by rfl, ?_⟩) ?_ ?_; rotate_left
           ·intro w'; go_simp; with_reducible rfl
           rotate_left
           ·simp only [Act.put, Sa24, Sb24, Sc24, Zk, Zl]; rfl
           refine Zm (i := 8) (N := some 155) (v := ?_) (a' := ?_) (Bm24 13 511) rfl rfl (Zj HT_.out (by kernel_rfl)) (fun _ _ _ h => h) (Or.inl ⟨by rfl, ?_⟩) ?_ ?_; rotate_left
           ·intro w'; go_simp; with_reducible rfl
           rotate_left
           ·simp only [Act.put, Sa24, Sb24, Sc24, Zk, Zl]; rfl
           refine take_ (i := 9) (N := some 156) (v := ?_) (a' := ?_) (Bm24 13 1023) rfl rfl (Zr HT_.out HW_.out (by kernel_rfl)) (fun _ _ _ h => h) (Or.inl ⟨by rfl, ?_⟩) hHeld ?_ ?_; rotate_left
           ·rintro w' ⟨s0, s1, s2, s3, s4⟩
            go_simp; with_reducible rfl
           rotate_left
           ·simp only [Act.put, Sa24, Sb24, Sc24, Zk, Zl]; rfl
           refine one_ (i := 10) (N := some 157) (Bm24 13 2047) rfl rfl (one_of HT_.out (by kernel_rfl)) (by decide) (fun K hK => ?_); refine goes_ Try.func43 (by kernel_rfl) rfl #[.int .i64 a0_4, .int .i64 0, .int .i64 1000] (by rfl) rfl rfl (by (try simp only [List.map_toArray, List.map_cons, List.map_nil]); first | done | rfl | (simp only [List.length_drop, List.length_take]; rfl)) ?_; with_reducible refine (spec_l1In.calls a0_4 0 1000 t123 _ A95.out).mono ?_
           rintro e w' ⟨rfl, ⟨nd, rfl⟩⟩
           refine ⟨_, rfl, ?_⟩; refine hK.out _ _ ⟨(Zb BK101.out 0).trans rfl, (Zb BK101.out 1).trans rfl, (Zb BK101.out 2).trans rfl, (Zb BK101.out 3).trans rfl, (Zb BK101.out 4).trans rfl⟩ (fun hHeld => ?_); clear hK K; refine norm_ (a' := ?_) ?_ ?_; rotate_left
           ·show Act.put _ (some 157) _ = _
            simp only [Act.put, Sa24, Sb24, Sc24, Zk, Zl]; rfl
           refine Zm (i := 11) (N := some 158) (v := ?_) (a' := ?_) (Bm24 13 4095) rfl rfl (Zj HT_.out (by kernel_rfl)) (fun _ _ _ h => h) (Or.inl ⟨by rfl, ?_⟩) ?_ ?_; rotate_left
           ·intro w'; go_simp; with_reducible rfl
           rotate_left
           ·simp only [Act.put, Sa24, Sb24, Sc24, Zk, Zl]; rfl
           refine Zm (i := 12) (N := some 2) (v := ?_) (a' := ?_) (Bm24 13 8191) rfl rfl (Zj HT_.out (by kernel_rfl)) (fun _ _ _ h => h) (Or.inl ⟨by rfl, ?_⟩) ?_ ?_; rotate_left
           ·intro w'; go_simp; with_reducible rfl
           rotate_left
           ·simp only [Act.put, Sa24, Sb24, Sc24, Zk, Zl]; rfl
           refine done_ (done_of HT_.out (by kernel_rfl)) ?_; try go_wp2
           go_ret
           exact ⟨by first | rfl | (simp [errW_none, errW_some] <;> rfl) | (simp [*, errW_none, errW_some] <;> rfl), by repeat (first | (with_reducible first | exact HB.out | apply Ze | apply Za | apply Zd | refine Zg ?_ GE101.out) | exact HB.out)⟩
          ·rw [if_neg c94] at H; have c94b0 : ((wrap64 (x5_2 + t122)) == a0_4) = false := beq_eq_false_iff_ne.mpr c94; have c94b1 : ((wrap64 (x5_2 + t122)) != a0_4) = true := bne_iff_ne.mpr c94; obtain rfl := Option.some.inj H; try go_wp2
           have n0_ := Aside0.mk (Kd.S_drew HO_4.out); have n1_ := Aside0.mk (Zi BK101.out); have n2_ := Aside0.mk (Zd HB.out); clear HO_4; clear BK101; clear HB; have HO_4 := n0_; have BK101 := n1_; have HB := n2_; clear n0_ n1_ n2_; refine start_ (n := 13) (S := fun w' => w'.cell? ⟨gb101, 0, none⟩ = some (.slice A0_0 l0_0.length c0_0) ∧ w'.cell? ⟨gb101, 1, none⟩ = some (.slice A0_1 l0_1.length c0_1) ∧ w'.cell? ⟨gb101, 2, none⟩ = some (.slice A0_2 l0_2.length c0_2) ∧ w'.cell? ⟨gb101, 3, none⟩ = some (.int .i64 a0_3) ∧ w'.cell? ⟨gb101, 4, none⟩ = some (.int .i64 a0_4)) (ds := []) #[false, false, false, false, false, false, false, false, false, false, false, false, false] (by kernel_rfl) rfl rfl ⟨(Zb BK101.out 0).trans rfl, (Zb BK101.out 1).trans rfl, (Zb BK101.out 2).trans rfl, (Zb BK101.out 3).trans rfl, (Zb BK101.out 4).trans rfl⟩ (fun hHeld => ?_); refine with_tabW spec_GoodSnap.tab30 spec_GoodSnap.bits30 (fun HT_ HW_ => ?_)
           generalize wr.drew = w98 at HO_4 BK101 HB hHeld ⊢; refine Zm (i := 0) (N := some 147) (v := ?_) (a' := ?_) (Bm24 13 1) rfl rfl (Zj HT_.out (by kernel_rfl)) (fun _ _ _ h => h) (Or.inl ⟨by rfl, ?_⟩) ?_ ?_; rotate_left
           ·intro w'; go_simp; with_reducible rfl
           rotate_left
           ·simp only [Act.put, Sa24, Sb24, Sc24, Zk, Zl]; rfl
           refine Zm (i := 4) (N := some 151) (v := ?_) (a' := ?_) (Bm24 13 17) rfl rfl (Zj HT_.out (by kernel_rfl)) (fun _ _ _ h => h) (Or.inl ⟨by rfl, ?_⟩) ?_ ?_; rotate_left
           ·intro w'; go_simp; with_reducible rfl
           rotate_left
           ·simp only [Act.put, Sa24, Sb24, Sc24, Zk, Zl]; rfl
           refine take_ (i := 1) (N := some 148) (v := ?_) (a' := ?_) (Bm24 13 19) rfl rfl (Zr HT_.out HW_.out (by kernel_rfl)) (fun _ _ _ h => h) (Or.inl ⟨by rfl, ?_⟩) hHeld ?_ ?_; rotate_left
           ·rintro w' ⟨s0, s1, s2, s3, s4⟩
            go_simp; with_reducible rfl
           rotate_left
           ·simp only [Act.put, Sa24, Sb24, Sc24, Zk, Zl]; rfl
           refine take_ (i := 5) (N := some 152) (v := ?_) (a' := ?_) (Bm24 13 51) rfl rfl (Zr HT_.out HW_.out (by kernel_rfl)) (fun _ _ _ h => h) (Or.inl ⟨by rfl, ?_⟩) hHeld ?_ ?_; rotate_left
           ·rintro w' ⟨s0, s1, s2, s3, s4⟩
            go_simp; with_reducible rfl
           rotate_left
           ·simp only [Act.put, Sa24, Sb24, Sc24, Zk, Zl]; rfl
           refine one_ (i := 2) (N := some 149) (Bm24 13 55) rfl rfl (one_of HT_.out (by kernel_rfl)) (by decide) (fun K hK => ?_); refine goes_ Try.func72 (by kernel_rfl) rfl #[.agg #[.slice A0_0 l0_0.length c0_0, .slice A0_1 l0_1.length c0_1, .slice A0_2 l0_2.length c0_2, .int .i64 a0_3, .int .i64 a0_4]] (by rfl) rfl rfl (by (try simp only [List.map_toArray, List.map_cons, List.map_nil]); first | done | rfl | (simp only [List.length_drop, List.length_take]; rfl)) ?_; with_reducible refine (spec_l8OnWay.calls k3 _ _ l0_0 _ _ l0_1 _ _ l0_2 a0_3 a0_4 t122 _ ?side1 ?side2 ?side3 ?side4 ?side5 ?side6 A93.out).mono ?_
           (case side1 => repeat (first | exact (Kd.C_below HR0_0.out HB.out) | (with_reducible refine Kd.C_alloc ?_ _) | (with_reducible refine Kd.C_drewN ?_ _) | (with_reducible refine Kd.C_drew ?_)))
           (case side2 => exact HC0_0.out)
           (case side3 => repeat (first | exact (Kd.C_below HR0_1.out HB.out) | (with_reducible refine Kd.C_alloc ?_ _) | (with_reducible refine Kd.C_drewN ?_ _) | (with_reducible refine Kd.C_drew ?_)))
           (case side4 => exact HC0_1.out)
           (case side5 => repeat (first | exact (Kd.C_below HR0_2.out HB.out) | (with_reducible refine Kd.C_alloc ?_ _) | (with_reducible refine Kd.C_drewN ?_ _) | (with_reducible refine Kd.C_drew ?_)))
           (case side6 => exact HC0_2.out)
           rintro e w99 ⟨rfl, hb⟩
           refine ⟨_, rfl, ?_⟩; have n0_ := Aside0.mk (Kd.S_below (by (with_reducible repeat (first | apply Kd.S_alloc | apply Kd.S_drewN | apply Kd.S_drew)); exact HO_4.out) hb); have n1_ := Aside0.mk (Zq (g := gb101) (o := .cells #[.slice A0_0 l0_0.length c0_0, .slice A0_1 l0_1.length c0_1, .slice A0_2 l0_2.length c0_2, .int .i64 a0_3, .int .i64 a0_4] 35 (0, 0)) (by (with_reducible repeat (first | refine Zh ?_ _ | refine Zi ?_ | refine Zf ?_ _)); exact BK101.out) hb); have n2_ := Aside0.mk (Zo (by repeat (first | (with_reducible first | exact HB.out | apply Ze | apply Za | apply Zd | refine Zg ?_ GE101.out) | exact HB.out)) hb); clear HO_4; clear BK101; clear HB; have HO_4 := n0_; have BK101 := n1_; have HB := n2_; clear n0_ n1_ n2_
           (try clear hb)
           (try clear hb2)
           (try clear hk)
           (try clear hi)
           refine hK.out _ _ ⟨(Zb BK101.out 0).trans rfl, (Zb BK101.out 1).trans rfl, (Zb BK101.out 2).trans rfl, (Zb BK101.out 3).trans rfl, (Zb BK101.out 4).trans rfl⟩ (fun hHeld => ?_); clear hK K; refine norm_ (a' := ?_) ?_ ?_; rotate_left
           ·show Act.put _ (some 149) _ = _
            simp only [Act.put, Sa24, Sb24, Sc24, Zk, Zl]; rfl
           refine Zm (i := 3) (N := some 150) (v := ?_) (a' := ?_) (Bm24 13 63) rfl rfl (Zj HT_.out (by kernel_rfl)) (fun _ _ _ h => h) (Or.inl ⟨by rfl, ?_⟩) ?_ ?_; rotate_left
           ·intro w'; go_simp; with_reducible rfl
           rotate_left
           ·simp only [Act.put, Sa24, Sb24, Sc24, Zk, Zl]; rfl
           refine Zm (i := 6) (N := some 153) (v := ?_) (a' := ?_) (Bm24 13 127) rfl rfl (Zj HT_.out (by kernel_rfl)) (fun _ _ _ h => h) (Or.inl ⟨by rfl, ?_⟩) ?_ ?_; rotate_left
           ·intro w'; go_simp; with_reducible rfl
           rotate_left
           ·simp only [Act.put, Sa24, Sb24, Sc24, Zk, Zl]; rfl
           refine Zm (i := 7) (N := some 154) (v := ?_) (a' := ?_) (Bm24 13 255) rfl rfl (Zj HT_.out (by kernel_rfl)) (fun _ _ _ h => h) (Or.inl ⟨by rfl, ?_⟩) ?_ ?_; rotate_left
           ·intro w'; go_simp; with_reducible rfl
           rotate_left
           ·simp only [Act.put, Sa24, Sb24, Sc24, Zk, Zl]; rfl
           refine Zm (i := 8) (N := some 155) (v := undef) (a' := ?_) (Bm24 13 511) rfl rfl (Zj HT_.out (by kernel_rfl)) (fun _ _ _ h => h) (Or.inr ⟨by rfl, rfl⟩) ?_ ?_; rotate_left
           ·simp only [Act.put, Sa24, Sb24, Sc24, Zk, Zl]; rfl
           refine Zm (i := 9) (N := some 156) (v := undef) (a' := ?_) (Bm24 13 1023) rfl rfl (Zj HT_.out (by kernel_rfl)) (fun _ _ _ h => h) (Or.inr ⟨by rfl, rfl⟩) ?_ ?_; rotate_left
           ·simp only [Act.put, Sa24, Sb24, Sc24, Zk, Zl]; rfl
           refine Zm (i := 10) (N := some 157) (v := undef) (a' := ?_) (Bm24 13 2047) rfl rfl (Zj HT_.out (by kernel_rfl)) (fun _ _ _ h => h) (Or.inr ⟨by rfl, rfl⟩) ?_ ?_; rotate_left
           ·simp only [Act.put, Sa24, Sb24, Sc24, Zk, Zl]; rfl
           refine Zm (i := 11) (N := some 158) (v := ?_) (a' := ?_) (Bm24 13 4095) rfl rfl (Zj HT_.out (by kernel_rfl)) (fun _ _ _ h => h) (Or.inl ⟨by rfl, ?_⟩) ?_ ?_; rotate_left
           ·intro w'; go_simp; with_reducible rfl
           rotate_left
           ·simp only [Act.put, Sa24, Sb24, Sc24, Zk, Zl]; rfl
           refine Zm (i := 12) (N := some 2) (v := ?_) (a' := ?_) (Bm24 13 8191) rfl rfl (Zj HT_.out (by kernel_rfl)) (fun _ _ _ h => h) (Or.inl ⟨by rfl, ?_⟩) ?_ ?_; rotate_left
           ·intro w'; go_simp; with_reducible rfl
           rotate_left
           ·simp only [Act.put, Sa24, Sb24, Sc24, Zk, Zl]; rfl
           refine done_ (done_of HT_.out (by kernel_rfl)) ?_; try go_wp2
           go_ret
           exact ⟨by first | rfl | (simp [errW_none, errW_some] <;> rfl) | (simp [*, errW_none, errW_some] <;> rfl), by repeat (first | (with_reducible first | exact HB.out | apply Ze | apply Za | apply Zd | refine Zg ?_ GE101.out) | exact HB.out)⟩
end Go.Proofs.Ytmkiffemanmgcaa.P
end
