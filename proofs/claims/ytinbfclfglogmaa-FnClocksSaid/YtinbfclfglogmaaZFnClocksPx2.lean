-- Written by programs of this session (wip/prune.py, wip/xp.py), out of the translation and the printed words; what the law does not reach is left out. Not trusted: Lean checks it.
import Derived.Test.YtinbfclfglogmaaZFnClocksPx0
import Derived.Test.YtinbfclfglogmaaZFnClocksPx1
import Derived.Test.YtinbfclfglogmaaZFnClocksPxe65
section
namespace Go.Proofs.Ytinbfclfglogmaa.P
open Go.RowKit Go.Proofs.YtinbfclfglogmaaW.PrintWords Go.Proofs.YtinbfclfglogmaaW.PrintLast Go.Proofs.YtinbfclfglogmaaW.PrintMore
attribute [local go_sem] max2_int min2_int max_two min_two max_three min_three max_four min_four   -- for this text's walks alone
set_option linter.unusedVariables false
set_option linter.unusedSimpArgs false
attribute [local go_sem high] eqA65
def spec_l7Send.l0 : Nat → Int → List (S65) → Int → Int → Option (Int)
 | 0, _, _, _, _ => none
 | k + 1, x1, x11, x12, x13 => if x13 < x12 then (if 0 ≤ x13 then (if x13 < (x11.length : Int) then (if ((rd_T65 x11 x13).f1) = 2 then (if ((rd_T65 x11 x13).f2) = x1 then (some x13) else (spec_l7Send.l0 k x1 x11 x12 (wrap64 (x13 + 1)))) else (spec_l7Send.l0 k x1 x11 x12 (wrap64 (x13 + 1)))) else (none)) else (none)) else (some (-1))
def spec_l7Send.f (k : Nat) (l0 : List (S65)) (a1 : Int) (a2 : Int) : Option (Int) := if 0 ≤ a2 then (if a2 ≤ (l0.length : Int) then ((some (l0.take (a2 : Int).toNat : List (S65))).bind fun y101 => (spec_l7Send.l0 k a1 y101 (y101.length : Int) 0)) else (none)) else (none)
set_option maxHeartbeats 8000000 in
set_option maxRecDepth 100000 in
theorem spec_l7Send.calls (k : Nat) (A0 : Option Addr) (c0 : Nat) (l0 : List (S65)) (a1 : Int) (a2 : Int) (r : Int) (w : World) (hr0 : Kd.C k65 w A0 l0.length l0) (hc0 : l0.length ≤ c0) (h : spec_l7Send.f k l0 a1 a2 = some r) :
  Calls Try.prog 52 #[.slice A0 l0.length c0, .int .i64 a1, .int .i64 a2] w fun e w' => e = .returned (.int .i64 r) ∧ Below w.heap.size w w' := by
 have hu65 := Try.underlying65
 have HR0 := Aside0.mk hr0
 have HC0 := Aside0.mk hc0
 clear hr0 hc0
 have HB := Aside0.mk (Below.refl w.heap.size w)
 have H : (if 0 ≤ a2 then (if a2 ≤ (l0.length : Int) then ((some (l0.take (a2 : Int).toNat : List (S65))).bind fun y101 => (spec_l7Send.l0 k a1 y101 (y101.length : Int) 0)) else (none)) else (none)) = some r := h
 clear h
 by_cases c4 : 0 ≤ a2
 ·rw [if_pos c4] at H
  have c4b0 := eq_true c4
  have c4b1 : decide (0 ≤ a2) = true := decide_eq_true c4
  clear c4
  by_cases c5 : a2 ≤ (l0.length : Int)
  ·rw [if_pos c5] at H
   have c5b0 := eq_true c5
   have c5b1 : decide (a2 ≤ (l0.length : Int)) = true := decide_eq_true c5
   clear c5
   obtain ⟨y101, hy101⟩ : ∃ y_ : List (S65), y_ = (l0.take (a2 : Int).toNat) := ⟨_, rfl⟩
   replace H : (spec_l7Send.l0 k a1 y101 (y101.length : Int) 0) = some r := by first | (rw [hy101]; with_reducible exact H) | (have H2_ := (Option.bind_some _ _).symm.trans H; rw [hy101]; with_reducible exact H2_) | (have H2_ := (Option.bind_some _ _).symm.trans H; with_reducible exact H2_) | with_reducible exact H | (rw [hy101]; exact H) | exact H
   have Ny101 := Aside0.mk hy101
   clear hy101
   have H' := Aside0.mk H
   clear H
   have q6 : (a2 : Int) ≤ ((l0.length : Int) : Int) := of_decide_eq_true (by assumption)
   obtain ⟨i06, hi06, _, hsz6, _⟩ := info_parts info65
   have hroom6 : l0.length ≤ c0 := HC0.out
   have hC6 : Kd.C k65 _ A0 l0.length l0 := HR0.out
   have hcut6 := cut_to (P := Try.prog) 33 65 .i64 Try.underlying33 hi06 A0 l0.length c0 a2 (of_decide_eq_true (by assumption)) q6 hroom6
   have hr6 := Kd.C_take (m := (a2 : Int).toNat) hC6 (by omega)
   have hy6 : y101.length = (a2 : Int).toNat := (by rw [Ny101.out, List.length_take]; omega)
   rw [← Ny101.out] at hr6
   rw [← hy6] at hcut6
   have HR104 := Aside0.mk hr6
   have HC104 := Aside0.mk (show y101.length ≤ c0 from by omega)
   clear hr6 hC6 hroom6 hi06 hsz6
   have KY6 := Aside0.mk hy6
   clear hy6
   replace q6 := eq_true q6
   go_enter Try.func52, Try.ntmps52
   go_wp2
   go_loopg [13] k (fun kq v13 w' => ∃ (x13_1 : Int), v13 = .int .i64 x13_1 ∧ Aside0 (spec_l7Send.l0 kq a1 y101 (y101.length : Int) x13_1 = some r) ∧ Aside0 (kq ≤ k) ∧ Aside0 (Below w.heap.size w w'))
   case atStart => exact ⟨(0), (by first | rfl | (simp; done) | (simp [*]; done)), H', ⟨Nat.le_refl _⟩, ⟨by repeat (first | (with_reducible first | exact HB.out | apply below_alloc | apply pw_below_drewN | apply below_drew1) | exact HB.out)⟩⟩
   case round =>
    clear H'
    try clear c4
    try clear c4b0
    try clear c4b1
    try clear c5
    try clear c5b0
    try clear c5b1
    try clear q6
    try clear q6
    obtain ⟨x13_1, rfl, HA, HK1, HB⟩ := hrel
    cases gk with
    | zero => exact absurd HA.out (by simp [spec_l7Send.l0])
    | succ k1 =>
     have H := HA.out
     clear HA
     simp only [spec_l7Send.l0] at H
     by_cases c7 : x13_1 < (y101.length : Int)
     ·rw [if_pos c7] at H
      have c7b0 : decide (x13_1 < (y101.length : Int)) = true := decide_eq_true c7
      clear c7
      by_cases c8 : 0 ≤ x13_1
      ·rw [if_pos c8] at H
       have c8b0 : decide (0 ≤ x13_1) = true := decide_eq_true c8
       clear c8
       by_cases c9 : x13_1 < (y101.length : Int)
       ·rw [if_pos c9] at H
        have c9b0 : decide (x13_1 < (y101.length : Int)) = true := decide_eq_true c9
        clear c9
        by_cases c10 : ((rd_T65 y101 x13_1).f1) = 2
        ·rw [if_pos c10] at H
         have c10b0 : (((rd_T65 y101 x13_1).f1) == 2) = true := beq_iff_eq.mpr c10
         have c10b1 : (((rd_T65 y101 x13_1).f1) != 2) = false := bne_eq_false_iff_eq.mpr c10
         clear c10
         by_cases c11 : ((rd_T65 y101 x13_1).f2) = a1
         ·rw [if_pos c11] at H
          have c11b0 : (((rd_T65 y101 x13_1).f2) == a1) = true := beq_iff_eq.mpr c11
          have c11b1 : (((rd_T65 y101 x13_1).f2) != a1) = false := bne_eq_false_iff_eq.mpr c11
          clear c11
          obtain rfl := Option.some.inj H
          have p105 : 0 ≤ (x13_1 : Int) := of_decide_eq_true (by assumption)
          have q105 : x13_1 < (y101.length : Int) := of_decide_eq_true (by assumption)
          obtain ⟨ad105, e105, hx105_0, hx105_1, hx105_2⟩ := at_T65 HR104.out x13_1 p105 q105
          cases e105
          replace hx105_0 := (HB.out.cell (World.block_lt_of_cell? w _ hx105_0)).trans hx105_0
          replace hx105_1 := (HB.out.cell (World.block_lt_of_cell? w _ hx105_1)).trans hx105_1
          replace hx105_2 := (HB.out.cell (World.block_lt_of_cell? w _ hx105_2)).trans hx105_2
          replace p105 := eq_true p105
          replace q105 := eq_true q105
          go_wp2_with (first | ((with_reducible refine gate_dst (N := 8) rfl ?_); refine box_event ?hg (N := 8) ?hd (cs := #[.int .i64 0, .int .i64 0, .int .i64 0]) (t := 65) ?hr ?_; (case hd => rfl); (case hg => rfl); (case hr => first | (go_simp; done) | (go_simp; rfl)); intro gb106 hg w12 hbox hb; have n0_ := Aside0.mk (below_step (by repeat (first | (with_reducible first | exact HB.out | apply below_alloc | apply pw_below_drewN | apply below_drew1) | exact HB.out)) hb); have n1_ := Aside0.mk (hbox); have n2_ := Aside0.mk ((by rw [hg]; exact (below_size (by repeat (first | (with_reducible first | exact HB.out | apply below_alloc | apply pw_below_drewN | apply below_drew1) | exact HB.out))) : w.heap.size ≤ gb106)); have n3_ := n2_; clear HB; have HB := n0_; have BK106 := n1_; have GW106 := n2_; have GE106 := n3_; clear n0_ n1_ n2_ n3_; clear hb hbox hg; have hcz13_0 : w12.cell? ⟨gb106, 0, none⟩ = some (.int .i64 0) := (blk_cell BK106.out 0).trans rfl; have hcz13_1 : w12.cell? ⟨gb106, 1, none⟩ = some (.int .i64 0) := (blk_cell BK106.out 1).trans rfl; have hcz13_2 : w12.cell? ⟨gb106, 2, none⟩ = some (.int .i64 0) := (blk_cell BK106.out 2).trans rfl; have hfz13_0 := blk_frozen BK106.out 0; have hfz13_1 := blk_frozen BK106.out 1; have hfz13_2 := blk_frozen BK106.out 2))
          go_ret
          exact ⟨by first | rfl | (simp [errW_none, errW_some] <;> rfl) | (simp [*, errW_none, errW_some] <;> rfl), by repeat (first | (with_reducible first | exact HB.out | apply below_alloc | apply pw_below_drewN | apply below_drew1 | refine below_set ?_ GE106.out) | exact HB.out)⟩
         ·rw [if_neg c11] at H
          have c11b0 : (((rd_T65 y101 x13_1).f2) == a1) = false := beq_eq_false_iff_ne.mpr c11
          have c11b1 : (((rd_T65 y101 x13_1).f2) != a1) = true := bne_iff_ne.mpr c11
          have H' := Aside0.mk H
          clear H
          have p105 : 0 ≤ (x13_1 : Int) := of_decide_eq_true (by assumption)
          have q105 : x13_1 < (y101.length : Int) := of_decide_eq_true (by assumption)
          obtain ⟨ad105, e105, hx105_0, hx105_1, hx105_2⟩ := at_T65 HR104.out x13_1 p105 q105
          cases e105
          replace hx105_0 := (HB.out.cell (World.block_lt_of_cell? w _ hx105_0)).trans hx105_0
          replace hx105_1 := (HB.out.cell (World.block_lt_of_cell? w _ hx105_1)).trans hx105_1
          replace hx105_2 := (HB.out.cell (World.block_lt_of_cell? w _ hx105_2)).trans hx105_2
          replace p105 := eq_true p105
          replace q105 := eq_true q105
          go_wp2_with (first | ((with_reducible refine gate_dst (N := 8) rfl ?_); refine box_event ?hg (N := 8) ?hd (cs := #[.int .i64 0, .int .i64 0, .int .i64 0]) (t := 65) ?hr ?_; (case hd => rfl); (case hg => rfl); (case hr => first | (go_simp; done) | (go_simp; rfl)); intro gb106 hg w14 hbox hb; have n0_ := Aside0.mk (below_step (by repeat (first | (with_reducible first | exact HB.out | apply below_alloc | apply pw_below_drewN | apply below_drew1) | exact HB.out)) hb); have n1_ := Aside0.mk (hbox); have n2_ := Aside0.mk ((by rw [hg]; exact (below_size (by repeat (first | (with_reducible first | exact HB.out | apply below_alloc | apply pw_below_drewN | apply below_drew1) | exact HB.out))) : w.heap.size ≤ gb106)); have n3_ := n2_; clear HB; have HB := n0_; have BK106 := n1_; have GW106 := n2_; have GE106 := n3_; clear n0_ n1_ n2_ n3_; clear hb hbox hg; have hcz15_0 : w14.cell? ⟨gb106, 0, none⟩ = some (.int .i64 0) := (blk_cell BK106.out 0).trans rfl; have hcz15_1 : w14.cell? ⟨gb106, 1, none⟩ = some (.int .i64 0) := (blk_cell BK106.out 1).trans rfl; have hcz15_2 : w14.cell? ⟨gb106, 2, none⟩ = some (.int .i64 0) := (blk_cell BK106.out 2).trans rfl; have hfz15_0 := blk_frozen BK106.out 0; have hfz15_1 := blk_frozen BK106.out 1; have hfz15_2 := blk_frozen BK106.out 2))
          go_roundg k1
          case measure => have := HK1.out; omega
          case rel => exact ⟨(wrap64 (x13_1 + 1)), (by first | rfl | (simp; done) | (simp [*]; done)), H', ⟨by have := HK1.out; omega⟩, ⟨by repeat (first | (with_reducible first | exact HB.out | apply below_alloc | apply pw_below_drewN | apply below_drew1 | refine below_set ?_ GE106.out) | exact HB.out)⟩⟩
        ·rw [if_neg c10] at H
         have c10b0 : (((rd_T65 y101 x13_1).f1) == 2) = false := beq_eq_false_iff_ne.mpr c10
         have c10b1 : (((rd_T65 y101 x13_1).f1) != 2) = true := bne_iff_ne.mpr c10
         have H' := Aside0.mk H
         clear H
         have p105 : 0 ≤ (x13_1 : Int) := of_decide_eq_true (by assumption)
         have q105 : x13_1 < (y101.length : Int) := of_decide_eq_true (by assumption)
         obtain ⟨ad105, e105, hx105_0, hx105_1, hx105_2⟩ := at_T65 HR104.out x13_1 p105 q105
         cases e105
         replace hx105_0 := (HB.out.cell (World.block_lt_of_cell? w _ hx105_0)).trans hx105_0
         replace hx105_1 := (HB.out.cell (World.block_lt_of_cell? w _ hx105_1)).trans hx105_1
         replace hx105_2 := (HB.out.cell (World.block_lt_of_cell? w _ hx105_2)).trans hx105_2
         replace p105 := eq_true p105
         replace q105 := eq_true q105
         go_wp2_with (first | ((with_reducible refine gate_dst (N := 8) rfl ?_); refine box_event ?hg (N := 8) ?hd (cs := #[.int .i64 0, .int .i64 0, .int .i64 0]) (t := 65) ?hr ?_; (case hd => rfl); (case hg => rfl); (case hr => first | (go_simp; done) | (go_simp; rfl)); intro gb106 hg w16 hbox hb; have n0_ := Aside0.mk (below_step (by repeat (first | (with_reducible first | exact HB.out | apply below_alloc | apply pw_below_drewN | apply below_drew1) | exact HB.out)) hb); have n1_ := Aside0.mk (hbox); have n2_ := Aside0.mk ((by rw [hg]; exact (below_size (by repeat (first | (with_reducible first | exact HB.out | apply below_alloc | apply pw_below_drewN | apply below_drew1) | exact HB.out))) : w.heap.size ≤ gb106)); have n3_ := n2_; clear HB; have HB := n0_; have BK106 := n1_; have GW106 := n2_; have GE106 := n3_; clear n0_ n1_ n2_ n3_; clear hb hbox hg; have hcz17_0 : w16.cell? ⟨gb106, 0, none⟩ = some (.int .i64 0) := (blk_cell BK106.out 0).trans rfl; have hcz17_1 : w16.cell? ⟨gb106, 1, none⟩ = some (.int .i64 0) := (blk_cell BK106.out 1).trans rfl; have hcz17_2 : w16.cell? ⟨gb106, 2, none⟩ = some (.int .i64 0) := (blk_cell BK106.out 2).trans rfl; have hfz17_0 := blk_frozen BK106.out 0; have hfz17_1 := blk_frozen BK106.out 1; have hfz17_2 := blk_frozen BK106.out 2))
         go_roundg k1
         case measure => have := HK1.out; omega
         case rel => exact ⟨(wrap64 (x13_1 + 1)), (by first | rfl | (simp; done) | (simp [*]; done)), H', ⟨by have := HK1.out; omega⟩, ⟨by repeat (first | (with_reducible first | exact HB.out | apply below_alloc | apply pw_below_drewN | apply below_drew1 | refine below_set ?_ GE106.out) | exact HB.out)⟩⟩
       ·rw [if_neg c9] at H
        exact absurd H (by simp)
      ·rw [if_neg c8] at H
       exact absurd H (by simp)
     ·rw [if_neg c7] at H
      have c7b0 : decide (x13_1 < (y101.length : Int)) = false := decide_eq_false c7
      clear c7
      obtain rfl := Option.some.inj H
      go_wp2
      go_ret
      exact ⟨by first | rfl | (simp [errW_none, errW_some] <;> rfl) | (simp [*, errW_none, errW_some] <;> rfl), by repeat (first | (with_reducible first | exact HB.out | apply below_alloc | apply pw_below_drewN | apply below_drew1) | exact HB.out)⟩
  ·rw [if_neg c5] at H
   exact absurd H (by simp)
 ·rw [if_neg c4] at H
  exact absurd H (by simp)
mutual
def spec_GoodEvents.l0 : Nat → Int → List (S65) → List (S65) → Int → Int → Option (Bool)
 | 0, _, _, _, _, _ => none
 | k + 1, x0, x1, x10, x11, x12 => if x12 < x11 then (if 0 ≤ x12 then (if x12 < (x10.length : Int) then (if ((rd_T65 x10 x12).f0) < 0 then (spec_GoodEvents.j1 k x0 x1 x12 x10 x11 x12 true ((rd_T65 x10 x12).f0) ((rd_T65 x10 x12).f1) ((rd_T65 x10 x12).f2)) else (spec_GoodEvents.j1 k x0 x1 x12 x10 x11 x12 (decide (((rd_T65 x10 x12).f0) ≥ x0)) ((rd_T65 x10 x12).f0) ((rd_T65 x10 x12).f1) ((rd_T65 x10 x12).f2))) else (none)) else (none)) else ((spec_l1In.f x0 1 5).bind fun t101 => (if t101 = true then (some (decide ((x1.length : Int) ≤ 24))) else (some false)))
def spec_GoodEvents.j1 : Nat → Int → List (S65) → Int → List (S65) → Int → Int → Bool → Int → Int → Int → Option (Bool)
 | 0, _, _, _, _, _, _, _, _, _, _ => none
 | k + 1, x0, x1, x5, x10, x11, x12, x25, x104000, x104001, x104002 => if x25 = true then (some false) else (if x104001 = 1 then (if x104002 = 0 then (spec_GoodEvents.l0 k x0 x1 x10 x11 (wrap64 (x12 + 1))) else (some false)) else (if x104001 = 2 then ((spec_l1In.f x104002 1 24).bind fun t104 => (if t104 = true then ((spec_l7Send.f k x1 x104002 x5).bind fun t105 => (if t105 ≥ 0 then (some false) else (spec_GoodEvents.l0 k x0 x1 x10 x11 (wrap64 (x12 + 1))))) else (some false))) else (if x104001 = 3 then ((spec_l7Send.f k x1 x104002 x5).bind fun t106 => (if t106 < 0 then (spec_GoodEvents.j2 k x0 x1 x5 x10 x11 x12 true x104000 x104001 x104002) else (if 0 ≤ t106 then (if t106 < (x1.length : Int) then (spec_GoodEvents.j2 k x0 x1 x5 x10 x11 x12 (((rd_T65 x1 t106).f0) == x104000) x104000 x104001 x104002) else (none)) else (none)))) else (some false))))
def spec_GoodEvents.j2 : Nat → Int → List (S65) → Int → List (S65) → Int → Int → Bool → Int → Int → Int → Option (Bool)
 | 0, _, _, _, _, _, _, _, _, _, _ => none
 | k + 1, x0, x1, x5, x10, x11, x12, x65, x104000, x104001, x104002 => if x65 = true then (some false) else (if 0 ≤ x5 then (if x5 ≤ (x1.length : Int) then ((some (x1.take (x5 : Int).toNat : List (S65))).bind fun y108 => (spec_GoodEvents.l1 k x0 x1 x10 x11 x12 y108 (y108.length : Int) 0 x104000 x104001 x104002)) else (none)) else (none))
def spec_GoodEvents.l1 : Nat → Int → List (S65) → List (S65) → Int → Int → List (S65) → Int → Int → Int → Int → Int → Option (Bool)
 | 0, _, _, _, _, _, _, _, _, _, _, _ => none
 | k + 1, x0, x1, x10, x11, x12, x68, x69, x70, x104000, x104001, x104002 => if x70 < x69 then (if 0 ≤ x70 then (if x70 < (x68.length : Int) then (if (((rd_T65 x68 x70).f0) == x104000 && (((rd_T65 x68 x70).f1) == x104001 && (((rd_T65 x68 x70).f2) == x104002))) = true then (some false) else (if ((rd_T65 x68 x70).f1) = 3 then (if ((rd_T65 x68 x70).f2) = x104002 then (some false) else (spec_GoodEvents.l1 k x0 x1 x10 x11 x12 x68 x69 (wrap64 (x70 + 1)) x104000 x104001 x104002)) else (spec_GoodEvents.l1 k x0 x1 x10 x11 x12 x68 x69 (wrap64 (x70 + 1)) x104000 x104001 x104002))) else (none)) else (none)) else (spec_GoodEvents.l0 k x0 x1 x10 x11 (wrap64 (x12 + 1)))
end
def spec_GoodEvents.f (k : Nat) (a0 : Int) (l1 : List (S65)) : Option (Bool) := spec_GoodEvents.l0 k a0 l1 l1 (l1.length : Int) 0
set_option maxHeartbeats 8000000 in
set_option maxRecDepth 100000 in
theorem spec_GoodEvents.calls (k : Nat) (a0 : Int) (A1 : Option Addr) (c1 : Nat) (l1 : List (S65)) (r : Bool) (w : World) (hr1 : Kd.C k65 w A1 l1.length l1) (hc1 : l1.length ≤ c1) (h : spec_GoodEvents.f k a0 l1 = some r) :
  Calls Try.prog 22 #[.int .i64 a0, .slice A1 l1.length c1] w fun e w' => e = .returned (.bool r) ∧ Below w.heap.size w w' := by
 have hu65 := Try.underlying65
 have HR1 := Aside0.mk hr1
 have HC1 := Aside0.mk hc1
 clear hr1 hc1
 have HB := Aside0.mk (Below.refl w.heap.size w)
 have H : (spec_GoodEvents.l0 k a0 l1 l1 (l1.length : Int) 0) = some r := h
 clear h
 have H' := Aside0.mk H
 clear H
 go_enter Try.func22, Try.ntmps22
 go_wp2
 repeat (go_quiet (fail); try go_wp2)
 go_loopg [12] k (fun kq v12 w' => ∃ (x12_1 : Int), v12 = .int .i64 x12_1 ∧ Aside0 (spec_GoodEvents.l0 kq a0 l1 l1 (l1.length : Int) x12_1 = some r) ∧ Aside0 (kq ≤ k) ∧ Aside0 (Below w.heap.size w w'))
 case atStart => exact ⟨(0), (by first | rfl | (simp; done) | (simp [*]; done)), H', ⟨Nat.le_refl _⟩, ⟨by repeat (first | (with_reducible first | exact HB.out | apply below_alloc | apply pw_below_drewN | apply below_drew1) | exact HB.out)⟩⟩
 case round =>
  clear H'
  obtain ⟨x12_1, rfl, HA, HK1, HB⟩ := hrel
  cases gk with
  | zero => exact absurd HA.out (by simp [spec_GoodEvents.l0])
  | succ k1 =>
   have H := HA.out
   clear HA
   simp only [spec_GoodEvents.l0] at H
   by_cases c3 : x12_1 < (l1.length : Int)
   ·rw [if_pos c3] at H
    have c3b0 : decide (x12_1 < (l1.length : Int)) = true := decide_eq_true c3
    clear c3
    by_cases c4 : 0 ≤ x12_1
    ·rw [if_pos c4] at H
     have c4b0 : decide (0 ≤ x12_1) = true := decide_eq_true c4
     clear c4
     by_cases c5 : x12_1 < (l1.length : Int)
     ·rw [if_pos c5] at H
      have c5b0 : decide (x12_1 < (l1.length : Int)) = true := decide_eq_true c5
      clear c5
      have HC6 := Aside0.mk H
      clear H
      have p102 : 0 ≤ (x12_1 : Int) := of_decide_eq_true (by assumption)
      have q102 : x12_1 < (l1.length : Int) := of_decide_eq_true (by assumption)
      obtain ⟨ad102, e102, hx102_0, hx102_1, hx102_2⟩ := at_T65 HR1.out x12_1 p102 q102
      cases e102
      replace hx102_0 := (HB.out.cell (World.block_lt_of_cell? w _ hx102_0)).trans hx102_0
      replace hx102_1 := (HB.out.cell (World.block_lt_of_cell? w _ hx102_1)).trans hx102_1
      replace hx102_2 := (HB.out.cell (World.block_lt_of_cell? w _ hx102_2)).trans hx102_2
      replace p102 := eq_true p102
      replace q102 := eq_true q102
      go_upto_region 4 with (first | ((with_reducible refine gate_dst (N := 6) rfl ?_); (try (refine gate_guard (by rfl) ?_; dsimp only)); refine box_event ?hg (N := 6) ?hd (cs := #[.int .i64 0, .int .i64 0, .int .i64 0]) (t := 65) ?hr ?_; (case hd => rfl); (case hg => rfl); (case hr => first | (go_simp; done) | (go_simp; rfl)); intro gb103 hg w7 hbox hb; have n0_ := Aside0.mk (below_step (by repeat (first | (with_reducible first | exact HB.out | apply below_alloc | apply pw_below_drewN | apply below_drew1) | exact HB.out)) hb); have n1_ := Aside0.mk (hbox); have n2_ := Aside0.mk ((by rw [hg]; exact (below_size (by repeat (first | (with_reducible first | exact HB.out | apply below_alloc | apply pw_below_drewN | apply below_drew1) | exact HB.out))) : w.heap.size ≤ gb103)); have n3_ := n2_; clear HB; have HB := n0_; have BK103 := n1_; have GW103 := n2_; have GE103 := n3_; clear n0_ n1_ n2_ n3_; clear hb hbox hg; have hcz8_0 : w7.cell? ⟨gb103, 0, none⟩ = some (.int .i64 0) := (blk_cell BK103.out 0).trans rfl; have hcz8_1 : w7.cell? ⟨gb103, 1, none⟩ = some (.int .i64 0) := (blk_cell BK103.out 1).trans rfl; have hcz8_2 : w7.cell? ⟨gb103, 2, none⟩ = some (.int .i64 0) := (blk_cell BK103.out 2).trans rfl; have hfz8_0 := blk_frozen BK103.out 0; have hfz8_1 := blk_frozen BK103.out 1; have hfz8_2 := blk_frozen BK103.out 2))
      repeat (go_quiet (first | ((with_reducible refine gate_dst (N := 6) rfl ?_); (try (refine gate_guard (by rfl) ?_; dsimp only)); refine box_event ?hg (N := 6) ?hd (cs := #[.int .i64 0, .int .i64 0, .int .i64 0]) (t := 65) ?hr ?_; (case hd => rfl); (case hg => rfl); (case hr => first | (go_simp; done) | (go_simp; rfl)); intro gb103 hg w7 hbox hb; have n0_ := Aside0.mk (below_step (by repeat (first | (with_reducible first | exact HB.out | apply below_alloc | apply pw_below_drewN | apply below_drew1) | exact HB.out)) hb); have n1_ := Aside0.mk (hbox); have n2_ := Aside0.mk ((by rw [hg]; exact (below_size (by repeat (first | (with_reducible first | exact HB.out | apply below_alloc | apply pw_below_drewN | apply below_drew1) | exact HB.out))) : w.heap.size ≤ gb103)); have n3_ := n2_; clear HB; have HB := n0_; have BK103 := n1_; have GW103 := n2_; have GE103 := n3_; clear n0_ n1_ n2_ n3_; clear hb hbox hg; have hcz8_0 : w7.cell? ⟨gb103, 0, none⟩ = some (.int .i64 0) := (blk_cell BK103.out 0).trans rfl; have hcz8_1 : w7.cell? ⟨gb103, 1, none⟩ = some (.int .i64 0) := (blk_cell BK103.out 1).trans rfl; have hcz8_2 : w7.cell? ⟨gb103, 2, none⟩ = some (.int .i64 0) := (blk_cell BK103.out 2).trans rfl; have hfz8_0 := blk_frozen BK103.out 0; have hfz8_1 := blk_frozen BK103.out 1; have hfz8_2 := blk_frozen BK103.out 2)); go_upto_region 4 with (first | ((with_reducible refine gate_dst (N := 6) rfl ?_); (try (refine gate_guard (by rfl) ?_; dsimp only)); refine box_event ?hg (N := 6) ?hd (cs := #[.int .i64 0, .int .i64 0, .int .i64 0]) (t := 65) ?hr ?_; (case hd => rfl); (case hg => rfl); (case hr => first | (go_simp; done) | (go_simp; rfl)); intro gb103 hg w7 hbox hb; have n0_ := Aside0.mk (below_step (by repeat (first | (with_reducible first | exact HB.out | apply below_alloc | apply pw_below_drewN | apply below_drew1) | exact HB.out)) hb); have n1_ := Aside0.mk (hbox); have n2_ := Aside0.mk ((by rw [hg]; exact (below_size (by repeat (first | (with_reducible first | exact HB.out | apply below_alloc | apply pw_below_drewN | apply below_drew1) | exact HB.out))) : w.heap.size ≤ gb103)); have n3_ := n2_; clear HB; have HB := n0_; have BK103 := n1_; have GW103 := n2_; have GE103 := n3_; clear n0_ n1_ n2_ n3_; clear hb hbox hg; have hcz8_0 : w7.cell? ⟨gb103, 0, none⟩ = some (.int .i64 0) := (blk_cell BK103.out 0).trans rfl; have hcz8_1 : w7.cell? ⟨gb103, 1, none⟩ = some (.int .i64 0) := (blk_cell BK103.out 1).trans rfl; have hcz8_2 : w7.cell? ⟨gb103, 2, none⟩ = some (.int .i64 0) := (blk_cell BK103.out 2).trans rfl; have hfz8_0 := blk_frozen BK103.out 0; have hfz8_1 := blk_frozen BK103.out 1; have hfz8_2 := blk_frozen BK103.out 2)))
      (try simp only [Act.put, List.setIfInBounds_toArray, List.set_cons_zero, List.set_cons_succ])
      go_cut [25] (fun v25 wc => ∃ (kq : Nat) (x25_5 : Bool), v25 = .bool x25_5 ∧ Aside0 (spec_GoodEvents.j1 kq a0 l1 x12_1 l1 (l1.length : Int) x12_1 x25_5 ((rd_T65 l1 x12_1).f0) ((rd_T65 l1 x12_1).f1) ((rd_T65 l1 x12_1).f2) = some r) ∧ Aside0 (kq ≤ k1) ∧ Aside0 (wc.heap[gb103]? = some (.cells #[.int .i64 ((rd_T65 l1 x12_1).f0), .int .i64 ((rd_T65 l1 x12_1).f1), .int .i64 ((rd_T65 l1 x12_1).f2)] 65 (0, 0))) ∧ Aside0 (Below w.heap.size w wc))
      case first =>
       have H := HC6.out
       clear HC6
       by_cases c9 : ((rd_T65 l1 x12_1).f0) < 0
       ·rw [if_pos c9] at H
        have c9b0 : decide (((rd_T65 l1 x12_1).f0) < 0) = true := decide_eq_true c9
        clear c9
        (first | rw [c9b0] | (simp only [i64_w, i32_w]; rw [c9b0]) | skip)
        have H' := Aside0.mk H
        clear H
        have hcz10_0 : w7.cell? ⟨gb103, 0, none⟩ = some (.int .i64 0) := (blk_cell BK103.out 0).trans rfl
        have hcz10_1 : w7.cell? ⟨gb103, 1, none⟩ = some (.int .i64 0) := (blk_cell BK103.out 1).trans rfl
        have hcz10_2 : w7.cell? ⟨gb103, 2, none⟩ = some (.int .i64 0) := (blk_cell BK103.out 2).trans rfl
        have hfz10_0 := blk_frozen BK103.out 0
        have hfz10_1 := blk_frozen BK103.out 1
        have hfz10_2 := blk_frozen BK103.out 2
        go_wp2
        repeat (go_quiet (fail); try go_wp2)
        go_meet
        case rel => exact ⟨_, (true), (by first | rfl | (simp; done) | (simp [*]; done)), H', ⟨by have := HK1.out; first | omega | exact Nat.le_refl _⟩, ⟨by (with_reducible repeat (first | refine blk_drewN ?_ _ | refine blk_drew ?_ | refine blk_alloc ?_ _)); refine blk_put (cs := #[.int .i64 ((rd_T65 l1 x12_1).f0), .int .i64 ((rd_T65 l1 x12_1).f1), .int .i64 0]) ?_ 2 _ rfl; (with_reducible repeat (first | refine blk_drewN ?_ _ | refine blk_drew ?_ | refine blk_alloc ?_ _)); refine blk_put (cs := #[.int .i64 ((rd_T65 l1 x12_1).f0), .int .i64 0, .int .i64 0]) ?_ 1 _ rfl; (with_reducible repeat (first | refine blk_drewN ?_ _ | refine blk_drew ?_ | refine blk_alloc ?_ _)); refine blk_put (cs := #[.int .i64 0, .int .i64 0, .int .i64 0]) ?_ 0 _ rfl; (with_reducible repeat (first | refine blk_drewN ?_ _ | refine blk_drew ?_ | refine blk_alloc ?_ _)); exact BK103.out⟩, ⟨by repeat (first | (with_reducible first | exact HB.out | apply below_alloc | apply pw_below_drewN | apply below_drew1 | refine below_set ?_ GE103.out) | exact HB.out)⟩⟩
       ·rw [if_neg c9] at H
        have c9b0 : decide (((rd_T65 l1 x12_1).f0) < 0) = false := decide_eq_false c9
        clear c9
        (first | rw [c9b0] | (simp only [i64_w, i32_w]; rw [c9b0]) | skip)
        have H' := Aside0.mk H
        clear H
        have hcz11_0 : w7.cell? ⟨gb103, 0, none⟩ = some (.int .i64 0) := (blk_cell BK103.out 0).trans rfl
        have hcz11_1 : w7.cell? ⟨gb103, 1, none⟩ = some (.int .i64 0) := (blk_cell BK103.out 1).trans rfl
        have hcz11_2 : w7.cell? ⟨gb103, 2, none⟩ = some (.int .i64 0) := (blk_cell BK103.out 2).trans rfl
        have hfz11_0 := blk_frozen BK103.out 0
        have hfz11_1 := blk_frozen BK103.out 1
        have hfz11_2 := blk_frozen BK103.out 2
        go_wp2
        repeat (go_quiet (fail); try go_wp2)
        go_meet
        case rel => exact ⟨_, (decide (((rd_T65 l1 x12_1).f0) ≥ a0)), (by first | rfl | (simp; done) | (simp [*]; done)), H', ⟨by have := HK1.out; first | omega | exact Nat.le_refl _⟩, ⟨by (with_reducible repeat (first | refine blk_drewN ?_ _ | refine blk_drew ?_ | refine blk_alloc ?_ _)); refine blk_put (cs := #[.int .i64 ((rd_T65 l1 x12_1).f0), .int .i64 ((rd_T65 l1 x12_1).f1), .int .i64 0]) ?_ 2 _ rfl; (with_reducible repeat (first | refine blk_drewN ?_ _ | refine blk_drew ?_ | refine blk_alloc ?_ _)); refine blk_put (cs := #[.int .i64 ((rd_T65 l1 x12_1).f0), .int .i64 0, .int .i64 0]) ?_ 1 _ rfl; (with_reducible repeat (first | refine blk_drewN ?_ _ | refine blk_drew ?_ | refine blk_alloc ?_ _)); refine blk_put (cs := #[.int .i64 0, .int .i64 0, .int .i64 0]) ?_ 0 _ rfl; (with_reducible repeat (first | refine blk_drewN ?_ _ | refine blk_drew ?_ | refine blk_alloc ?_ _)); exact BK103.out⟩, ⟨by repeat (first | (with_reducible first | exact HB.out | apply below_alloc | apply pw_below_drewN | apply below_drew1 | refine below_set ?_ GE103.out) | exact HB.out)⟩⟩
      case rest =>
       clear HC6
       try clear c3
       try clear c3b0
       try clear c4
       try clear c4b0
       try clear c5
       try clear c5b0
       try clear hcz8_0
       try clear hcz8_1
       try clear hcz8_2
       try clear hfz8_0
       try clear hfz8_1
       try clear hfz8_2
       try clear hx102_0
       try clear hx102_1
       try clear hx102_2
       try clear p102
       try clear q102
       obtain ⟨kq, x25_5, rfl, HA, HJ5, BK103, HB⟩ := hcut
       cases kq with
       | zero => exact absurd HA.out (by simp [spec_GoodEvents.j1])
       | succ kj5 =>
        have H := HA.out
        clear HA
        simp only [spec_GoodEvents.j1] at H
        by_cases c12 : x25_5 = true
        ·subst c12
         rw [if_pos rfl] at H
         obtain rfl := Option.some.inj H
         go_wp2
         repeat (go_quiet (fail); try go_wp2)
         go_ret
         exact ⟨by first | rfl | (simp [errW_none, errW_some] <;> rfl) | (simp [*, errW_none, errW_some] <;> rfl), by repeat (first | (with_reducible first | exact HB.out | apply below_alloc | apply pw_below_drewN | apply below_drew1 | refine below_set ?_ GE103.out) | exact HB.out)⟩
        ·replace c12 := Bool.eq_false_iff.mpr c12
         subst c12
         rw [if_neg (show ¬ (false = true) by decide)] at H
         by_cases c13 : ((rd_T65 l1 x12_1).f1) = 1
         ·rw [if_pos c13] at H
          have c13b0 : (((rd_T65 l1 x12_1).f1) == 1) = true := beq_iff_eq.mpr c13
          have c13b1 : (((rd_T65 l1 x12_1).f1) != 1) = false := bne_eq_false_iff_eq.mpr c13
          clear c13
          by_cases c14 : ((rd_T65 l1 x12_1).f2) = 0
          ·rw [if_pos c14] at H
           have c14b0 : (((rd_T65 l1 x12_1).f2) == 0) = true := beq_iff_eq.mpr c14
           have c14b1 : (((rd_T65 l1 x12_1).f2) != 0) = false := bne_eq_false_iff_eq.mpr c14
           clear c14
           have H' := Aside0.mk H
           clear H
           have hcz15_0 : wc.cell? ⟨gb103, 0, none⟩ = some (.int .i64 ((rd_T65 l1 x12_1).f0)) := (blk_cell BK103.out 0).trans rfl
           have hcz15_1 : wc.cell? ⟨gb103, 1, none⟩ = some (.int .i64 ((rd_T65 l1 x12_1).f1)) := (blk_cell BK103.out 1).trans rfl
           have hcz15_2 : wc.cell? ⟨gb103, 2, none⟩ = some (.int .i64 ((rd_T65 l1 x12_1).f2)) := (blk_cell BK103.out 2).trans rfl
           have hfz15_0 := blk_frozen BK103.out 0
           have hfz15_1 := blk_frozen BK103.out 1
           have hfz15_2 := blk_frozen BK103.out 2
           go_wp2
           repeat (go_quiet (fail); try go_wp2)
           go_roundg kj5
           case measure => have := HK1.out; have := HJ5.out; omega
           case rel => exact ⟨(wrap64 (x12_1 + 1)), (by first | rfl | (simp; done) | (simp [*]; done)), H', ⟨by have := HK1.out; have := HJ5.out; omega⟩, ⟨by repeat (first | (with_reducible first | exact HB.out | apply below_alloc | apply pw_below_drewN | apply below_drew1 | refine below_set ?_ GE103.out) | exact HB.out)⟩⟩
          ·rw [if_neg c14] at H
           have c14b0 : (((rd_T65 l1 x12_1).f2) == 0) = false := beq_eq_false_iff_ne.mpr c14
           have c14b1 : (((rd_T65 l1 x12_1).f2) != 0) = true := bne_iff_ne.mpr c14
           obtain rfl := Option.some.inj H
           have hcz16_0 : wc.cell? ⟨gb103, 0, none⟩ = some (.int .i64 ((rd_T65 l1 x12_1).f0)) := (blk_cell BK103.out 0).trans rfl
           have hcz16_1 : wc.cell? ⟨gb103, 1, none⟩ = some (.int .i64 ((rd_T65 l1 x12_1).f1)) := (blk_cell BK103.out 1).trans rfl
           have hcz16_2 : wc.cell? ⟨gb103, 2, none⟩ = some (.int .i64 ((rd_T65 l1 x12_1).f2)) := (blk_cell BK103.out 2).trans rfl
           have hfz16_0 := blk_frozen BK103.out 0
           have hfz16_1 := blk_frozen BK103.out 1
           have hfz16_2 := blk_frozen BK103.out 2
           go_wp2
           repeat (go_quiet (fail); try go_wp2)
           go_ret
           exact ⟨by first | rfl | (simp [errW_none, errW_some] <;> rfl) | (simp [*, errW_none, errW_some] <;> rfl), by repeat (first | (with_reducible first | exact HB.out | apply below_alloc | apply pw_below_drewN | apply below_drew1 | refine below_set ?_ GE103.out) | exact HB.out)⟩
         ·rw [if_neg c13] at H
          have c13b0 : (((rd_T65 l1 x12_1).f1) == 1) = false := beq_eq_false_iff_ne.mpr c13
          have c13b1 : (((rd_T65 l1 x12_1).f1) != 1) = true := bne_iff_ne.mpr c13
          by_cases c17 : ((rd_T65 l1 x12_1).f1) = 2
          ·rw [if_pos c17] at H
           have c17b0 : (((rd_T65 l1 x12_1).f1) == 2) = true := beq_iff_eq.mpr c17
           have c17b1 : (((rd_T65 l1 x12_1).f1) != 2) = false := bne_eq_false_iff_eq.mpr c17
           clear c17
           replace H := Option.bind_eq_some_iff.mp H
           obtain ⟨t104, A180, H⟩ := H
           have A18 := Aside0.mk A180
           clear A180
           by_cases c19 : t104 = true
           ·subst c19
            rw [if_pos rfl] at H
            replace H := Option.bind_eq_some_iff.mp H
            obtain ⟨t105, A200, H⟩ := H
            have A20 := Aside0.mk A200
            clear A200
            by_cases c21 : t105 ≥ 0
            ·rw [if_pos c21] at H
             have c21b0 : decide (0 ≤ t105) = true := decide_eq_true c21
             clear c21
             obtain rfl := Option.some.inj H
             have hcz22_0 : wc.cell? ⟨gb103, 0, none⟩ = some (.int .i64 ((rd_T65 l1 x12_1).f0)) := (blk_cell BK103.out 0).trans rfl
             have hcz22_1 : wc.cell? ⟨gb103, 1, none⟩ = some (.int .i64 ((rd_T65 l1 x12_1).f1)) := (blk_cell BK103.out 1).trans rfl
             have hcz22_2 : wc.cell? ⟨gb103, 2, none⟩ = some (.int .i64 ((rd_T65 l1 x12_1).f2)) := (blk_cell BK103.out 2).trans rfl
             have hfz22_0 := blk_frozen BK103.out 0
             have hfz22_1 := blk_frozen BK103.out 1
             have hfz22_2 := blk_frozen BK103.out 2
             go_wp2_with (first | (go_at_call 51; (with_reducible refine (spec_l1In.calls ((rd_T65 l1 x12_1).f2) 1 24 true _ A18.out).mono ?_); rintro e w' ⟨rfl, ⟨nd, rfl⟩⟩; (try first | exact ⟨rfl, _, World.drewN_drewN _ _ _⟩ | exact ⟨rfl, _, Eq.trans (World.drewN_drewN _ _ _) (congrArg (World.drewN _) (Nat.add_assoc _ _ _))⟩)) | (go_at_call 52; (with_reducible refine (spec_l7Send.calls kj5 _ _ l1 ((rd_T65 l1 x12_1).f2) x12_1 t105 _ ?side1 ?side2 A20.out).mono ?_); (case side1 => repeat (first | exact (Kd.C_below HR1.out (by repeat (first | (with_reducible first | exact HB.out | apply below_alloc | apply pw_below_drewN | apply below_drew1 | refine below_set ?_ GE103.out) | exact HB.out))) | (with_reducible refine Kd.C_alloc ?_ _) | (with_reducible refine Kd.C_drewN ?_ _) | (with_reducible refine Kd.C_drew ?_))); (case side2 => exact HC1.out); rintro e w23 ⟨rfl, hb⟩; have n0_ := Aside0.mk (blk_below (g := gb103) (o := .cells #[.int .i64 ((rd_T65 l1 x12_1).f0), .int .i64 ((rd_T65 l1 x12_1).f1), .int .i64 ((rd_T65 l1 x12_1).f2)] 65 (0, 0)) (by (with_reducible repeat (first | refine blk_drewN ?_ _ | refine blk_drew ?_ | refine blk_alloc ?_ _)); exact BK103.out) hb); have n1_ := Aside0.mk (below_step (by repeat (first | (with_reducible first | exact HB.out | apply below_alloc | apply pw_below_drewN | apply below_drew1 | refine below_set ?_ GE103.out) | exact HB.out)) hb); clear BK103; clear HB; have BK103 := n0_; have HB := n1_; clear n0_ n1_; (try clear hb)))
             repeat (go_quiet (first | (go_at_call 51; (with_reducible refine (spec_l1In.calls ((rd_T65 l1 x12_1).f2) 1 24 true _ A18.out).mono ?_); rintro e w' ⟨rfl, ⟨nd, rfl⟩⟩; (try first | exact ⟨rfl, _, World.drewN_drewN _ _ _⟩ | exact ⟨rfl, _, Eq.trans (World.drewN_drewN _ _ _) (congrArg (World.drewN _) (Nat.add_assoc _ _ _))⟩)) | (go_at_call 52; (with_reducible refine (spec_l7Send.calls kj5 _ _ l1 ((rd_T65 l1 x12_1).f2) x12_1 t105 _ ?side1 ?side2 A20.out).mono ?_); (case side1 => repeat (first | exact (Kd.C_below HR1.out (by repeat (first | (with_reducible first | exact HB.out | apply below_alloc | apply pw_below_drewN | apply below_drew1 | refine below_set ?_ GE103.out) | exact HB.out))) | (with_reducible refine Kd.C_alloc ?_ _) | (with_reducible refine Kd.C_drewN ?_ _) | (with_reducible refine Kd.C_drew ?_))); (case side2 => exact HC1.out); rintro e w23 ⟨rfl, hb⟩; have n0_ := Aside0.mk (blk_below (g := gb103) (o := .cells #[.int .i64 ((rd_T65 l1 x12_1).f0), .int .i64 ((rd_T65 l1 x12_1).f1), .int .i64 ((rd_T65 l1 x12_1).f2)] 65 (0, 0)) (by (with_reducible repeat (first | refine blk_drewN ?_ _ | refine blk_drew ?_ | refine blk_alloc ?_ _)); exact BK103.out) hb); have n1_ := Aside0.mk (below_step (by repeat (first | (with_reducible first | exact HB.out | apply below_alloc | apply pw_below_drewN | apply below_drew1 | refine below_set ?_ GE103.out) | exact HB.out)) hb); clear BK103; clear HB; have BK103 := n0_; have HB := n1_; clear n0_ n1_; (try clear hb))); try go_wp2_with (first | (go_at_call 51; (with_reducible refine (spec_l1In.calls ((rd_T65 l1 x12_1).f2) 1 24 true _ A18.out).mono ?_); rintro e w' ⟨rfl, ⟨nd, rfl⟩⟩; (try first | exact ⟨rfl, _, World.drewN_drewN _ _ _⟩ | exact ⟨rfl, _, Eq.trans (World.drewN_drewN _ _ _) (congrArg (World.drewN _) (Nat.add_assoc _ _ _))⟩)) | (go_at_call 52; (with_reducible refine (spec_l7Send.calls kj5 _ _ l1 ((rd_T65 l1 x12_1).f2) x12_1 t105 _ ?side1 ?side2 A20.out).mono ?_); (case side1 => repeat (first | exact (Kd.C_below HR1.out (by repeat (first | (with_reducible first | exact HB.out | apply below_alloc | apply pw_below_drewN | apply below_drew1 | refine below_set ?_ GE103.out) | exact HB.out))) | (with_reducible refine Kd.C_alloc ?_ _) | (with_reducible refine Kd.C_drewN ?_ _) | (with_reducible refine Kd.C_drew ?_))); (case side2 => exact HC1.out); rintro e w23 ⟨rfl, hb⟩; have n0_ := Aside0.mk (blk_below (g := gb103) (o := .cells #[.int .i64 ((rd_T65 l1 x12_1).f0), .int .i64 ((rd_T65 l1 x12_1).f1), .int .i64 ((rd_T65 l1 x12_1).f2)] 65 (0, 0)) (by (with_reducible repeat (first | refine blk_drewN ?_ _ | refine blk_drew ?_ | refine blk_alloc ?_ _)); exact BK103.out) hb); have n1_ := Aside0.mk (below_step (by repeat (first | (with_reducible first | exact HB.out | apply below_alloc | apply pw_below_drewN | apply below_drew1 | refine below_set ?_ GE103.out) | exact HB.out)) hb); clear BK103; clear HB; have BK103 := n0_; have HB := n1_; clear n0_ n1_; (try clear hb))))
             go_ret
             exact ⟨by first | rfl | (simp [errW_none, errW_some] <;> rfl) | (simp [*, errW_none, errW_some] <;> rfl), by repeat (first | (with_reducible first | exact HB.out | apply below_alloc | apply pw_below_drewN | apply below_drew1 | refine below_set ?_ GE103.out) | exact HB.out)⟩
            ·rw [if_neg c21] at H
             have c21b0 : decide (0 ≤ t105) = false := decide_eq_false c21
             clear c21
             have H' := Aside0.mk H
             clear H
             have hcz24_0 : wc.cell? ⟨gb103, 0, none⟩ = some (.int .i64 ((rd_T65 l1 x12_1).f0)) := (blk_cell BK103.out 0).trans rfl
             have hcz24_1 : wc.cell? ⟨gb103, 1, none⟩ = some (.int .i64 ((rd_T65 l1 x12_1).f1)) := (blk_cell BK103.out 1).trans rfl
             have hcz24_2 : wc.cell? ⟨gb103, 2, none⟩ = some (.int .i64 ((rd_T65 l1 x12_1).f2)) := (blk_cell BK103.out 2).trans rfl
             have hfz24_0 := blk_frozen BK103.out 0
             have hfz24_1 := blk_frozen BK103.out 1
             have hfz24_2 := blk_frozen BK103.out 2
             go_wp2_with (first | (go_at_call 51; (with_reducible refine (spec_l1In.calls ((rd_T65 l1 x12_1).f2) 1 24 true _ A18.out).mono ?_); rintro e w' ⟨rfl, ⟨nd, rfl⟩⟩; (try first | exact ⟨rfl, _, World.drewN_drewN _ _ _⟩ | exact ⟨rfl, _, Eq.trans (World.drewN_drewN _ _ _) (congrArg (World.drewN _) (Nat.add_assoc _ _ _))⟩)) | (go_at_call 52; (with_reducible refine (spec_l7Send.calls kj5 _ _ l1 ((rd_T65 l1 x12_1).f2) x12_1 t105 _ ?side1 ?side2 A20.out).mono ?_); (case side1 => repeat (first | exact (Kd.C_below HR1.out (by repeat (first | (with_reducible first | exact HB.out | apply below_alloc | apply pw_below_drewN | apply below_drew1 | refine below_set ?_ GE103.out) | exact HB.out))) | (with_reducible refine Kd.C_alloc ?_ _) | (with_reducible refine Kd.C_drewN ?_ _) | (with_reducible refine Kd.C_drew ?_))); (case side2 => exact HC1.out); rintro e w25 ⟨rfl, hb⟩; have n0_ := Aside0.mk (blk_below (g := gb103) (o := .cells #[.int .i64 ((rd_T65 l1 x12_1).f0), .int .i64 ((rd_T65 l1 x12_1).f1), .int .i64 ((rd_T65 l1 x12_1).f2)] 65 (0, 0)) (by (with_reducible repeat (first | refine blk_drewN ?_ _ | refine blk_drew ?_ | refine blk_alloc ?_ _)); exact BK103.out) hb); have n1_ := Aside0.mk (below_step (by repeat (first | (with_reducible first | exact HB.out | apply below_alloc | apply pw_below_drewN | apply below_drew1 | refine below_set ?_ GE103.out) | exact HB.out)) hb); clear BK103; clear HB; have BK103 := n0_; have HB := n1_; clear n0_ n1_; (try clear hb)))
             repeat (go_quiet (first | (go_at_call 51; (with_reducible refine (spec_l1In.calls ((rd_T65 l1 x12_1).f2) 1 24 true _ A18.out).mono ?_); rintro e w' ⟨rfl, ⟨nd, rfl⟩⟩; (try first | exact ⟨rfl, _, World.drewN_drewN _ _ _⟩ | exact ⟨rfl, _, Eq.trans (World.drewN_drewN _ _ _) (congrArg (World.drewN _) (Nat.add_assoc _ _ _))⟩)) | (go_at_call 52; (with_reducible refine (spec_l7Send.calls kj5 _ _ l1 ((rd_T65 l1 x12_1).f2) x12_1 t105 _ ?side1 ?side2 A20.out).mono ?_); (case side1 => repeat (first | exact (Kd.C_below HR1.out (by repeat (first | (with_reducible first | exact HB.out | apply below_alloc | apply pw_below_drewN | apply below_drew1 | refine below_set ?_ GE103.out) | exact HB.out))) | (with_reducible refine Kd.C_alloc ?_ _) | (with_reducible refine Kd.C_drewN ?_ _) | (with_reducible refine Kd.C_drew ?_))); (case side2 => exact HC1.out); rintro e w25 ⟨rfl, hb⟩; have n0_ := Aside0.mk (blk_below (g := gb103) (o := .cells #[.int .i64 ((rd_T65 l1 x12_1).f0), .int .i64 ((rd_T65 l1 x12_1).f1), .int .i64 ((rd_T65 l1 x12_1).f2)] 65 (0, 0)) (by (with_reducible repeat (first | refine blk_drewN ?_ _ | refine blk_drew ?_ | refine blk_alloc ?_ _)); exact BK103.out) hb); have n1_ := Aside0.mk (below_step (by repeat (first | (with_reducible first | exact HB.out | apply below_alloc | apply pw_below_drewN | apply below_drew1 | refine below_set ?_ GE103.out) | exact HB.out)) hb); clear BK103; clear HB; have BK103 := n0_; have HB := n1_; clear n0_ n1_; (try clear hb))); try go_wp2_with (first | (go_at_call 51; (with_reducible refine (spec_l1In.calls ((rd_T65 l1 x12_1).f2) 1 24 true _ A18.out).mono ?_); rintro e w' ⟨rfl, ⟨nd, rfl⟩⟩; (try first | exact ⟨rfl, _, World.drewN_drewN _ _ _⟩ | exact ⟨rfl, _, Eq.trans (World.drewN_drewN _ _ _) (congrArg (World.drewN _) (Nat.add_assoc _ _ _))⟩)) | (go_at_call 52; (with_reducible refine (spec_l7Send.calls kj5 _ _ l1 ((rd_T65 l1 x12_1).f2) x12_1 t105 _ ?side1 ?side2 A20.out).mono ?_); (case side1 => repeat (first | exact (Kd.C_below HR1.out (by repeat (first | (with_reducible first | exact HB.out | apply below_alloc | apply pw_below_drewN | apply below_drew1 | refine below_set ?_ GE103.out) | exact HB.out))) | (with_reducible refine Kd.C_alloc ?_ _) | (with_reducible refine Kd.C_drewN ?_ _) | (with_reducible refine Kd.C_drew ?_))); (case side2 => exact HC1.out); rintro e w25 ⟨rfl, hb⟩; have n0_ := Aside0.mk (blk_below (g := gb103) (o := .cells #[.int .i64 ((rd_T65 l1 x12_1).f0), .int .i64 ((rd_T65 l1 x12_1).f1), .int .i64 ((rd_T65 l1 x12_1).f2)] 65 (0, 0)) (by (with_reducible repeat (first | refine blk_drewN ?_ _ | refine blk_drew ?_ | refine blk_alloc ?_ _)); exact BK103.out) hb); have n1_ := Aside0.mk (below_step (by repeat (first | (with_reducible first | exact HB.out | apply below_alloc | apply pw_below_drewN | apply below_drew1 | refine below_set ?_ GE103.out) | exact HB.out)) hb); clear BK103; clear HB; have BK103 := n0_; have HB := n1_; clear n0_ n1_; (try clear hb))))
             go_roundg kj5
             case measure => have := HK1.out; have := HJ5.out; omega
             case rel => exact ⟨(wrap64 (x12_1 + 1)), (by first | rfl | (simp; done) | (simp [*]; done)), H', ⟨by have := HK1.out; have := HJ5.out; omega⟩, ⟨by repeat (first | (with_reducible first | exact HB.out | apply below_alloc | apply pw_below_drewN | apply below_drew1 | refine below_set ?_ GE103.out) | exact HB.out)⟩⟩
           ·replace c19 := Bool.eq_false_iff.mpr c19
            subst c19
            rw [if_neg (show ¬ (false = true) by decide)] at H
            obtain rfl := Option.some.inj H
            have hcz26_0 : wc.cell? ⟨gb103, 0, none⟩ = some (.int .i64 ((rd_T65 l1 x12_1).f0)) := (blk_cell BK103.out 0).trans rfl
            have hcz26_1 : wc.cell? ⟨gb103, 1, none⟩ = some (.int .i64 ((rd_T65 l1 x12_1).f1)) := (blk_cell BK103.out 1).trans rfl
            have hcz26_2 : wc.cell? ⟨gb103, 2, none⟩ = some (.int .i64 ((rd_T65 l1 x12_1).f2)) := (blk_cell BK103.out 2).trans rfl
            have hfz26_0 := blk_frozen BK103.out 0
            have hfz26_1 := blk_frozen BK103.out 1
            have hfz26_2 := blk_frozen BK103.out 2
            go_wp2_with (first | (go_at_call 51; (with_reducible refine (spec_l1In.calls ((rd_T65 l1 x12_1).f2) 1 24 false _ A18.out).mono ?_); rintro e w' ⟨rfl, ⟨nd, rfl⟩⟩; (try first | exact ⟨rfl, _, World.drewN_drewN _ _ _⟩ | exact ⟨rfl, _, Eq.trans (World.drewN_drewN _ _ _) (congrArg (World.drewN _) (Nat.add_assoc _ _ _))⟩)))
            repeat (go_quiet (first | (go_at_call 51; (with_reducible refine (spec_l1In.calls ((rd_T65 l1 x12_1).f2) 1 24 false _ A18.out).mono ?_); rintro e w' ⟨rfl, ⟨nd, rfl⟩⟩; (try first | exact ⟨rfl, _, World.drewN_drewN _ _ _⟩ | exact ⟨rfl, _, Eq.trans (World.drewN_drewN _ _ _) (congrArg (World.drewN _) (Nat.add_assoc _ _ _))⟩))); try go_wp2_with (first | (go_at_call 51; (with_reducible refine (spec_l1In.calls ((rd_T65 l1 x12_1).f2) 1 24 false _ A18.out).mono ?_); rintro e w' ⟨rfl, ⟨nd, rfl⟩⟩; (try first | exact ⟨rfl, _, World.drewN_drewN _ _ _⟩ | exact ⟨rfl, _, Eq.trans (World.drewN_drewN _ _ _) (congrArg (World.drewN _) (Nat.add_assoc _ _ _))⟩))))
            go_ret
            exact ⟨by first | rfl | (simp [errW_none, errW_some] <;> rfl) | (simp [*, errW_none, errW_some] <;> rfl), by repeat (first | (with_reducible first | exact HB.out | apply below_alloc | apply pw_below_drewN | apply below_drew1 | refine below_set ?_ GE103.out) | exact HB.out)⟩
          ·rw [if_neg c17] at H
           have c17b0 : (((rd_T65 l1 x12_1).f1) == 2) = false := beq_eq_false_iff_ne.mpr c17
           have c17b1 : (((rd_T65 l1 x12_1).f1) != 2) = true := bne_iff_ne.mpr c17
           by_cases c27 : ((rd_T65 l1 x12_1).f1) = 3
           ·rw [if_pos c27] at H
            have c27b0 : (((rd_T65 l1 x12_1).f1) == 3) = true := beq_iff_eq.mpr c27
            have c27b1 : (((rd_T65 l1 x12_1).f1) != 3) = false := bne_eq_false_iff_eq.mpr c27
            clear c27
            replace H := Option.bind_eq_some_iff.mp H
            obtain ⟨t106, A280, H⟩ := H
            have A28 := Aside0.mk A280
            clear A280
            have HC29 := Aside0.mk H
            clear H
            have hcz30_0 : wc.cell? ⟨gb103, 0, none⟩ = some (.int .i64 ((rd_T65 l1 x12_1).f0)) := (blk_cell BK103.out 0).trans rfl
            have hcz30_1 : wc.cell? ⟨gb103, 1, none⟩ = some (.int .i64 ((rd_T65 l1 x12_1).f1)) := (blk_cell BK103.out 1).trans rfl
            have hcz30_2 : wc.cell? ⟨gb103, 2, none⟩ = some (.int .i64 ((rd_T65 l1 x12_1).f2)) := (blk_cell BK103.out 2).trans rfl
            have hfz30_0 := blk_frozen BK103.out 0
            have hfz30_1 := blk_frozen BK103.out 1
            have hfz30_2 := blk_frozen BK103.out 2
            go_upto_region 16 with (first | (go_at_call 52; (with_reducible refine (spec_l7Send.calls kj5 _ _ l1 ((rd_T65 l1 x12_1).f2) x12_1 t106 _ ?side1 ?side2 A28.out).mono ?_); (case side1 => repeat (first | exact (Kd.C_below HR1.out HB.out) | (with_reducible refine Kd.C_alloc ?_ _) | (with_reducible refine Kd.C_drewN ?_ _) | (with_reducible refine Kd.C_drew ?_))); (case side2 => exact HC1.out); rintro e w31 ⟨rfl, hb⟩; have n0_ := Aside0.mk (blk_below (g := gb103) (o := .cells #[.int .i64 ((rd_T65 l1 x12_1).f0), .int .i64 ((rd_T65 l1 x12_1).f1), .int .i64 ((rd_T65 l1 x12_1).f2)] 65 (0, 0)) (by (with_reducible repeat (first | refine blk_drewN ?_ _ | refine blk_drew ?_ | refine blk_alloc ?_ _)); exact BK103.out) hb); have n1_ := Aside0.mk (below_step (by repeat (first | (with_reducible first | exact HB.out | apply below_alloc | apply pw_below_drewN | apply below_drew1 | refine below_set ?_ GE103.out) | exact HB.out)) hb); clear BK103; clear HB; have BK103 := n0_; have HB := n1_; clear n0_ n1_; (try clear hb)))
            repeat (go_quiet (first | (go_at_call 52; (with_reducible refine (spec_l7Send.calls kj5 _ _ l1 ((rd_T65 l1 x12_1).f2) x12_1 t106 _ ?side1 ?side2 A28.out).mono ?_); (case side1 => repeat (first | exact (Kd.C_below HR1.out HB.out) | (with_reducible refine Kd.C_alloc ?_ _) | (with_reducible refine Kd.C_drewN ?_ _) | (with_reducible refine Kd.C_drew ?_))); (case side2 => exact HC1.out); rintro e w31 ⟨rfl, hb⟩; have n0_ := Aside0.mk (blk_below (g := gb103) (o := .cells #[.int .i64 ((rd_T65 l1 x12_1).f0), .int .i64 ((rd_T65 l1 x12_1).f1), .int .i64 ((rd_T65 l1 x12_1).f2)] 65 (0, 0)) (by (with_reducible repeat (first | refine blk_drewN ?_ _ | refine blk_drew ?_ | refine blk_alloc ?_ _)); exact BK103.out) hb); have n1_ := Aside0.mk (below_step (by repeat (first | (with_reducible first | exact HB.out | apply below_alloc | apply pw_below_drewN | apply below_drew1 | refine below_set ?_ GE103.out) | exact HB.out)) hb); clear BK103; clear HB; have BK103 := n0_; have HB := n1_; clear n0_ n1_; (try clear hb))); go_upto_region 16 with (first | (go_at_call 52; (with_reducible refine (spec_l7Send.calls kj5 _ _ l1 ((rd_T65 l1 x12_1).f2) x12_1 t106 _ ?side1 ?side2 A28.out).mono ?_); (case side1 => repeat (first | exact (Kd.C_below HR1.out HB.out) | (with_reducible refine Kd.C_alloc ?_ _) | (with_reducible refine Kd.C_drewN ?_ _) | (with_reducible refine Kd.C_drew ?_))); (case side2 => exact HC1.out); rintro e w31 ⟨rfl, hb⟩; have n0_ := Aside0.mk (blk_below (g := gb103) (o := .cells #[.int .i64 ((rd_T65 l1 x12_1).f0), .int .i64 ((rd_T65 l1 x12_1).f1), .int .i64 ((rd_T65 l1 x12_1).f2)] 65 (0, 0)) (by (with_reducible repeat (first | refine blk_drewN ?_ _ | refine blk_drew ?_ | refine blk_alloc ?_ _)); exact BK103.out) hb); have n1_ := Aside0.mk (below_step (by repeat (first | (with_reducible first | exact HB.out | apply below_alloc | apply pw_below_drewN | apply below_drew1 | refine below_set ?_ GE103.out) | exact HB.out)) hb); clear BK103; clear HB; have BK103 := n0_; have HB := n1_; clear n0_ n1_; (try clear hb))))
            (try simp only [Act.put, List.setIfInBounds_toArray, List.set_cons_zero, List.set_cons_succ])
            go_cut [65] (fun v65 wc => ∃ (kq : Nat) (x65_28 : Bool), v65 = .bool x65_28 ∧ Aside0 (spec_GoodEvents.j2 kq a0 l1 x12_1 l1 (l1.length : Int) x12_1 x65_28 ((rd_T65 l1 x12_1).f0) ((rd_T65 l1 x12_1).f1) ((rd_T65 l1 x12_1).f2) = some r) ∧ Aside0 (kq ≤ kj5) ∧ Aside0 (wc.heap[gb103]? = some (.cells #[.int .i64 ((rd_T65 l1 x12_1).f0), .int .i64 ((rd_T65 l1 x12_1).f1), .int .i64 ((rd_T65 l1 x12_1).f2)] 65 (0, 0))) ∧ Aside0 (Below w.heap.size w wc))
            case first =>
             have H := HC29.out
             clear HC29
             by_cases c32 : t106 < 0
             ·rw [if_pos c32] at H
              have c32b0 : decide (t106 < 0) = true := decide_eq_true c32
              clear c32
              (first | rw [c32b0] | (simp only [i64_w, i32_w]; rw [c32b0]) | skip)
              have H' := Aside0.mk H
              clear H
              go_wp2
              repeat (go_quiet (fail); try go_wp2)
              go_meet
              case rel => exact ⟨_, (true), (by first | rfl | (simp; done) | (simp [*]; done)), H', ⟨by have := HK1.out; have := HJ5.out; first | omega | exact Nat.le_refl _⟩, ⟨by (with_reducible repeat (first | refine blk_drewN ?_ _ | refine blk_drew ?_ | refine blk_alloc ?_ _)); exact BK103.out⟩, ⟨by repeat (first | (with_reducible first | exact HB.out | apply below_alloc | apply pw_below_drewN | apply below_drew1 | refine below_set ?_ GE103.out) | exact HB.out)⟩⟩
             ·rw [if_neg c32] at H
              have c32b0 : decide (t106 < 0) = false := decide_eq_false c32
              clear c32
              (first | rw [c32b0] | (simp only [i64_w, i32_w]; rw [c32b0]) | skip)
              by_cases c33 : 0 ≤ t106
              ·rw [if_pos c33] at H
               have c33b0 : decide (0 ≤ t106) = true := decide_eq_true c33
               clear c33
               by_cases c34 : t106 < (l1.length : Int)
               ·rw [if_pos c34] at H
                have c34b0 : decide (t106 < (l1.length : Int)) = true := decide_eq_true c34
                clear c34
                have H' := Aside0.mk H
                clear H
                have p107 : 0 ≤ (t106 : Int) := of_decide_eq_true (by assumption)
                have q107 : t106 < (l1.length : Int) := of_decide_eq_true (by assumption)
                obtain ⟨ad107, e107, hx107_0, hx107_1, hx107_2⟩ := at_T65 HR1.out t106 p107 q107
                obtain rfl : ad102 = ad107 := (by injection e107)
                replace hx107_0 := (HB.out.cell (World.block_lt_of_cell? w _ hx107_0)).trans hx107_0
                replace hx107_1 := (HB.out.cell (World.block_lt_of_cell? w _ hx107_1)).trans hx107_1
                replace hx107_2 := (HB.out.cell (World.block_lt_of_cell? w _ hx107_2)).trans hx107_2
                replace p107 := eq_true p107
                replace q107 := eq_true q107
                have hcz35_0 : w31.cell? ⟨gb103, 0, none⟩ = some (.int .i64 ((rd_T65 l1 x12_1).f0)) := (blk_cell BK103.out 0).trans rfl
                have hcz35_1 : w31.cell? ⟨gb103, 1, none⟩ = some (.int .i64 ((rd_T65 l1 x12_1).f1)) := (blk_cell BK103.out 1).trans rfl
                have hcz35_2 : w31.cell? ⟨gb103, 2, none⟩ = some (.int .i64 ((rd_T65 l1 x12_1).f2)) := (blk_cell BK103.out 2).trans rfl
                have hfz35_0 := blk_frozen BK103.out 0
                have hfz35_1 := blk_frozen BK103.out 1
                have hfz35_2 := blk_frozen BK103.out 2
                go_wp2
                repeat (go_quiet (fail); try go_wp2)
                go_meet
                case rel => exact ⟨_, ((((rd_T65 l1 t106).f0) == ((rd_T65 l1 x12_1).f0))), (by first | rfl | (simp; done) | (simp [*]; done)), H', ⟨by have := HK1.out; have := HJ5.out; first | omega | exact Nat.le_refl _⟩, ⟨by (with_reducible repeat (first | refine blk_drewN ?_ _ | refine blk_drew ?_ | refine blk_alloc ?_ _)); exact BK103.out⟩, ⟨by repeat (first | (with_reducible first | exact HB.out | apply below_alloc | apply pw_below_drewN | apply below_drew1 | refine below_set ?_ GE103.out) | exact HB.out)⟩⟩
               ·rw [if_neg c34] at H
                exact absurd H (by simp)
              ·rw [if_neg c33] at H
               exact absurd H (by simp)
            case rest =>
             clear HC29
             try clear c3
             try clear c3b0
             try clear c4
             try clear c4b0
             try clear c5
             try clear c5b0
             try clear c12
             try clear c13
             try clear c13b0
             try clear c13b1
             try clear c17
             try clear c17b0
             try clear c17b1
             try clear c27
             try clear c27b0
             try clear c27b1
             try clear hcz30_0
             try clear hcz30_1
             try clear hcz30_2
             try clear hcz8_0
             try clear hcz8_1
             try clear hcz8_2
             try clear hfz30_0
             try clear hfz30_1
             try clear hfz30_2
             try clear hfz8_0
             try clear hfz8_1
             try clear hfz8_2
             try clear hx102_0
             try clear hx102_1
             try clear hx102_2
             try clear p102
             try clear q102
             obtain ⟨kq, x65_28, rfl, HA, HJ28, BK103, HB⟩ := hcut
             cases kq with
             | zero => exact absurd HA.out (by simp [spec_GoodEvents.j2])
             | succ kj28 =>
              have H := HA.out
              clear HA
              simp only [spec_GoodEvents.j2] at H
              by_cases c36 : x65_28 = true
              ·subst c36
               rw [if_pos rfl] at H
               obtain rfl := Option.some.inj H
               go_wp2
               repeat (go_quiet (fail); try go_wp2)
               go_ret
               exact ⟨by first | rfl | (simp [errW_none, errW_some] <;> rfl) | (simp [*, errW_none, errW_some] <;> rfl), by repeat (first | (with_reducible first | exact HB.out | apply below_alloc | apply pw_below_drewN | apply below_drew1 | refine below_set ?_ GE103.out) | exact HB.out)⟩
              ·replace c36 := Bool.eq_false_iff.mpr c36
               subst c36
               rw [if_neg (show ¬ (false = true) by decide)] at H
               by_cases c37 : 0 ≤ x12_1
               ·rw [if_pos c37] at H
                have c37b0 := eq_true c37
                have c37b1 : decide (0 ≤ x12_1) = true := decide_eq_true c37
                clear c37
                by_cases c38 : x12_1 ≤ (l1.length : Int)
                ·rw [if_pos c38] at H
                 have c38b0 := eq_true c38
                 have c38b1 : decide (x12_1 ≤ (l1.length : Int)) = true := decide_eq_true c38
                 clear c38
                 obtain ⟨y108, hy108⟩ : ∃ y_ : List (S65), y_ = (l1.take (x12_1 : Int).toNat) := ⟨_, rfl⟩
                 replace H : (spec_GoodEvents.l1 kj28 a0 l1 l1 (l1.length : Int) x12_1 y108 (y108.length : Int) 0 ((rd_T65 l1 x12_1).f0) ((rd_T65 l1 x12_1).f1) ((rd_T65 l1 x12_1).f2)) = some r := by first | (rw [hy108]; with_reducible exact H) | (have H2_ := (Option.bind_some _ _).symm.trans H; rw [hy108]; with_reducible exact H2_) | (have H2_ := (Option.bind_some _ _).symm.trans H; with_reducible exact H2_) | with_reducible exact H | (rw [hy108]; exact H) | exact H
                 have Ny108 := Aside0.mk hy108
                 clear hy108
                 have H' := Aside0.mk H
                 clear H
                 have q39 : (x12_1 : Int) ≤ ((l1.length : Int) : Int) := of_decide_eq_true (by assumption)
                 obtain ⟨i039, hi039, _, hsz39, _⟩ := info_parts info65
                 have hroom39 : l1.length ≤ c1 := HC1.out
                 have hC39 : Kd.C k65 _ (some ad102) l1.length l1 := HR1.out
                 have hcut39 := cut_to (P := Try.prog) 33 65 .i64 Try.underlying33 hi039 (some ad102) l1.length c1 x12_1 (of_decide_eq_true (by assumption)) q39 hroom39
                 have hr39 := Kd.C_take (m := (x12_1 : Int).toNat) hC39 (by omega)
                 have hy39 : y108.length = (x12_1 : Int).toNat := (by rw [Ny108.out, List.length_take]; omega)
                 rw [← Ny108.out] at hr39
                 rw [← hy39] at hcut39
                 have HR111 := Aside0.mk hr39
                 have HC111 := Aside0.mk (show y108.length ≤ c1 from by omega)
                 clear hr39 hC39 hroom39 hi039 hsz39
                 have KY39 := Aside0.mk hy39
                 clear hy39
                 replace q39 := eq_true q39
                 go_wp2
                 repeat (go_quiet (fail); try go_wp2)
                 go_loopg [70] kj28 (fun kq v70 w' => ∃ (x70_4 : Int), v70 = .int .i64 x70_4 ∧ Aside0 (spec_GoodEvents.l1 kq a0 l1 l1 (l1.length : Int) x12_1 y108 (y108.length : Int) x70_4 ((rd_T65 l1 x12_1).f0) ((rd_T65 l1 x12_1).f1) ((rd_T65 l1 x12_1).f2) = some r) ∧ Aside0 (kq ≤ kj28) ∧ Aside0 (w'.heap[gb103]? = some (.cells #[.int .i64 ((rd_T65 l1 x12_1).f0), .int .i64 ((rd_T65 l1 x12_1).f1), .int .i64 ((rd_T65 l1 x12_1).f2)] 65 (0, 0))) ∧ Aside0 (Below w.heap.size w w'))
                 case atStart => exact ⟨(0), (by first | rfl | (simp; done) | (simp [*]; done)), H', ⟨Nat.le_refl _⟩, ⟨by (with_reducible repeat (first | refine blk_drewN ?_ _ | refine blk_drew ?_ | refine blk_alloc ?_ _)); exact BK103.out⟩, ⟨by repeat (first | (with_reducible first | exact HB.out | apply below_alloc | apply pw_below_drewN | apply below_drew1 | refine below_set ?_ GE103.out) | exact HB.out)⟩⟩
                 case round =>
                  clear H'
                  try clear c3
                  try clear c3b0
                  try clear c4
                  try clear c4b0
                  try clear c5
                  try clear c5b0
                  try clear c12
                  try clear c13
                  try clear c13b0
                  try clear c13b1
                  try clear c17
                  try clear c17b0
                  try clear c17b1
                  try clear c27
                  try clear c27b0
                  try clear c27b1
                  try clear c36
                  try clear c37
                  try clear c37b0
                  try clear c37b1
                  try clear c38
                  try clear c38b0
                  try clear c38b1
                  try clear q39
                  try clear hcz30_0
                  try clear hcz30_1
                  try clear hcz30_2
                  try clear hcz8_0
                  try clear hcz8_1
                  try clear hcz8_2
                  try clear hfz30_0
                  try clear hfz30_1
                  try clear hfz30_2
                  try clear hfz8_0
                  try clear hfz8_1
                  try clear hfz8_2
                  try clear hx102_0
                  try clear hx102_1
                  try clear hx102_2
                  try clear p102
                  try clear q102
                  try clear q39
                  obtain ⟨x70_4, rfl, HA, HK4, BK103, HB⟩ := hrel
                  cases gk with
                  | zero => exact absurd HA.out (by simp [spec_GoodEvents.l1])
                  | succ k4 =>
                   have H := HA.out
                   clear HA
                   simp only [spec_GoodEvents.l1] at H
                   by_cases c40 : x70_4 < (y108.length : Int)
                   ·rw [if_pos c40] at H
                    have c40b0 : decide (x70_4 < (y108.length : Int)) = true := decide_eq_true c40
                    clear c40
                    by_cases c41 : 0 ≤ x70_4
                    ·rw [if_pos c41] at H
                     have c41b0 : decide (0 ≤ x70_4) = true := decide_eq_true c41
                     clear c41
                     by_cases c42 : x70_4 < (y108.length : Int)
                     ·rw [if_pos c42] at H
                      have c42b0 : decide (x70_4 < (y108.length : Int)) = true := decide_eq_true c42
                      clear c42
                      by_cases c43 : (((rd_T65 y108 x70_4).f0) == ((rd_T65 l1 x12_1).f0) && (((rd_T65 y108 x70_4).f1) == ((rd_T65 l1 x12_1).f1) && (((rd_T65 y108 x70_4).f2) == ((rd_T65 l1 x12_1).f2)))) = true
                      ·rw [if_pos c43] at H
                       have c43b0 : (((rd_T65 y108 x70_4).f0) == ((rd_T65 l1 x12_1).f0) && (((rd_T65 y108 x70_4).f1) == ((rd_T65 l1 x12_1).f1) && (((rd_T65 y108 x70_4).f2) == ((rd_T65 l1 x12_1).f2)))) = true := c43
                       (try (have c43b1 : decide (((rd_T65 y108 x70_4).f0) = ((rd_T65 l1 x12_1).f0) && (((rd_T65 y108 x70_4).f1) == ((rd_T65 l1 x12_1).f1) && (((rd_T65 y108 x70_4).f2) == ((rd_T65 l1 x12_1).f2)))) = true := by simpa using c43))
                       (try (have c43b2 : (((rd_T65 y108 x70_4).f0) == ((rd_T65 l1 x12_1).f0) && (((rd_T65 y108 x70_4).f1) == ((rd_T65 l1 x12_1).f1) && (((rd_T65 y108 x70_4).f2) == ((rd_T65 l1 x12_1).f2)))) = true := by simpa using c43))
                       clear c43
                       obtain rfl := Option.some.inj H
                       have p112 : 0 ≤ (x70_4 : Int) := of_decide_eq_true (by assumption)
                       have q112 : x70_4 < (y108.length : Int) := of_decide_eq_true (by assumption)
                       obtain ⟨ad112, e112, hx112_0, hx112_1, hx112_2⟩ := at_T65 HR111.out x70_4 p112 q112
                       obtain rfl : ad102 = ad112 := (by injection e112)
                       replace hx112_0 := (HB.out.cell (World.block_lt_of_cell? w _ hx112_0)).trans hx112_0
                       replace hx112_1 := (HB.out.cell (World.block_lt_of_cell? w _ hx112_1)).trans hx112_1
                       replace hx112_2 := (HB.out.cell (World.block_lt_of_cell? w _ hx112_2)).trans hx112_2
                       replace p112 := eq_true p112
                       replace q112 := eq_true q112
                       go_wp2_with (first | ((with_reducible refine gate_dst (N := 9) rfl ?_); (try (refine gate_guard (by rfl) ?_; dsimp only)); refine box_event ?hg (N := 9) ?hd (cs := #[.int .i64 0, .int .i64 0, .int .i64 0]) (t := 65) ?hr ?_; (case hd => rfl); (case hg => rfl); (case hr => first | (go_simp; done) | (go_simp; rfl)); intro gb113 hg w44 hbox hb; have n0_ := Aside0.mk (blk_below (g := gb103) (o := .cells #[.int .i64 ((rd_T65 l1 x12_1).f0), .int .i64 ((rd_T65 l1 x12_1).f1), .int .i64 ((rd_T65 l1 x12_1).f2)] 65 (0, 0)) (by (with_reducible repeat (first | refine blk_drewN ?_ _ | refine blk_drew ?_ | refine blk_alloc ?_ _)); exact BK103.out) hb); have n1_ := Aside0.mk (below_step (by repeat (first | (with_reducible first | exact HB.out | apply below_alloc | apply pw_below_drewN | apply below_drew1 | refine below_set ?_ GE103.out) | exact HB.out)) hb); have n2_ := Aside0.mk (hbox); have n3_ := Aside0.mk ((by rw [hg]; exact (below_size (by repeat (first | (with_reducible first | exact HB.out | apply below_alloc | apply pw_below_drewN | apply below_drew1 | refine below_set ?_ GE103.out) | exact HB.out))) : w.heap.size ≤ gb113)); have n4_ := n3_; have n5_ := Aside0.mk ((by rw [hg]; exact Nat.ne_of_lt (blk_lt (g := gb103) (o := .cells #[.int .i64 ((rd_T65 l1 x12_1).f0), .int .i64 ((rd_T65 l1 x12_1).f1), .int .i64 ((rd_T65 l1 x12_1).f2)] 65 (0, 0)) (by (with_reducible repeat (first | refine blk_drewN ?_ _ | refine blk_drew ?_ | refine blk_alloc ?_ _)); exact BK103.out)) : gb103 ≠ gb113)); have n6_ := Aside0.mk n5_.out.symm; clear BK103; clear HB; have BK103 := n0_; have HB := n1_; have BK113 := n2_; have GW113 := n3_; have GE113 := n4_; have NB103_113 := n5_; have NB113_103 := n6_; clear n0_ n1_ n2_ n3_ n4_ n5_ n6_; clear hb hbox hg; have hnb45 := NB113_103.out; have hnc45 := NB103_113.out; have hcz46_0 : w44.cell? ⟨gb113, 0, none⟩ = some (.int .i64 0) := (blk_cell BK113.out 0).trans rfl; have hcz46_1 : w44.cell? ⟨gb113, 1, none⟩ = some (.int .i64 0) := (blk_cell BK113.out 1).trans rfl; have hcz46_2 : w44.cell? ⟨gb113, 2, none⟩ = some (.int .i64 0) := (blk_cell BK113.out 2).trans rfl; have hfz46_0 := blk_frozen BK113.out 0; have hfz46_1 := blk_frozen BK113.out 1; have hfz46_2 := blk_frozen BK113.out 2; have hcz47_0 : w44.cell? ⟨gb103, 0, none⟩ = some (.int .i64 ((rd_T65 l1 x12_1).f0)) := (blk_cell BK103.out 0).trans rfl; have hcz47_1 : w44.cell? ⟨gb103, 1, none⟩ = some (.int .i64 ((rd_T65 l1 x12_1).f1)) := (blk_cell BK103.out 1).trans rfl; have hcz47_2 : w44.cell? ⟨gb103, 2, none⟩ = some (.int .i64 ((rd_T65 l1 x12_1).f2)) := (blk_cell BK103.out 2).trans rfl; have hfz47_0 := blk_frozen BK103.out 0; have hfz47_1 := blk_frozen BK103.out 1; have hfz47_2 := blk_frozen BK103.out 2))
                       repeat (go_quiet (first | ((with_reducible refine gate_dst (N := 9) rfl ?_); (try (refine gate_guard (by rfl) ?_; dsimp only)); refine box_event ?hg (N := 9) ?hd (cs := #[.int .i64 0, .int .i64 0, .int .i64 0]) (t := 65) ?hr ?_; (case hd => rfl); (case hg => rfl); (case hr => first | (go_simp; done) | (go_simp; rfl)); intro gb113 hg w44 hbox hb; have n0_ := Aside0.mk (blk_below (g := gb103) (o := .cells #[.int .i64 ((rd_T65 l1 x12_1).f0), .int .i64 ((rd_T65 l1 x12_1).f1), .int .i64 ((rd_T65 l1 x12_1).f2)] 65 (0, 0)) (by (with_reducible repeat (first | refine blk_drewN ?_ _ | refine blk_drew ?_ | refine blk_alloc ?_ _)); exact BK103.out) hb); have n1_ := Aside0.mk (below_step (by repeat (first | (with_reducible first | exact HB.out | apply below_alloc | apply pw_below_drewN | apply below_drew1 | refine below_set ?_ GE103.out) | exact HB.out)) hb); have n2_ := Aside0.mk (hbox); have n3_ := Aside0.mk ((by rw [hg]; exact (below_size (by repeat (first | (with_reducible first | exact HB.out | apply below_alloc | apply pw_below_drewN | apply below_drew1 | refine below_set ?_ GE103.out) | exact HB.out))) : w.heap.size ≤ gb113)); have n4_ := n3_; have n5_ := Aside0.mk ((by rw [hg]; exact Nat.ne_of_lt (blk_lt (g := gb103) (o := .cells #[.int .i64 ((rd_T65 l1 x12_1).f0), .int .i64 ((rd_T65 l1 x12_1).f1), .int .i64 ((rd_T65 l1 x12_1).f2)] 65 (0, 0)) (by (with_reducible repeat (first | refine blk_drewN ?_ _ | refine blk_drew ?_ | refine blk_alloc ?_ _)); exact BK103.out)) : gb103 ≠ gb113)); have n6_ := Aside0.mk n5_.out.symm; clear BK103; clear HB; have BK103 := n0_; have HB := n1_; have BK113 := n2_; have GW113 := n3_; have GE113 := n4_; have NB103_113 := n5_; have NB113_103 := n6_; clear n0_ n1_ n2_ n3_ n4_ n5_ n6_; clear hb hbox hg; have hnb45 := NB113_103.out; have hnc45 := NB103_113.out; have hcz46_0 : w44.cell? ⟨gb113, 0, none⟩ = some (.int .i64 0) := (blk_cell BK113.out 0).trans rfl; have hcz46_1 : w44.cell? ⟨gb113, 1, none⟩ = some (.int .i64 0) := (blk_cell BK113.out 1).trans rfl; have hcz46_2 : w44.cell? ⟨gb113, 2, none⟩ = some (.int .i64 0) := (blk_cell BK113.out 2).trans rfl; have hfz46_0 := blk_frozen BK113.out 0; have hfz46_1 := blk_frozen BK113.out 1; have hfz46_2 := blk_frozen BK113.out 2; have hcz47_0 : w44.cell? ⟨gb103, 0, none⟩ = some (.int .i64 ((rd_T65 l1 x12_1).f0)) := (blk_cell BK103.out 0).trans rfl; have hcz47_1 : w44.cell? ⟨gb103, 1, none⟩ = some (.int .i64 ((rd_T65 l1 x12_1).f1)) := (blk_cell BK103.out 1).trans rfl; have hcz47_2 : w44.cell? ⟨gb103, 2, none⟩ = some (.int .i64 ((rd_T65 l1 x12_1).f2)) := (blk_cell BK103.out 2).trans rfl; have hfz47_0 := blk_frozen BK103.out 0; have hfz47_1 := blk_frozen BK103.out 1; have hfz47_2 := blk_frozen BK103.out 2)); try go_wp2_with (first | ((with_reducible refine gate_dst (N := 9) rfl ?_); (try (refine gate_guard (by rfl) ?_; dsimp only)); refine box_event ?hg (N := 9) ?hd (cs := #[.int .i64 0, .int .i64 0, .int .i64 0]) (t := 65) ?hr ?_; (case hd => rfl); (case hg => rfl); (case hr => first | (go_simp; done) | (go_simp; rfl)); intro gb113 hg w44 hbox hb; have n0_ := Aside0.mk (blk_below (g := gb103) (o := .cells #[.int .i64 ((rd_T65 l1 x12_1).f0), .int .i64 ((rd_T65 l1 x12_1).f1), .int .i64 ((rd_T65 l1 x12_1).f2)] 65 (0, 0)) (by (with_reducible repeat (first | refine blk_drewN ?_ _ | refine blk_drew ?_ | refine blk_alloc ?_ _)); exact BK103.out) hb); have n1_ := Aside0.mk (below_step (by repeat (first | (with_reducible first | exact HB.out | apply below_alloc | apply pw_below_drewN | apply below_drew1 | refine below_set ?_ GE103.out) | exact HB.out)) hb); have n2_ := Aside0.mk (hbox); have n3_ := Aside0.mk ((by rw [hg]; exact (below_size (by repeat (first | (with_reducible first | exact HB.out | apply below_alloc | apply pw_below_drewN | apply below_drew1 | refine below_set ?_ GE103.out) | exact HB.out))) : w.heap.size ≤ gb113)); have n4_ := n3_; have n5_ := Aside0.mk ((by rw [hg]; exact Nat.ne_of_lt (blk_lt (g := gb103) (o := .cells #[.int .i64 ((rd_T65 l1 x12_1).f0), .int .i64 ((rd_T65 l1 x12_1).f1), .int .i64 ((rd_T65 l1 x12_1).f2)] 65 (0, 0)) (by (with_reducible repeat (first | refine blk_drewN ?_ _ | refine blk_drew ?_ | refine blk_alloc ?_ _)); exact BK103.out)) : gb103 ≠ gb113)); have n6_ := Aside0.mk n5_.out.symm; clear BK103; clear HB; have BK103 := n0_; have HB := n1_; have BK113 := n2_; have GW113 := n3_; have GE113 := n4_; have NB103_113 := n5_; have NB113_103 := n6_; clear n0_ n1_ n2_ n3_ n4_ n5_ n6_; clear hb hbox hg; have hnb45 := NB113_103.out; have hnc45 := NB103_113.out; have hcz46_0 : w44.cell? ⟨gb113, 0, none⟩ = some (.int .i64 0) := (blk_cell BK113.out 0).trans rfl; have hcz46_1 : w44.cell? ⟨gb113, 1, none⟩ = some (.int .i64 0) := (blk_cell BK113.out 1).trans rfl; have hcz46_2 : w44.cell? ⟨gb113, 2, none⟩ = some (.int .i64 0) := (blk_cell BK113.out 2).trans rfl; have hfz46_0 := blk_frozen BK113.out 0; have hfz46_1 := blk_frozen BK113.out 1; have hfz46_2 := blk_frozen BK113.out 2; have hcz47_0 : w44.cell? ⟨gb103, 0, none⟩ = some (.int .i64 ((rd_T65 l1 x12_1).f0)) := (blk_cell BK103.out 0).trans rfl; have hcz47_1 : w44.cell? ⟨gb103, 1, none⟩ = some (.int .i64 ((rd_T65 l1 x12_1).f1)) := (blk_cell BK103.out 1).trans rfl; have hcz47_2 : w44.cell? ⟨gb103, 2, none⟩ = some (.int .i64 ((rd_T65 l1 x12_1).f2)) := (blk_cell BK103.out 2).trans rfl; have hfz47_0 := blk_frozen BK103.out 0; have hfz47_1 := blk_frozen BK103.out 1; have hfz47_2 := blk_frozen BK103.out 2)))
                       go_ret
                       exact ⟨by first | rfl | (simp [errW_none, errW_some] <;> rfl) | (simp [*, errW_none, errW_some] <;> rfl), by repeat (first | (with_reducible first | exact HB.out | apply below_alloc | apply pw_below_drewN | apply below_drew1 | refine below_set ?_ GE103.out | refine below_set ?_ GE113.out) | exact HB.out)⟩
                      ·rw [if_neg c43] at H
                       have c43b0 : (((rd_T65 y108 x70_4).f0) == ((rd_T65 l1 x12_1).f0) && (((rd_T65 y108 x70_4).f1) == ((rd_T65 l1 x12_1).f1) && (((rd_T65 y108 x70_4).f2) == ((rd_T65 l1 x12_1).f2)))) = false := by simpa using c43
                       (try (have c43b1 : decide (((rd_T65 y108 x70_4).f0) = ((rd_T65 l1 x12_1).f0) && (((rd_T65 y108 x70_4).f1) == ((rd_T65 l1 x12_1).f1) && (((rd_T65 y108 x70_4).f2) == ((rd_T65 l1 x12_1).f2)))) = false := by simpa using c43))
                       (try (have c43b2 : (((rd_T65 y108 x70_4).f0) == ((rd_T65 l1 x12_1).f0) && (((rd_T65 y108 x70_4).f1) == ((rd_T65 l1 x12_1).f1) && (((rd_T65 y108 x70_4).f2) == ((rd_T65 l1 x12_1).f2)))) = false := by simpa using c43))
                       (try (have c43b3 : ¬ (((rd_T65 y108 x70_4).f0) = ((rd_T65 l1 x12_1).f0) && (((rd_T65 y108 x70_4).f1) == ((rd_T65 l1 x12_1).f1) && (((rd_T65 y108 x70_4).f2) == ((rd_T65 l1 x12_1).f2)))) := by simpa using c43))
                       clear c43
                       by_cases c48 : ((rd_T65 y108 x70_4).f1) = 3
                       ·rw [if_pos c48] at H
                        have c48b0 : (((rd_T65 y108 x70_4).f1) == 3) = true := beq_iff_eq.mpr c48
                        have c48b1 : (((rd_T65 y108 x70_4).f1) != 3) = false := bne_eq_false_iff_eq.mpr c48
                        (try (have c48bz := c43b0; rw [c48b0, Bool.and_true] at c48bz))
                        clear c48
                        by_cases c49 : ((rd_T65 y108 x70_4).f2) = ((rd_T65 l1 x12_1).f2)
                        ·rw [if_pos c49] at H
                         have c49b0 : (((rd_T65 y108 x70_4).f2) == ((rd_T65 l1 x12_1).f2)) = true := beq_iff_eq.mpr c49
                         have c49b1 : (((rd_T65 y108 x70_4).f2) != ((rd_T65 l1 x12_1).f2)) = false := bne_eq_false_iff_eq.mpr c49
                         (try (have c49bz := c43b0; rw [c49b0, Bool.and_true] at c49bz))
                         clear c49
                         obtain rfl := Option.some.inj H
                         have p112 : 0 ≤ (x70_4 : Int) := of_decide_eq_true (by assumption)
                         have q112 : x70_4 < (y108.length : Int) := of_decide_eq_true (by assumption)
                         obtain ⟨ad112, e112, hx112_0, hx112_1, hx112_2⟩ := at_T65 HR111.out x70_4 p112 q112
                         obtain rfl : ad102 = ad112 := (by injection e112)
                         replace hx112_0 := (HB.out.cell (World.block_lt_of_cell? w _ hx112_0)).trans hx112_0
                         replace hx112_1 := (HB.out.cell (World.block_lt_of_cell? w _ hx112_1)).trans hx112_1
                         replace hx112_2 := (HB.out.cell (World.block_lt_of_cell? w _ hx112_2)).trans hx112_2
                         replace p112 := eq_true p112
                         replace q112 := eq_true q112
                         go_wp2_with (first | ((with_reducible refine gate_dst (N := 9) rfl ?_); (try (refine gate_guard (by rfl) ?_; dsimp only)); refine box_event ?hg (N := 9) ?hd (cs := #[.int .i64 0, .int .i64 0, .int .i64 0]) (t := 65) ?hr ?_; (case hd => rfl); (case hg => rfl); (case hr => first | (go_simp; done) | (go_simp; rfl)); intro gb113 hg w50 hbox hb; have n0_ := Aside0.mk (blk_below (g := gb103) (o := .cells #[.int .i64 ((rd_T65 l1 x12_1).f0), .int .i64 ((rd_T65 l1 x12_1).f1), .int .i64 ((rd_T65 l1 x12_1).f2)] 65 (0, 0)) (by (with_reducible repeat (first | refine blk_drewN ?_ _ | refine blk_drew ?_ | refine blk_alloc ?_ _)); exact BK103.out) hb); have n1_ := Aside0.mk (below_step (by repeat (first | (with_reducible first | exact HB.out | apply below_alloc | apply pw_below_drewN | apply below_drew1 | refine below_set ?_ GE103.out) | exact HB.out)) hb); have n2_ := Aside0.mk (hbox); have n3_ := Aside0.mk ((by rw [hg]; exact (below_size (by repeat (first | (with_reducible first | exact HB.out | apply below_alloc | apply pw_below_drewN | apply below_drew1 | refine below_set ?_ GE103.out) | exact HB.out))) : w.heap.size ≤ gb113)); have n4_ := n3_; have n5_ := Aside0.mk ((by rw [hg]; exact Nat.ne_of_lt (blk_lt (g := gb103) (o := .cells #[.int .i64 ((rd_T65 l1 x12_1).f0), .int .i64 ((rd_T65 l1 x12_1).f1), .int .i64 ((rd_T65 l1 x12_1).f2)] 65 (0, 0)) (by (with_reducible repeat (first | refine blk_drewN ?_ _ | refine blk_drew ?_ | refine blk_alloc ?_ _)); exact BK103.out)) : gb103 ≠ gb113)); have n6_ := Aside0.mk n5_.out.symm; clear BK103; clear HB; have BK103 := n0_; have HB := n1_; have BK113 := n2_; have GW113 := n3_; have GE113 := n4_; have NB103_113 := n5_; have NB113_103 := n6_; clear n0_ n1_ n2_ n3_ n4_ n5_ n6_; clear hb hbox hg; have hnb51 := NB113_103.out; have hnc51 := NB103_113.out; have hcz52_0 : w50.cell? ⟨gb113, 0, none⟩ = some (.int .i64 0) := (blk_cell BK113.out 0).trans rfl; have hcz52_1 : w50.cell? ⟨gb113, 1, none⟩ = some (.int .i64 0) := (blk_cell BK113.out 1).trans rfl; have hcz52_2 : w50.cell? ⟨gb113, 2, none⟩ = some (.int .i64 0) := (blk_cell BK113.out 2).trans rfl; have hfz52_0 := blk_frozen BK113.out 0; have hfz52_1 := blk_frozen BK113.out 1; have hfz52_2 := blk_frozen BK113.out 2; have hcz53_0 : w50.cell? ⟨gb103, 0, none⟩ = some (.int .i64 ((rd_T65 l1 x12_1).f0)) := (blk_cell BK103.out 0).trans rfl; have hcz53_1 : w50.cell? ⟨gb103, 1, none⟩ = some (.int .i64 ((rd_T65 l1 x12_1).f1)) := (blk_cell BK103.out 1).trans rfl; have hcz53_2 : w50.cell? ⟨gb103, 2, none⟩ = some (.int .i64 ((rd_T65 l1 x12_1).f2)) := (blk_cell BK103.out 2).trans rfl; have hfz53_0 := blk_frozen BK103.out 0; have hfz53_1 := blk_frozen BK103.out 1; have hfz53_2 := blk_frozen BK103.out 2))
                         repeat (go_quiet (first | ((with_reducible refine gate_dst (N := 9) rfl ?_); (try (refine gate_guard (by rfl) ?_; dsimp only)); refine box_event ?hg (N := 9) ?hd (cs := #[.int .i64 0, .int .i64 0, .int .i64 0]) (t := 65) ?hr ?_; (case hd => rfl); (case hg => rfl); (case hr => first | (go_simp; done) | (go_simp; rfl)); intro gb113 hg w50 hbox hb; have n0_ := Aside0.mk (blk_below (g := gb103) (o := .cells #[.int .i64 ((rd_T65 l1 x12_1).f0), .int .i64 ((rd_T65 l1 x12_1).f1), .int .i64 ((rd_T65 l1 x12_1).f2)] 65 (0, 0)) (by (with_reducible repeat (first | refine blk_drewN ?_ _ | refine blk_drew ?_ | refine blk_alloc ?_ _)); exact BK103.out) hb); have n1_ := Aside0.mk (below_step (by repeat (first | (with_reducible first | exact HB.out | apply below_alloc | apply pw_below_drewN | apply below_drew1 | refine below_set ?_ GE103.out) | exact HB.out)) hb); have n2_ := Aside0.mk (hbox); have n3_ := Aside0.mk ((by rw [hg]; exact (below_size (by repeat (first | (with_reducible first | exact HB.out | apply below_alloc | apply pw_below_drewN | apply below_drew1 | refine below_set ?_ GE103.out) | exact HB.out))) : w.heap.size ≤ gb113)); have n4_ := n3_; have n5_ := Aside0.mk ((by rw [hg]; exact Nat.ne_of_lt (blk_lt (g := gb103) (o := .cells #[.int .i64 ((rd_T65 l1 x12_1).f0), .int .i64 ((rd_T65 l1 x12_1).f1), .int .i64 ((rd_T65 l1 x12_1).f2)] 65 (0, 0)) (by (with_reducible repeat (first | refine blk_drewN ?_ _ | refine blk_drew ?_ | refine blk_alloc ?_ _)); exact BK103.out)) : gb103 ≠ gb113)); have n6_ := Aside0.mk n5_.out.symm; clear BK103; clear HB; have BK103 := n0_; have HB := n1_; have BK113 := n2_; have GW113 := n3_; have GE113 := n4_; have NB103_113 := n5_; have NB113_103 := n6_; clear n0_ n1_ n2_ n3_ n4_ n5_ n6_; clear hb hbox hg; have hnb51 := NB113_103.out; have hnc51 := NB103_113.out; have hcz52_0 : w50.cell? ⟨gb113, 0, none⟩ = some (.int .i64 0) := (blk_cell BK113.out 0).trans rfl; have hcz52_1 : w50.cell? ⟨gb113, 1, none⟩ = some (.int .i64 0) := (blk_cell BK113.out 1).trans rfl; have hcz52_2 : w50.cell? ⟨gb113, 2, none⟩ = some (.int .i64 0) := (blk_cell BK113.out 2).trans rfl; have hfz52_0 := blk_frozen BK113.out 0; have hfz52_1 := blk_frozen BK113.out 1; have hfz52_2 := blk_frozen BK113.out 2; have hcz53_0 : w50.cell? ⟨gb103, 0, none⟩ = some (.int .i64 ((rd_T65 l1 x12_1).f0)) := (blk_cell BK103.out 0).trans rfl; have hcz53_1 : w50.cell? ⟨gb103, 1, none⟩ = some (.int .i64 ((rd_T65 l1 x12_1).f1)) := (blk_cell BK103.out 1).trans rfl; have hcz53_2 : w50.cell? ⟨gb103, 2, none⟩ = some (.int .i64 ((rd_T65 l1 x12_1).f2)) := (blk_cell BK103.out 2).trans rfl; have hfz53_0 := blk_frozen BK103.out 0; have hfz53_1 := blk_frozen BK103.out 1; have hfz53_2 := blk_frozen BK103.out 2)); try go_wp2_with (first | ((with_reducible refine gate_dst (N := 9) rfl ?_); (try (refine gate_guard (by rfl) ?_; dsimp only)); refine box_event ?hg (N := 9) ?hd (cs := #[.int .i64 0, .int .i64 0, .int .i64 0]) (t := 65) ?hr ?_; (case hd => rfl); (case hg => rfl); (case hr => first | (go_simp; done) | (go_simp; rfl)); intro gb113 hg w50 hbox hb; have n0_ := Aside0.mk (blk_below (g := gb103) (o := .cells #[.int .i64 ((rd_T65 l1 x12_1).f0), .int .i64 ((rd_T65 l1 x12_1).f1), .int .i64 ((rd_T65 l1 x12_1).f2)] 65 (0, 0)) (by (with_reducible repeat (first | refine blk_drewN ?_ _ | refine blk_drew ?_ | refine blk_alloc ?_ _)); exact BK103.out) hb); have n1_ := Aside0.mk (below_step (by repeat (first | (with_reducible first | exact HB.out | apply below_alloc | apply pw_below_drewN | apply below_drew1 | refine below_set ?_ GE103.out) | exact HB.out)) hb); have n2_ := Aside0.mk (hbox); have n3_ := Aside0.mk ((by rw [hg]; exact (below_size (by repeat (first | (with_reducible first | exact HB.out | apply below_alloc | apply pw_below_drewN | apply below_drew1 | refine below_set ?_ GE103.out) | exact HB.out))) : w.heap.size ≤ gb113)); have n4_ := n3_; have n5_ := Aside0.mk ((by rw [hg]; exact Nat.ne_of_lt (blk_lt (g := gb103) (o := .cells #[.int .i64 ((rd_T65 l1 x12_1).f0), .int .i64 ((rd_T65 l1 x12_1).f1), .int .i64 ((rd_T65 l1 x12_1).f2)] 65 (0, 0)) (by (with_reducible repeat (first | refine blk_drewN ?_ _ | refine blk_drew ?_ | refine blk_alloc ?_ _)); exact BK103.out)) : gb103 ≠ gb113)); have n6_ := Aside0.mk n5_.out.symm; clear BK103; clear HB; have BK103 := n0_; have HB := n1_; have BK113 := n2_; have GW113 := n3_; have GE113 := n4_; have NB103_113 := n5_; have NB113_103 := n6_; clear n0_ n1_ n2_ n3_ n4_ n5_ n6_; clear hb hbox hg; have hnb51 := NB113_103.out; have hnc51 := NB103_113.out; have hcz52_0 : w50.cell? ⟨gb113, 0, none⟩ = some (.int .i64 0) := (blk_cell BK113.out 0).trans rfl; have hcz52_1 : w50.cell? ⟨gb113, 1, none⟩ = some (.int .i64 0) := (blk_cell BK113.out 1).trans rfl; have hcz52_2 : w50.cell? ⟨gb113, 2, none⟩ = some (.int .i64 0) := (blk_cell BK113.out 2).trans rfl; have hfz52_0 := blk_frozen BK113.out 0; have hfz52_1 := blk_frozen BK113.out 1; have hfz52_2 := blk_frozen BK113.out 2; have hcz53_0 : w50.cell? ⟨gb103, 0, none⟩ = some (.int .i64 ((rd_T65 l1 x12_1).f0)) := (blk_cell BK103.out 0).trans rfl; have hcz53_1 : w50.cell? ⟨gb103, 1, none⟩ = some (.int .i64 ((rd_T65 l1 x12_1).f1)) := (blk_cell BK103.out 1).trans rfl; have hcz53_2 : w50.cell? ⟨gb103, 2, none⟩ = some (.int .i64 ((rd_T65 l1 x12_1).f2)) := (blk_cell BK103.out 2).trans rfl; have hfz53_0 := blk_frozen BK103.out 0; have hfz53_1 := blk_frozen BK103.out 1; have hfz53_2 := blk_frozen BK103.out 2)))
                         go_ret
                         exact ⟨by first | rfl | (simp [errW_none, errW_some] <;> rfl) | (simp [*, errW_none, errW_some] <;> rfl), by repeat (first | (with_reducible first | exact HB.out | apply below_alloc | apply pw_below_drewN | apply below_drew1 | refine below_set ?_ GE103.out | refine below_set ?_ GE113.out) | exact HB.out)⟩
                        ·rw [if_neg c49] at H
                         have c49b0 : (((rd_T65 y108 x70_4).f2) == ((rd_T65 l1 x12_1).f2)) = false := beq_eq_false_iff_ne.mpr c49
                         have c49b1 : (((rd_T65 y108 x70_4).f2) != ((rd_T65 l1 x12_1).f2)) = true := bne_iff_ne.mpr c49
                         have H' := Aside0.mk H
                         clear H
                         have p112 : 0 ≤ (x70_4 : Int) := of_decide_eq_true (by assumption)
                         have q112 : x70_4 < (y108.length : Int) := of_decide_eq_true (by assumption)
                         obtain ⟨ad112, e112, hx112_0, hx112_1, hx112_2⟩ := at_T65 HR111.out x70_4 p112 q112
                         obtain rfl : ad102 = ad112 := (by injection e112)
                         replace hx112_0 := (HB.out.cell (World.block_lt_of_cell? w _ hx112_0)).trans hx112_0
                         replace hx112_1 := (HB.out.cell (World.block_lt_of_cell? w _ hx112_1)).trans hx112_1
                         replace hx112_2 := (HB.out.cell (World.block_lt_of_cell? w _ hx112_2)).trans hx112_2
                         replace p112 := eq_true p112
                         replace q112 := eq_true q112
                         go_wp2_with (first | ((with_reducible refine gate_dst (N := 9) rfl ?_); (try (refine gate_guard (by rfl) ?_; dsimp only)); refine box_event ?hg (N := 9) ?hd (cs := #[.int .i64 0, .int .i64 0, .int .i64 0]) (t := 65) ?hr ?_; (case hd => rfl); (case hg => rfl); (case hr => first | (go_simp; done) | (go_simp; rfl)); intro gb113 hg w54 hbox hb; have n0_ := Aside0.mk (blk_below (g := gb103) (o := .cells #[.int .i64 ((rd_T65 l1 x12_1).f0), .int .i64 ((rd_T65 l1 x12_1).f1), .int .i64 ((rd_T65 l1 x12_1).f2)] 65 (0, 0)) (by (with_reducible repeat (first | refine blk_drewN ?_ _ | refine blk_drew ?_ | refine blk_alloc ?_ _)); exact BK103.out) hb); have n1_ := Aside0.mk (below_step (by repeat (first | (with_reducible first | exact HB.out | apply below_alloc | apply pw_below_drewN | apply below_drew1 | refine below_set ?_ GE103.out) | exact HB.out)) hb); have n2_ := Aside0.mk (hbox); have n3_ := Aside0.mk ((by rw [hg]; exact (below_size (by repeat (first | (with_reducible first | exact HB.out | apply below_alloc | apply pw_below_drewN | apply below_drew1 | refine below_set ?_ GE103.out) | exact HB.out))) : w.heap.size ≤ gb113)); have n4_ := n3_; have n5_ := Aside0.mk ((by rw [hg]; exact Nat.ne_of_lt (blk_lt (g := gb103) (o := .cells #[.int .i64 ((rd_T65 l1 x12_1).f0), .int .i64 ((rd_T65 l1 x12_1).f1), .int .i64 ((rd_T65 l1 x12_1).f2)] 65 (0, 0)) (by (with_reducible repeat (first | refine blk_drewN ?_ _ | refine blk_drew ?_ | refine blk_alloc ?_ _)); exact BK103.out)) : gb103 ≠ gb113)); have n6_ := Aside0.mk n5_.out.symm; clear BK103; clear HB; have BK103 := n0_; have HB := n1_; have BK113 := n2_; have GW113 := n3_; have GE113 := n4_; have NB103_113 := n5_; have NB113_103 := n6_; clear n0_ n1_ n2_ n3_ n4_ n5_ n6_; clear hb hbox hg; have hnb55 := NB113_103.out; have hnc55 := NB103_113.out; have hcz56_0 : w54.cell? ⟨gb113, 0, none⟩ = some (.int .i64 0) := (blk_cell BK113.out 0).trans rfl; have hcz56_1 : w54.cell? ⟨gb113, 1, none⟩ = some (.int .i64 0) := (blk_cell BK113.out 1).trans rfl; have hcz56_2 : w54.cell? ⟨gb113, 2, none⟩ = some (.int .i64 0) := (blk_cell BK113.out 2).trans rfl; have hfz56_0 := blk_frozen BK113.out 0; have hfz56_1 := blk_frozen BK113.out 1; have hfz56_2 := blk_frozen BK113.out 2; have hcz57_0 : w54.cell? ⟨gb103, 0, none⟩ = some (.int .i64 ((rd_T65 l1 x12_1).f0)) := (blk_cell BK103.out 0).trans rfl; have hcz57_1 : w54.cell? ⟨gb103, 1, none⟩ = some (.int .i64 ((rd_T65 l1 x12_1).f1)) := (blk_cell BK103.out 1).trans rfl; have hcz57_2 : w54.cell? ⟨gb103, 2, none⟩ = some (.int .i64 ((rd_T65 l1 x12_1).f2)) := (blk_cell BK103.out 2).trans rfl; have hfz57_0 := blk_frozen BK103.out 0; have hfz57_1 := blk_frozen BK103.out 1; have hfz57_2 := blk_frozen BK103.out 2))
                         repeat (go_quiet (first | ((with_reducible refine gate_dst (N := 9) rfl ?_); (try (refine gate_guard (by rfl) ?_; dsimp only)); refine box_event ?hg (N := 9) ?hd (cs := #[.int .i64 0, .int .i64 0, .int .i64 0]) (t := 65) ?hr ?_; (case hd => rfl); (case hg => rfl); (case hr => first | (go_simp; done) | (go_simp; rfl)); intro gb113 hg w54 hbox hb; have n0_ := Aside0.mk (blk_below (g := gb103) (o := .cells #[.int .i64 ((rd_T65 l1 x12_1).f0), .int .i64 ((rd_T65 l1 x12_1).f1), .int .i64 ((rd_T65 l1 x12_1).f2)] 65 (0, 0)) (by (with_reducible repeat (first | refine blk_drewN ?_ _ | refine blk_drew ?_ | refine blk_alloc ?_ _)); exact BK103.out) hb); have n1_ := Aside0.mk (below_step (by repeat (first | (with_reducible first | exact HB.out | apply below_alloc | apply pw_below_drewN | apply below_drew1 | refine below_set ?_ GE103.out) | exact HB.out)) hb); have n2_ := Aside0.mk (hbox); have n3_ := Aside0.mk ((by rw [hg]; exact (below_size (by repeat (first | (with_reducible first | exact HB.out | apply below_alloc | apply pw_below_drewN | apply below_drew1 | refine below_set ?_ GE103.out) | exact HB.out))) : w.heap.size ≤ gb113)); have n4_ := n3_; have n5_ := Aside0.mk ((by rw [hg]; exact Nat.ne_of_lt (blk_lt (g := gb103) (o := .cells #[.int .i64 ((rd_T65 l1 x12_1).f0), .int .i64 ((rd_T65 l1 x12_1).f1), .int .i64 ((rd_T65 l1 x12_1).f2)] 65 (0, 0)) (by (with_reducible repeat (first | refine blk_drewN ?_ _ | refine blk_drew ?_ | refine blk_alloc ?_ _)); exact BK103.out)) : gb103 ≠ gb113)); have n6_ := Aside0.mk n5_.out.symm; clear BK103; clear HB; have BK103 := n0_; have HB := n1_; have BK113 := n2_; have GW113 := n3_; have GE113 := n4_; have NB103_113 := n5_; have NB113_103 := n6_; clear n0_ n1_ n2_ n3_ n4_ n5_ n6_; clear hb hbox hg; have hnb55 := NB113_103.out; have hnc55 := NB103_113.out; have hcz56_0 : w54.cell? ⟨gb113, 0, none⟩ = some (.int .i64 0) := (blk_cell BK113.out 0).trans rfl; have hcz56_1 : w54.cell? ⟨gb113, 1, none⟩ = some (.int .i64 0) := (blk_cell BK113.out 1).trans rfl; have hcz56_2 : w54.cell? ⟨gb113, 2, none⟩ = some (.int .i64 0) := (blk_cell BK113.out 2).trans rfl; have hfz56_0 := blk_frozen BK113.out 0; have hfz56_1 := blk_frozen BK113.out 1; have hfz56_2 := blk_frozen BK113.out 2; have hcz57_0 : w54.cell? ⟨gb103, 0, none⟩ = some (.int .i64 ((rd_T65 l1 x12_1).f0)) := (blk_cell BK103.out 0).trans rfl; have hcz57_1 : w54.cell? ⟨gb103, 1, none⟩ = some (.int .i64 ((rd_T65 l1 x12_1).f1)) := (blk_cell BK103.out 1).trans rfl; have hcz57_2 : w54.cell? ⟨gb103, 2, none⟩ = some (.int .i64 ((rd_T65 l1 x12_1).f2)) := (blk_cell BK103.out 2).trans rfl; have hfz57_0 := blk_frozen BK103.out 0; have hfz57_1 := blk_frozen BK103.out 1; have hfz57_2 := blk_frozen BK103.out 2)); try go_wp2_with (first | ((with_reducible refine gate_dst (N := 9) rfl ?_); (try (refine gate_guard (by rfl) ?_; dsimp only)); refine box_event ?hg (N := 9) ?hd (cs := #[.int .i64 0, .int .i64 0, .int .i64 0]) (t := 65) ?hr ?_; (case hd => rfl); (case hg => rfl); (case hr => first | (go_simp; done) | (go_simp; rfl)); intro gb113 hg w54 hbox hb; have n0_ := Aside0.mk (blk_below (g := gb103) (o := .cells #[.int .i64 ((rd_T65 l1 x12_1).f0), .int .i64 ((rd_T65 l1 x12_1).f1), .int .i64 ((rd_T65 l1 x12_1).f2)] 65 (0, 0)) (by (with_reducible repeat (first | refine blk_drewN ?_ _ | refine blk_drew ?_ | refine blk_alloc ?_ _)); exact BK103.out) hb); have n1_ := Aside0.mk (below_step (by repeat (first | (with_reducible first | exact HB.out | apply below_alloc | apply pw_below_drewN | apply below_drew1 | refine below_set ?_ GE103.out) | exact HB.out)) hb); have n2_ := Aside0.mk (hbox); have n3_ := Aside0.mk ((by rw [hg]; exact (below_size (by repeat (first | (with_reducible first | exact HB.out | apply below_alloc | apply pw_below_drewN | apply below_drew1 | refine below_set ?_ GE103.out) | exact HB.out))) : w.heap.size ≤ gb113)); have n4_ := n3_; have n5_ := Aside0.mk ((by rw [hg]; exact Nat.ne_of_lt (blk_lt (g := gb103) (o := .cells #[.int .i64 ((rd_T65 l1 x12_1).f0), .int .i64 ((rd_T65 l1 x12_1).f1), .int .i64 ((rd_T65 l1 x12_1).f2)] 65 (0, 0)) (by (with_reducible repeat (first | refine blk_drewN ?_ _ | refine blk_drew ?_ | refine blk_alloc ?_ _)); exact BK103.out)) : gb103 ≠ gb113)); have n6_ := Aside0.mk n5_.out.symm; clear BK103; clear HB; have BK103 := n0_; have HB := n1_; have BK113 := n2_; have GW113 := n3_; have GE113 := n4_; have NB103_113 := n5_; have NB113_103 := n6_; clear n0_ n1_ n2_ n3_ n4_ n5_ n6_; clear hb hbox hg; have hnb55 := NB113_103.out; have hnc55 := NB103_113.out; have hcz56_0 : w54.cell? ⟨gb113, 0, none⟩ = some (.int .i64 0) := (blk_cell BK113.out 0).trans rfl; have hcz56_1 : w54.cell? ⟨gb113, 1, none⟩ = some (.int .i64 0) := (blk_cell BK113.out 1).trans rfl; have hcz56_2 : w54.cell? ⟨gb113, 2, none⟩ = some (.int .i64 0) := (blk_cell BK113.out 2).trans rfl; have hfz56_0 := blk_frozen BK113.out 0; have hfz56_1 := blk_frozen BK113.out 1; have hfz56_2 := blk_frozen BK113.out 2; have hcz57_0 : w54.cell? ⟨gb103, 0, none⟩ = some (.int .i64 ((rd_T65 l1 x12_1).f0)) := (blk_cell BK103.out 0).trans rfl; have hcz57_1 : w54.cell? ⟨gb103, 1, none⟩ = some (.int .i64 ((rd_T65 l1 x12_1).f1)) := (blk_cell BK103.out 1).trans rfl; have hcz57_2 : w54.cell? ⟨gb103, 2, none⟩ = some (.int .i64 ((rd_T65 l1 x12_1).f2)) := (blk_cell BK103.out 2).trans rfl; have hfz57_0 := blk_frozen BK103.out 0; have hfz57_1 := blk_frozen BK103.out 1; have hfz57_2 := blk_frozen BK103.out 2)))
                         go_roundg k4
                         case measure => have := HK1.out; have := HJ5.out; have := HJ28.out; have := HK4.out; omega
                         case rel => exact ⟨(wrap64 (x70_4 + 1)), (by first | rfl | (simp; done) | (simp [*]; done)), H', ⟨by have := HK1.out; have := HJ5.out; have := HJ28.out; have := HK4.out; omega⟩, ⟨by (with_reducible repeat (first | refine blk_drewN ?_ _ | refine blk_drew ?_ | refine blk_alloc ?_ _)); refine blk_far ?_ NB103_113.out _; (with_reducible repeat (first | refine blk_drewN ?_ _ | refine blk_drew ?_ | refine blk_alloc ?_ _)); refine blk_far ?_ NB103_113.out _; (with_reducible repeat (first | refine blk_drewN ?_ _ | refine blk_drew ?_ | refine blk_alloc ?_ _)); refine blk_far ?_ NB103_113.out _; (with_reducible repeat (first | refine blk_drewN ?_ _ | refine blk_drew ?_ | refine blk_alloc ?_ _)); exact BK103.out⟩, ⟨by repeat (first | (with_reducible first | exact HB.out | apply below_alloc | apply pw_below_drewN | apply below_drew1 | refine below_set ?_ GE103.out | refine below_set ?_ GE113.out) | exact HB.out)⟩⟩
                       ·rw [if_neg c48] at H
                        have c48b0 : (((rd_T65 y108 x70_4).f1) == 3) = false := beq_eq_false_iff_ne.mpr c48
                        have c48b1 : (((rd_T65 y108 x70_4).f1) != 3) = true := bne_iff_ne.mpr c48
                        have H' := Aside0.mk H
                        clear H
                        have p112 : 0 ≤ (x70_4 : Int) := of_decide_eq_true (by assumption)
                        have q112 : x70_4 < (y108.length : Int) := of_decide_eq_true (by assumption)
                        obtain ⟨ad112, e112, hx112_0, hx112_1, hx112_2⟩ := at_T65 HR111.out x70_4 p112 q112
                        obtain rfl : ad102 = ad112 := (by injection e112)
                        replace hx112_0 := (HB.out.cell (World.block_lt_of_cell? w _ hx112_0)).trans hx112_0
                        replace hx112_1 := (HB.out.cell (World.block_lt_of_cell? w _ hx112_1)).trans hx112_1
                        replace hx112_2 := (HB.out.cell (World.block_lt_of_cell? w _ hx112_2)).trans hx112_2
                        replace p112 := eq_true p112
                        replace q112 := eq_true q112
                        go_wp2_with (first | ((with_reducible refine gate_dst (N := 9) rfl ?_); (try (refine gate_guard (by rfl) ?_; dsimp only)); refine box_event ?hg (N := 9) ?hd (cs := #[.int .i64 0, .int .i64 0, .int .i64 0]) (t := 65) ?hr ?_; (case hd => rfl); (case hg => rfl); (case hr => first | (go_simp; done) | (go_simp; rfl)); intro gb113 hg w58 hbox hb; have n0_ := Aside0.mk (blk_below (g := gb103) (o := .cells #[.int .i64 ((rd_T65 l1 x12_1).f0), .int .i64 ((rd_T65 l1 x12_1).f1), .int .i64 ((rd_T65 l1 x12_1).f2)] 65 (0, 0)) (by (with_reducible repeat (first | refine blk_drewN ?_ _ | refine blk_drew ?_ | refine blk_alloc ?_ _)); exact BK103.out) hb); have n1_ := Aside0.mk (below_step (by repeat (first | (with_reducible first | exact HB.out | apply below_alloc | apply pw_below_drewN | apply below_drew1 | refine below_set ?_ GE103.out) | exact HB.out)) hb); have n2_ := Aside0.mk (hbox); have n3_ := Aside0.mk ((by rw [hg]; exact (below_size (by repeat (first | (with_reducible first | exact HB.out | apply below_alloc | apply pw_below_drewN | apply below_drew1 | refine below_set ?_ GE103.out) | exact HB.out))) : w.heap.size ≤ gb113)); have n4_ := n3_; have n5_ := Aside0.mk ((by rw [hg]; exact Nat.ne_of_lt (blk_lt (g := gb103) (o := .cells #[.int .i64 ((rd_T65 l1 x12_1).f0), .int .i64 ((rd_T65 l1 x12_1).f1), .int .i64 ((rd_T65 l1 x12_1).f2)] 65 (0, 0)) (by (with_reducible repeat (first | refine blk_drewN ?_ _ | refine blk_drew ?_ | refine blk_alloc ?_ _)); exact BK103.out)) : gb103 ≠ gb113)); have n6_ := Aside0.mk n5_.out.symm; clear BK103; clear HB; have BK103 := n0_; have HB := n1_; have BK113 := n2_; have GW113 := n3_; have GE113 := n4_; have NB103_113 := n5_; have NB113_103 := n6_; clear n0_ n1_ n2_ n3_ n4_ n5_ n6_; clear hb hbox hg; have hnb59 := NB113_103.out; have hnc59 := NB103_113.out; have hcz60_0 : w58.cell? ⟨gb113, 0, none⟩ = some (.int .i64 0) := (blk_cell BK113.out 0).trans rfl; have hcz60_1 : w58.cell? ⟨gb113, 1, none⟩ = some (.int .i64 0) := (blk_cell BK113.out 1).trans rfl; have hcz60_2 : w58.cell? ⟨gb113, 2, none⟩ = some (.int .i64 0) := (blk_cell BK113.out 2).trans rfl; have hfz60_0 := blk_frozen BK113.out 0; have hfz60_1 := blk_frozen BK113.out 1; have hfz60_2 := blk_frozen BK113.out 2; have hcz61_0 : w58.cell? ⟨gb103, 0, none⟩ = some (.int .i64 ((rd_T65 l1 x12_1).f0)) := (blk_cell BK103.out 0).trans rfl; have hcz61_1 : w58.cell? ⟨gb103, 1, none⟩ = some (.int .i64 ((rd_T65 l1 x12_1).f1)) := (blk_cell BK103.out 1).trans rfl; have hcz61_2 : w58.cell? ⟨gb103, 2, none⟩ = some (.int .i64 ((rd_T65 l1 x12_1).f2)) := (blk_cell BK103.out 2).trans rfl; have hfz61_0 := blk_frozen BK103.out 0; have hfz61_1 := blk_frozen BK103.out 1; have hfz61_2 := blk_frozen BK103.out 2))
                        repeat (go_quiet (first | ((with_reducible refine gate_dst (N := 9) rfl ?_); (try (refine gate_guard (by rfl) ?_; dsimp only)); refine box_event ?hg (N := 9) ?hd (cs := #[.int .i64 0, .int .i64 0, .int .i64 0]) (t := 65) ?hr ?_; (case hd => rfl); (case hg => rfl); (case hr => first | (go_simp; done) | (go_simp; rfl)); intro gb113 hg w58 hbox hb; have n0_ := Aside0.mk (blk_below (g := gb103) (o := .cells #[.int .i64 ((rd_T65 l1 x12_1).f0), .int .i64 ((rd_T65 l1 x12_1).f1), .int .i64 ((rd_T65 l1 x12_1).f2)] 65 (0, 0)) (by (with_reducible repeat (first | refine blk_drewN ?_ _ | refine blk_drew ?_ | refine blk_alloc ?_ _)); exact BK103.out) hb); have n1_ := Aside0.mk (below_step (by repeat (first | (with_reducible first | exact HB.out | apply below_alloc | apply pw_below_drewN | apply below_drew1 | refine below_set ?_ GE103.out) | exact HB.out)) hb); have n2_ := Aside0.mk (hbox); have n3_ := Aside0.mk ((by rw [hg]; exact (below_size (by repeat (first | (with_reducible first | exact HB.out | apply below_alloc | apply pw_below_drewN | apply below_drew1 | refine below_set ?_ GE103.out) | exact HB.out))) : w.heap.size ≤ gb113)); have n4_ := n3_; have n5_ := Aside0.mk ((by rw [hg]; exact Nat.ne_of_lt (blk_lt (g := gb103) (o := .cells #[.int .i64 ((rd_T65 l1 x12_1).f0), .int .i64 ((rd_T65 l1 x12_1).f1), .int .i64 ((rd_T65 l1 x12_1).f2)] 65 (0, 0)) (by (with_reducible repeat (first | refine blk_drewN ?_ _ | refine blk_drew ?_ | refine blk_alloc ?_ _)); exact BK103.out)) : gb103 ≠ gb113)); have n6_ := Aside0.mk n5_.out.symm; clear BK103; clear HB; have BK103 := n0_; have HB := n1_; have BK113 := n2_; have GW113 := n3_; have GE113 := n4_; have NB103_113 := n5_; have NB113_103 := n6_; clear n0_ n1_ n2_ n3_ n4_ n5_ n6_; clear hb hbox hg; have hnb59 := NB113_103.out; have hnc59 := NB103_113.out; have hcz60_0 : w58.cell? ⟨gb113, 0, none⟩ = some (.int .i64 0) := (blk_cell BK113.out 0).trans rfl; have hcz60_1 : w58.cell? ⟨gb113, 1, none⟩ = some (.int .i64 0) := (blk_cell BK113.out 1).trans rfl; have hcz60_2 : w58.cell? ⟨gb113, 2, none⟩ = some (.int .i64 0) := (blk_cell BK113.out 2).trans rfl; have hfz60_0 := blk_frozen BK113.out 0; have hfz60_1 := blk_frozen BK113.out 1; have hfz60_2 := blk_frozen BK113.out 2; have hcz61_0 : w58.cell? ⟨gb103, 0, none⟩ = some (.int .i64 ((rd_T65 l1 x12_1).f0)) := (blk_cell BK103.out 0).trans rfl; have hcz61_1 : w58.cell? ⟨gb103, 1, none⟩ = some (.int .i64 ((rd_T65 l1 x12_1).f1)) := (blk_cell BK103.out 1).trans rfl; have hcz61_2 : w58.cell? ⟨gb103, 2, none⟩ = some (.int .i64 ((rd_T65 l1 x12_1).f2)) := (blk_cell BK103.out 2).trans rfl; have hfz61_0 := blk_frozen BK103.out 0; have hfz61_1 := blk_frozen BK103.out 1; have hfz61_2 := blk_frozen BK103.out 2)); try go_wp2_with (first | ((with_reducible refine gate_dst (N := 9) rfl ?_); (try (refine gate_guard (by rfl) ?_; dsimp only)); refine box_event ?hg (N := 9) ?hd (cs := #[.int .i64 0, .int .i64 0, .int .i64 0]) (t := 65) ?hr ?_; (case hd => rfl); (case hg => rfl); (case hr => first | (go_simp; done) | (go_simp; rfl)); intro gb113 hg w58 hbox hb; have n0_ := Aside0.mk (blk_below (g := gb103) (o := .cells #[.int .i64 ((rd_T65 l1 x12_1).f0), .int .i64 ((rd_T65 l1 x12_1).f1), .int .i64 ((rd_T65 l1 x12_1).f2)] 65 (0, 0)) (by (with_reducible repeat (first | refine blk_drewN ?_ _ | refine blk_drew ?_ | refine blk_alloc ?_ _)); exact BK103.out) hb); have n1_ := Aside0.mk (below_step (by repeat (first | (with_reducible first | exact HB.out | apply below_alloc | apply pw_below_drewN | apply below_drew1 | refine below_set ?_ GE103.out) | exact HB.out)) hb); have n2_ := Aside0.mk (hbox); have n3_ := Aside0.mk ((by rw [hg]; exact (below_size (by repeat (first | (with_reducible first | exact HB.out | apply below_alloc | apply pw_below_drewN | apply below_drew1 | refine below_set ?_ GE103.out) | exact HB.out))) : w.heap.size ≤ gb113)); have n4_ := n3_; have n5_ := Aside0.mk ((by rw [hg]; exact Nat.ne_of_lt (blk_lt (g := gb103) (o := .cells #[.int .i64 ((rd_T65 l1 x12_1).f0), .int .i64 ((rd_T65 l1 x12_1).f1), .int .i64 ((rd_T65 l1 x12_1).f2)] 65 (0, 0)) (by (with_reducible repeat (first | refine blk_drewN ?_ _ | refine blk_drew ?_ | refine blk_alloc ?_ _)); exact BK103.out)) : gb103 ≠ gb113)); have n6_ := Aside0.mk n5_.out.symm; clear BK103; clear HB; have BK103 := n0_; have HB := n1_; have BK113 := n2_; have GW113 := n3_; have GE113 := n4_; have NB103_113 := n5_; have NB113_103 := n6_; clear n0_ n1_ n2_ n3_ n4_ n5_ n6_; clear hb hbox hg; have hnb59 := NB113_103.out; have hnc59 := NB103_113.out; have hcz60_0 : w58.cell? ⟨gb113, 0, none⟩ = some (.int .i64 0) := (blk_cell BK113.out 0).trans rfl; have hcz60_1 : w58.cell? ⟨gb113, 1, none⟩ = some (.int .i64 0) := (blk_cell BK113.out 1).trans rfl; have hcz60_2 : w58.cell? ⟨gb113, 2, none⟩ = some (.int .i64 0) := (blk_cell BK113.out 2).trans rfl; have hfz60_0 := blk_frozen BK113.out 0; have hfz60_1 := blk_frozen BK113.out 1; have hfz60_2 := blk_frozen BK113.out 2; have hcz61_0 : w58.cell? ⟨gb103, 0, none⟩ = some (.int .i64 ((rd_T65 l1 x12_1).f0)) := (blk_cell BK103.out 0).trans rfl; have hcz61_1 : w58.cell? ⟨gb103, 1, none⟩ = some (.int .i64 ((rd_T65 l1 x12_1).f1)) := (blk_cell BK103.out 1).trans rfl; have hcz61_2 : w58.cell? ⟨gb103, 2, none⟩ = some (.int .i64 ((rd_T65 l1 x12_1).f2)) := (blk_cell BK103.out 2).trans rfl; have hfz61_0 := blk_frozen BK103.out 0; have hfz61_1 := blk_frozen BK103.out 1; have hfz61_2 := blk_frozen BK103.out 2)))
                        go_roundg k4
                        case measure => have := HK1.out; have := HJ5.out; have := HJ28.out; have := HK4.out; omega
                        case rel => exact ⟨(wrap64 (x70_4 + 1)), (by first | rfl | (simp; done) | (simp [*]; done)), H', ⟨by have := HK1.out; have := HJ5.out; have := HJ28.out; have := HK4.out; omega⟩, ⟨by (with_reducible repeat (first | refine blk_drewN ?_ _ | refine blk_drew ?_ | refine blk_alloc ?_ _)); refine blk_far ?_ NB103_113.out _; (with_reducible repeat (first | refine blk_drewN ?_ _ | refine blk_drew ?_ | refine blk_alloc ?_ _)); refine blk_far ?_ NB103_113.out _; (with_reducible repeat (first | refine blk_drewN ?_ _ | refine blk_drew ?_ | refine blk_alloc ?_ _)); refine blk_far ?_ NB103_113.out _; (with_reducible repeat (first | refine blk_drewN ?_ _ | refine blk_drew ?_ | refine blk_alloc ?_ _)); exact BK103.out⟩, ⟨by repeat (first | (with_reducible first | exact HB.out | apply below_alloc | apply pw_below_drewN | apply below_drew1 | refine below_set ?_ GE103.out | refine below_set ?_ GE113.out) | exact HB.out)⟩⟩
                     ·rw [if_neg c42] at H
                      exact absurd H (by simp)
                    ·rw [if_neg c41] at H
                     exact absurd H (by simp)
                   ·rw [if_neg c40] at H
                    have c40b0 : decide (x70_4 < (y108.length : Int)) = false := decide_eq_false c40
                    clear c40
                    have H' := Aside0.mk H
                    clear H
                    go_wp2
                    repeat (go_quiet (fail); try go_wp2)
                    go_roundg k4
                    case measure => have := HK1.out; have := HJ5.out; have := HJ28.out; have := HK4.out; omega
                    case rel => exact ⟨(wrap64 (x12_1 + 1)), (by first | rfl | (simp; done) | (simp [*]; done)), H', ⟨by have := HK1.out; have := HJ5.out; have := HJ28.out; have := HK4.out; omega⟩, ⟨by repeat (first | (with_reducible first | exact HB.out | apply below_alloc | apply pw_below_drewN | apply below_drew1 | refine below_set ?_ GE103.out) | exact HB.out)⟩⟩
                ·rw [if_neg c38] at H
                 exact absurd H (by simp)
               ·rw [if_neg c37] at H
                exact absurd H (by simp)
           ·rw [if_neg c27] at H
            have c27b0 : (((rd_T65 l1 x12_1).f1) == 3) = false := beq_eq_false_iff_ne.mpr c27
            have c27b1 : (((rd_T65 l1 x12_1).f1) != 3) = true := bne_iff_ne.mpr c27
            obtain rfl := Option.some.inj H
            have hcz62_0 : wc.cell? ⟨gb103, 0, none⟩ = some (.int .i64 ((rd_T65 l1 x12_1).f0)) := (blk_cell BK103.out 0).trans rfl
            have hcz62_1 : wc.cell? ⟨gb103, 1, none⟩ = some (.int .i64 ((rd_T65 l1 x12_1).f1)) := (blk_cell BK103.out 1).trans rfl
            have hcz62_2 : wc.cell? ⟨gb103, 2, none⟩ = some (.int .i64 ((rd_T65 l1 x12_1).f2)) := (blk_cell BK103.out 2).trans rfl
            have hfz62_0 := blk_frozen BK103.out 0
            have hfz62_1 := blk_frozen BK103.out 1
            have hfz62_2 := blk_frozen BK103.out 2
            go_wp2
            repeat (go_quiet (fail); try go_wp2)
            go_ret
            exact ⟨by first | rfl | (simp [errW_none, errW_some] <;> rfl) | (simp [*, errW_none, errW_some] <;> rfl), by repeat (first | (with_reducible first | exact HB.out | apply below_alloc | apply pw_below_drewN | apply below_drew1 | refine below_set ?_ GE103.out) | exact HB.out)⟩
     ·rw [if_neg c5] at H
      exact absurd H (by simp)
    ·rw [if_neg c4] at H
     exact absurd H (by simp)
   ·rw [if_neg c3] at H
    have c3b0 : decide (x12_1 < (l1.length : Int)) = false := decide_eq_false c3
    clear c3
    replace H := Option.bind_eq_some_iff.mp H
    obtain ⟨t101, A630, H⟩ := H
    have A63 := Aside0.mk A630
    clear A630
    by_cases c64 : t101 = true
    ·subst c64
     rw [if_pos rfl] at H
     obtain rfl := Option.some.inj H
     go_wp2_with (first | (go_at_call 51; (with_reducible refine (spec_l1In.calls a0 1 5 true _ A63.out).mono ?_); rintro e w' ⟨rfl, ⟨nd, rfl⟩⟩; (try first | exact ⟨rfl, _, World.drewN_drewN _ _ _⟩ | exact ⟨rfl, _, Eq.trans (World.drewN_drewN _ _ _) (congrArg (World.drewN _) (Nat.add_assoc _ _ _))⟩)))
     repeat (go_quiet (first | (go_at_call 51; (with_reducible refine (spec_l1In.calls a0 1 5 true _ A63.out).mono ?_); rintro e w' ⟨rfl, ⟨nd, rfl⟩⟩; (try first | exact ⟨rfl, _, World.drewN_drewN _ _ _⟩ | exact ⟨rfl, _, Eq.trans (World.drewN_drewN _ _ _) (congrArg (World.drewN _) (Nat.add_assoc _ _ _))⟩))); try go_wp2_with (first | (go_at_call 51; (with_reducible refine (spec_l1In.calls a0 1 5 true _ A63.out).mono ?_); rintro e w' ⟨rfl, ⟨nd, rfl⟩⟩; (try first | exact ⟨rfl, _, World.drewN_drewN _ _ _⟩ | exact ⟨rfl, _, Eq.trans (World.drewN_drewN _ _ _) (congrArg (World.drewN _) (Nat.add_assoc _ _ _))⟩))))
     go_ret
     exact ⟨by first | rfl | (simp [errW_none, errW_some] <;> rfl) | (simp [*, errW_none, errW_some] <;> rfl), by repeat (first | (with_reducible first | exact HB.out | apply below_alloc | apply pw_below_drewN | apply below_drew1) | exact HB.out)⟩
    ·replace c64 := Bool.eq_false_iff.mpr c64
     subst c64
     rw [if_neg (show ¬ (false = true) by decide)] at H
     obtain rfl := Option.some.inj H
     go_wp2_with (first | (go_at_call 51; (with_reducible refine (spec_l1In.calls a0 1 5 false _ A63.out).mono ?_); rintro e w' ⟨rfl, ⟨nd, rfl⟩⟩; (try first | exact ⟨rfl, _, World.drewN_drewN _ _ _⟩ | exact ⟨rfl, _, Eq.trans (World.drewN_drewN _ _ _) (congrArg (World.drewN _) (Nat.add_assoc _ _ _))⟩)))
     repeat (go_quiet (first | (go_at_call 51; (with_reducible refine (spec_l1In.calls a0 1 5 false _ A63.out).mono ?_); rintro e w' ⟨rfl, ⟨nd, rfl⟩⟩; (try first | exact ⟨rfl, _, World.drewN_drewN _ _ _⟩ | exact ⟨rfl, _, Eq.trans (World.drewN_drewN _ _ _) (congrArg (World.drewN _) (Nat.add_assoc _ _ _))⟩))); try go_wp2_with (first | (go_at_call 51; (with_reducible refine (spec_l1In.calls a0 1 5 false _ A63.out).mono ?_); rintro e w' ⟨rfl, ⟨nd, rfl⟩⟩; (try first | exact ⟨rfl, _, World.drewN_drewN _ _ _⟩ | exact ⟨rfl, _, Eq.trans (World.drewN_drewN _ _ _) (congrArg (World.drewN _) (Nat.add_assoc _ _ _))⟩))))
     go_ret
     exact ⟨by first | rfl | (simp [errW_none, errW_some] <;> rfl) | (simp [*, errW_none, errW_some] <;> rfl), by repeat (first | (with_reducible first | exact HB.out | apply below_alloc | apply pw_below_drewN | apply below_drew1) | exact HB.out)⟩
open Go.Proofs.Ytinbfclfglogmaa.Xm in
def impl_areEvents.go (a0 : Int) : List (Int × Int) → List Int → List (S65) → Option (Bool)
 | _, _, [] => some true
 | S, T, e :: t => if (Lit.int .i64 e.f2).wf = true then (if (Lit.int .i64 e.f0).wf = true then ((impl_in.f e.f0 0 (wrap64 (a0 - 1))).bind fun ok0 => (if e.f1 = 1 then (if (ok0 && (e.f2 == 0)) = true then (impl_areEvents.go a0 S T t) else (some false)) else (if e.f1 = 2 then ((impl_in.f e.f2 1 24).bind fun b => (if (ok0 && b && !(anyS S e.f2)) = true then (impl_areEvents.go a0 (S ++ [(e.f2, e.f0)]) T t) else (some false))) else (if e.f1 = 3 then (if (ok0 && anyS S e.f2 && (lastS S e.f2 != e.f0) && !(decide (e.f2 ∈ T))) = true then (impl_areEvents.go a0 S (T ++ [e.f2]) t) else (some false)) else (some false))))) else (none)) else (none)
def impl_areEvents.f (a0 : Int) (l1 : List (S65)) : Option (Bool) := (impl_in.f a0 1 5).bind fun t => (if t = true then (if (l1.length : Int) > 24 then (some false) else (impl_areEvents.go a0 [] [] l1)) else (some false))
set_option maxHeartbeats 8000000 in
set_option maxRecDepth 100000 in
open Go.Proofs.Ytinbfclfglogmaa.Xm in
theorem impl_areEvents.calls (a0 : Int) (A1 : Option Addr) (c1 : Nat) (l1 : List (S65)) (r : Bool) (w : World) (hr1 : Kd.C k65 w A1 l1.length l1) (hc1 : l1.length ≤ c1) (h : impl_areEvents.f a0 l1 = some r) :
  Calls Try.prog 54 #[.int .i64 a0, .slice A1 l1.length c1] w fun e w' => e = .returned (.bool r) ∧ Below w.heap.size w w' := by
 have hu65 := Try.underlying65
 have HR1 := Aside0.mk hr1
 have HC1 := Aside0.mk hc1
 clear hr1 hc1
 have hmm := @run_makeMap Try.prog
 have law : Go.Maps.Keyed Try.prog 3 := Go.Maps.int_keyed Try.underlying3
 unfold impl_areEvents.f at h
 obtain ⟨t0, A0, H⟩ := Option.bind_eq_some_iff.mp h
 clear h
 have A0 := Aside0.mk A0
 have ARM := Aside0.mk (@impl_in.calls)
 go_enter Try.func54, Try.ntmps54
 cases t0 with
 | false =>
  rw [if_neg (by decide)] at H
  obtain rfl := Option.some.inj H
  go_wp2_with (first | (go_at_call 61; (with_reducible refine (impl_in.calls a0 1 5 false _ A0.out).mono ?_); rintro e w' ⟨rfl, ⟨nd, rfl⟩⟩))
  go_ret
  exact ⟨rfl, pw_below_drewN (Below.refl _ _) nd⟩
 | true =>
  rw [if_pos rfl] at H
  by_cases c1 : (l1.length : Int) > 24
  ·rw [if_pos c1] at H
   have c1b0 : decide ((24 : Int) < (l1.length : Int)) = true := decide_eq_true c1
   obtain rfl := Option.some.inj H
   go_wp2_with (first | (go_at_call 61; (with_reducible refine (impl_in.calls a0 1 5 true _ A0.out).mono ?_); rintro e w' ⟨rfl, ⟨nd, rfl⟩⟩))
   go_ret
   exact ⟨rfl, pw_below_drewN (Below.refl _ _) nd⟩
  ·rw [if_neg c1] at H
   have c1b0 : decide ((24 : Int) < (l1.length : Int)) = false := decide_eq_false c1
   have HL := Aside0.mk c1
   clear c1
   have H' := Aside0.mk H
   clear H
   go_upto_region 3 with (first | (go_at_call 61; (with_reducible refine (impl_in.calls a0 1 5 true _ A0.out).mono ?_); rintro e w' ⟨rfl, ⟨nd, rfl⟩⟩))
   go_wp2
   have e0 : ((w.drewN nd).alloc (Obj.map #[] 0)).heap.size = w.heap.size + 1 := by simp [World.alloc, World.drewN]
   have hT0 := World.ownsMap_made ((w.drewN nd).alloc (Obj.map #[] 0)) Try.prog 3 (plainElem (H := Unit) Try.prog 4)
   rw [e0] at hT0
   go_loopw [24] (fun i wr => ∃ (pre rest : List S65) (S : List (Int × Int)) (T : List Int), pre ++ rest = l1 ∧ S.length ≤ pre.length ∧ T.length ≤ pre.length ∧ i = .int .i64 (pre.length : Int) ∧ Aside0 (impl_areEvents.go a0 S T rest = some r) ∧ wr.ownsMap Try.prog 3 (plainElem Try.prog 3) w.heap.size (S).length (dS S (.map [])) ∧ wr.ownsMap Try.prog 3 (plainElem Try.prog 4) (w.heap.size + 1) (T).length (dT T (.map [])) ∧ Aside0 (Below w.heap.size w wr)) (fun i _ => l1.length - (intOf i).toNat)
   case atStart => exact ⟨[], l1, [], [], rfl, Nat.le_refl _, Nat.le_refl _, rfl, H', (World.ownsMap_made (w.drewN nd) _ _ _).alloc _, hT0, ⟨by repeat (first | exact Below.refl _ _ | apply below_alloc | apply pw_below_drewN)⟩⟩
   case round =>
    clear H' hT0 e0 A0
    obtain ⟨pre, rest, S, T, e, es, et, rfl, hgo, hS, hT, HB⟩ := hrel
    have HL1 := HL.out
    cases rest with
    | nil =>
     have hlen : pre.length = l1.length := by rw [← e]; simp
     have c4b0 : decide ((pre.length : Int) < (l1.length : Int)) = false := decide_eq_false (by omega)
     have H := hgo.out
     clear hgo
     simp only [impl_areEvents.go] at H
     obtain rfl := Option.some.inj H
     go_wp2
     go_ret
     exact ⟨rfl, HB.out⟩
    | cons x t =>
     have hlt : pre.length < l1.length := by rw [← e]; simp
     have hwr : wrap64 ((pre.length : Int) + 1) = (pre.length : Int) + 1 := by unfold wrap64; omega
     have c4b0 : decide ((pre.length : Int) < (l1.length : Int)) = true := decide_eq_true (by omega)
     have hrd : rd_T65 l1 (pre.length : Int) = x := by rw [← e]; simp [rd_T65]
     have H := hgo.out
     clear hgo
     simp only [impl_areEvents.go] at H
     by_cases c5 : (Lit.int .i64 x.f2).wf = true
     case neg => rw [if_neg c5] at H; cases H
     rw [if_pos c5] at H
     by_cases c6 : (Lit.int .i64 x.f0).wf = true
     case neg => rw [if_neg c6] at H; cases H
     rw [if_pos c6] at H
     obtain ⟨ok0, A1, H⟩ := Option.bind_eq_some_iff.mp H
     have A1 := Aside0.mk A1
     have HH := Aside0.mk H
     clear H
     have p102 : 0 ≤ ((pre.length : Int) : Int) := by omega
     have q102 : (pre.length : Int) < (l1.length : Int) := by omega
     obtain ⟨ad102, e102, hx102_0, hx102_1, hx102_2⟩ := at_T65 HR1.out (pre.length : Int) p102 q102
     cases e102
     replace hx102_0 := (HB.out.cell (World.block_lt_of_cell? w _ hx102_0)).trans hx102_0
     rw [hrd, Int.toNat_natCast] at hx102_0
     replace hx102_1 := (HB.out.cell (World.block_lt_of_cell? w _ hx102_1)).trans hx102_1
     rw [hrd, Int.toNat_natCast] at hx102_1
     replace hx102_2 := (HB.out.cell (World.block_lt_of_cell? w _ hx102_2)).trans hx102_2
     rw [hrd, Int.toNat_natCast] at hx102_2
     replace p102 := eq_true p102
     replace q102 := eq_true q102
     have hkey : keyOf Try.prog 3 (.int .i64 x.f2) = some (.int .i64 x.f2) := Go.Maps.keyOf_int_mk Try.underlying3 c5
     clear hrd
     have C5 := Aside0.mk c5
     have C6 := Aside0.mk c6
     clear c5 c6
     go_upto_region 7 with (fail)
     go_cut [8] (fun v8 wc => ∃ gb : Nat, v8 = .pointer (some ⟨gb, 0, none⟩) ∧ Aside0 (wc.heap[gb]? = some (.cells #[.int .i64 x.f0, .int .i64 x.f1, .int .i64 x.f2] 65 (0, 0))) ∧ wc.ownsMap Try.prog 3 (plainElem Try.prog 3) w.heap.size (S).length (dS S (.map [])) ∧ wc.ownsMap Try.prog 3 (plainElem Try.prog 4) (w.heap.size + 1) (T).length (dT T (.map [])) ∧ Aside0 (Below w.heap.size w wc))
     case first =>
      go_wp2_with (first | ((with_reducible refine gate_dst (N := 8) rfl ?_); refine box_event ?hg (N := 8) ?hd (cs := #[.int .i64 0, .int .i64 0, .int .i64 0]) (t := 65) ?hr ?_; (case hd => rfl); (case hg => rfl); (case hr => first | (go_simp; done) | (go_simp; rfl)); intro gb hg w7 hbox hb; have BK := Aside0.mk hbox; have GE := Aside0.mk ((by rw [hg]; exact below_size HB.out) : w.heap.size ≤ gb); have HB7 := Aside0.mk (below_step HB.out hb); have hS7 := Go.Proofs.Ytinbfclfglogmaa.Xm.own_below hS hb; have hT7 := Go.Proofs.Ytinbfclfglogmaa.Xm.own_below hT hb; clear hb hbox hg; have hcz8_0 : w7.cell? ⟨gb, 0, none⟩ = some (.int .i64 0) := (blk_cell BK.out 0).trans rfl; have hcz8_1 : w7.cell? ⟨gb, 1, none⟩ = some (.int .i64 0) := (blk_cell BK.out 1).trans rfl; have hcz8_2 : w7.cell? ⟨gb, 2, none⟩ = some (.int .i64 0) := (blk_cell BK.out 2).trans rfl; have hfz8_0 := blk_frozen BK.out 0; have hfz8_1 := blk_frozen BK.out 1; have hfz8_2 := blk_frozen BK.out 2))
      go_meet
      have nS : w.heap.size ≠ gb := own_old hS7 BK.out (fun es c => by simp)
      have nT : (w.heap.size + 1) ≠ gb := own_old hT7 BK.out (fun es c => by simp)
      case rel => exact ⟨gb, rfl, ⟨by refine blk_put (cs := #[.int .i64 x.f0, .int .i64 x.f1, .int .i64 0]) ?_ 2 _ rfl; refine blk_put (cs := #[.int .i64 x.f0, .int .i64 0, .int .i64 0]) ?_ 1 _ rfl; refine blk_put (cs := #[.int .i64 0, .int .i64 0, .int .i64 0]) ?_ 0 _ rfl; exact BK.out⟩, own_set (own_set (own_set hS7 nS) nS) nS, own_set (own_set (own_set hT7 nT) nT) nT, ⟨below_set (below_set (below_set HB7.out GE.out) GE.out) GE.out⟩⟩
     case rest =>
      clear hx102_0 hx102_1 hx102_2 p102 q102 hS hT HB
      obtain ⟨gb, rfl, BK, hS, hT, HB⟩ := hcut
      have hcz9_0 : wc.cell? ⟨gb, 0, none⟩ = some (.int .i64 x.f0) := (blk_cell BK.out 0).trans rfl
      have hcz9_1 : wc.cell? ⟨gb, 1, none⟩ = some (.int .i64 x.f1) := (blk_cell BK.out 1).trans rfl
      have hcz9_2 : wc.cell? ⟨gb, 2, none⟩ = some (.int .i64 x.f2) := (blk_cell BK.out 2).trans rfl
      have hfz9_0 := blk_frozen BK.out 0
      have hfz9_1 := blk_frozen BK.out 1
      have hfz9_2 := blk_frozen BK.out 2
      have zI : ∀ W : World, (zeroValue 3).run Try.prog W = .ok (.int .i64 0) W := fun W => by kernel_rfl
      obtain ⟨b1, hb1⟩ : ∃ b, b = Go.Maps.has (dS S (.map [])) (.int .i64 x.f2) := ⟨_, rfl⟩
      have hb2 := Aside0.mk ((dS_told S x.f2).1.symm.trans hb1.symm)
      have hb3 := Eq.symm hb1
      clear hb1
      have hlast := Aside0.mk ((dS_told S x.f2).2)
      go_upto_region 10 with (first | (at_lookup; refine wpList_lookup_own_ok_int _ rfl _ _ 84 rfl 3 3 .i64 law Try.underlying84 Try.underlying3 (zI _) w.heap.size S.length _ rfl hS _ _ rfl hkey ?_; intro c hat hwc) | (go_at_call 61; (with_reducible refine (impl_in.calls x.f0 0 (wrap64 (a0 - 1)) ok0 _ A1.out).mono ?_); rintro e w' ⟨rfl, ⟨nd, rfl⟩⟩))
      have hc : c = lastS S x.f2 := by have := hlast.out; rw [hat] at this; injection this with this; injection this
      clear hat
      have H := HH.out
      clear HH
      have HC := Aside0.mk hc
      clear hc
      have b1S := hb2.out
      have zB : ∀ W : World, (zeroValue 4).run Try.prog W = .ok (.bool false) W := fun W => by kernel_rfl
      by_cases k1 : x.f1 = 1
      ·rw [if_pos k1] at H
       have k1b0 : (x.f1 == 1) = true := beq_iff_eq.mpr k1
       have k1b1 : (x.f1 != 1) = false := bne_eq_false_iff_eq.mpr k1
       clear k1
       cases ok0 with
       | false =>
        have H := H
        have hcz21_0 : wc.cell? ⟨gb, 0, none⟩ = some (.int .i64 x.f0) := (blk_cell BK.out 0).trans rfl
        have hcz21_1 : wc.cell? ⟨gb, 1, none⟩ = some (.int .i64 x.f1) := (blk_cell BK.out 1).trans rfl
        have hcz21_2 : wc.cell? ⟨gb, 2, none⟩ = some (.int .i64 x.f2) := (blk_cell BK.out 2).trans rfl
        have hfz21_0 := blk_frozen BK.out 0
        have hfz21_1 := blk_frozen BK.out 1
        have hfz21_2 := blk_frozen BK.out 2
        rw [if_neg (by simp [*])] at H
        obtain rfl := Option.some.inj H
        go_wp2_with (first | fail)
        go_ret
        exact ⟨rfl, (by repeat (first | exact HB.out | apply below_alloc | apply pw_below_drewN | apply below_drew1))⟩
       | true =>
        by_cases k2 : x.f2 = 0
        ·skip
         have k2b0 : (x.f2 == 0) = true := beq_iff_eq.mpr k2
         have k2b1 : (x.f2 != 0) = false := bne_eq_false_iff_eq.mpr k2
         have H := H
         have hcz22_0 : wc.cell? ⟨gb, 0, none⟩ = some (.int .i64 x.f0) := (blk_cell BK.out 0).trans rfl
         have hcz22_1 : wc.cell? ⟨gb, 1, none⟩ = some (.int .i64 x.f1) := (blk_cell BK.out 1).trans rfl
         have hcz22_2 : wc.cell? ⟨gb, 2, none⟩ = some (.int .i64 x.f2) := (blk_cell BK.out 2).trans rfl
         have hfz22_0 := blk_frozen BK.out 0
         have hfz22_1 := blk_frozen BK.out 1
         have hfz22_2 := blk_frozen BK.out 2
         rw [if_pos (by simp [*])] at H
         have H' := Aside0.mk H
         clear H
         go_wp2_with (first | fail)
         go_roundw
         case measure => simp only [intOf, hwr]; omega
         case rel => exact ⟨pre ++ [x], t, S, T, by rw [← e]; simp, by simp; omega, by simp; omega, by simp, H', (by repeat (first | exact hS | refine own_drewN ?_ _)), (by repeat (first | exact hT | refine own_drewN ?_ _)), ⟨(by repeat (first | exact HB.out | apply below_alloc | apply pw_below_drewN | apply below_drew1))⟩⟩
        ·skip
         have k2b0 : (x.f2 == 0) = false := beq_eq_false_iff_ne.mpr k2
         have k2b1 : (x.f2 != 0) = true := bne_iff_ne.mpr k2
         have H := H
         have hcz23_0 : wc.cell? ⟨gb, 0, none⟩ = some (.int .i64 x.f0) := (blk_cell BK.out 0).trans rfl
         have hcz23_1 : wc.cell? ⟨gb, 1, none⟩ = some (.int .i64 x.f1) := (blk_cell BK.out 1).trans rfl
         have hcz23_2 : wc.cell? ⟨gb, 2, none⟩ = some (.int .i64 x.f2) := (blk_cell BK.out 2).trans rfl
         have hfz23_0 := blk_frozen BK.out 0
         have hfz23_1 := blk_frozen BK.out 1
         have hfz23_2 := blk_frozen BK.out 2
         rw [if_neg (by simp [*])] at H
         obtain rfl := Option.some.inj H
         go_wp2_with (first | fail)
         go_ret
         exact ⟨rfl, (by repeat (first | exact HB.out | apply below_alloc | apply pw_below_drewN | apply below_drew1))⟩
      rw [if_neg k1] at H
      have k1b0 : (x.f1 == 1) = false := beq_eq_false_iff_ne.mpr k1
      have k1b1 : (x.f1 != 1) = true := bne_iff_ne.mpr k1
      clear k1
      by_cases k2 : x.f1 = 2
      ·rw [if_pos k2] at H
       have k2b0 : (x.f1 == 2) = true := beq_iff_eq.mpr k2
       have k2b1 : (x.f1 != 2) = false := bne_eq_false_iff_eq.mpr k2
       clear k2
       obtain ⟨b, A2, H⟩ := Option.bind_eq_some_iff.mp H
       have A2 := Aside0.mk A2
       cases ok0 with
       | false =>
        have H := H
        have hcz24_0 : wc.cell? ⟨gb, 0, none⟩ = some (.int .i64 x.f0) := (blk_cell BK.out 0).trans rfl
        have hcz24_1 : wc.cell? ⟨gb, 1, none⟩ = some (.int .i64 x.f1) := (blk_cell BK.out 1).trans rfl
        have hcz24_2 : wc.cell? ⟨gb, 2, none⟩ = some (.int .i64 x.f2) := (blk_cell BK.out 2).trans rfl
        have hfz24_0 := blk_frozen BK.out 0
        have hfz24_1 := blk_frozen BK.out 1
        have hfz24_2 := blk_frozen BK.out 2
        rw [if_neg (by simp [*])] at H
        obtain rfl := Option.some.inj H
        go_wp2_with (first | (go_at_call 61; (with_reducible refine (impl_in.calls x.f2 1 24 _ _ A2.out).mono ?_); rintro e w' ⟨rfl, ⟨nd, rfl⟩⟩) | (at_mapUpdate; refine wpList_mapUpdate_own _ rfl _ _ _ 84 rfl 3 3 law Try.underlying84 (plainElem (H := Unit) Try.prog 3) w.heap.size S.length _ rfl (by repeat (first | exact hS | refine own_drewN ?_ _)) (by unfold maxLen; omega) _ _ _ rfl rfl hkey _ [] (plainElem_int Try.underlying3 C6.out) ?_; intro w1 hS1 hg1))
        go_ret
        exact ⟨rfl, ((show Below w.heap.size w _ from (by repeat (first | exact HB.out | apply below_alloc | apply pw_below_drewN | apply below_drew1))).grown hg1 (by first | exact HB.out.size | exact Nat.le_trans HB.out.size (Nat.le_refl _)) (fun j hj => by cases hj; omega))⟩
       | true =>
        cases b with
        | false =>
         have H := H
         have hcz25_0 : wc.cell? ⟨gb, 0, none⟩ = some (.int .i64 x.f0) := (blk_cell BK.out 0).trans rfl
         have hcz25_1 : wc.cell? ⟨gb, 1, none⟩ = some (.int .i64 x.f1) := (blk_cell BK.out 1).trans rfl
         have hcz25_2 : wc.cell? ⟨gb, 2, none⟩ = some (.int .i64 x.f2) := (blk_cell BK.out 2).trans rfl
         have hfz25_0 := blk_frozen BK.out 0
         have hfz25_1 := blk_frozen BK.out 1
         have hfz25_2 := blk_frozen BK.out 2
         rw [if_neg (by simp [*])] at H
         obtain rfl := Option.some.inj H
         go_wp2_with (first | (go_at_call 61; (with_reducible refine (impl_in.calls x.f2 1 24 _ _ A2.out).mono ?_); rintro e w' ⟨rfl, ⟨nd, rfl⟩⟩) | (at_mapUpdate; refine wpList_mapUpdate_own _ rfl _ _ _ 84 rfl 3 3 law Try.underlying84 (plainElem (H := Unit) Try.prog 3) w.heap.size S.length _ rfl (by repeat (first | exact hS | refine own_drewN ?_ _)) (by unfold maxLen; omega) _ _ _ rfl rfl hkey _ [] (plainElem_int Try.underlying3 C6.out) ?_; intro w1 hS1 hg1))
         go_ret
         exact ⟨rfl, ((show Below w.heap.size w _ from (by repeat (first | exact HB.out | apply below_alloc | apply pw_below_drewN | apply below_drew1))).grown hg1 (by first | exact HB.out.size | exact Nat.le_trans HB.out.size (Nat.le_refl _)) (fun j hj => by cases hj; omega))⟩
        | true =>
         cases b1 with
         | true =>
          have H := H
          have hcz26_0 : wc.cell? ⟨gb, 0, none⟩ = some (.int .i64 x.f0) := (blk_cell BK.out 0).trans rfl
          have hcz26_1 : wc.cell? ⟨gb, 1, none⟩ = some (.int .i64 x.f1) := (blk_cell BK.out 1).trans rfl
          have hcz26_2 : wc.cell? ⟨gb, 2, none⟩ = some (.int .i64 x.f2) := (blk_cell BK.out 2).trans rfl
          have hfz26_0 := blk_frozen BK.out 0
          have hfz26_1 := blk_frozen BK.out 1
          have hfz26_2 := blk_frozen BK.out 2
          rw [if_neg (by simp [*])] at H
          obtain rfl := Option.some.inj H
          go_wp2_with (first | (go_at_call 61; (with_reducible refine (impl_in.calls x.f2 1 24 _ _ A2.out).mono ?_); rintro e w' ⟨rfl, ⟨nd, rfl⟩⟩) | (at_mapUpdate; refine wpList_mapUpdate_own _ rfl _ _ _ 84 rfl 3 3 law Try.underlying84 (plainElem (H := Unit) Try.prog 3) w.heap.size S.length _ rfl (by repeat (first | exact hS | refine own_drewN ?_ _)) (by unfold maxLen; omega) _ _ _ rfl rfl hkey _ [] (plainElem_int Try.underlying3 C6.out) ?_; intro w1 hS1 hg1))
          go_ret
          exact ⟨rfl, ((show Below w.heap.size w _ from (by repeat (first | exact HB.out | apply below_alloc | apply pw_below_drewN | apply below_drew1))).grown hg1 (by first | exact HB.out.size | exact Nat.le_trans HB.out.size (Nat.le_refl _)) (fun j hj => by cases hj; omega))⟩
         | false =>
          have H := H
          have hcz27_0 : wc.cell? ⟨gb, 0, none⟩ = some (.int .i64 x.f0) := (blk_cell BK.out 0).trans rfl
          have hcz27_1 : wc.cell? ⟨gb, 1, none⟩ = some (.int .i64 x.f1) := (blk_cell BK.out 1).trans rfl
          have hcz27_2 : wc.cell? ⟨gb, 2, none⟩ = some (.int .i64 x.f2) := (blk_cell BK.out 2).trans rfl
          have hfz27_0 := blk_frozen BK.out 0
          have hfz27_1 := blk_frozen BK.out 1
          have hfz27_2 := blk_frozen BK.out 2
          rw [if_pos (by simp [*])] at H
          have H' := Aside0.mk H
          clear H
          go_wp2_with (first | (go_at_call 61; (with_reducible refine (impl_in.calls x.f2 1 24 _ _ A2.out).mono ?_); rintro e w' ⟨rfl, ⟨nd, rfl⟩⟩) | (at_mapUpdate; refine wpList_mapUpdate_own _ rfl _ _ _ 84 rfl 3 3 law Try.underlying84 (plainElem (H := Unit) Try.prog 3) w.heap.size S.length _ rfl (by repeat (first | exact hS | refine own_drewN ?_ _)) (by unfold maxLen; omega) _ _ _ rfl rfl hkey _ [] (plainElem_int Try.underlying3 C6.out) ?_; intro w1 hS1 hg1))
          go_roundw
          case measure => simp only [intOf, hwr]; omega
          case rel => exact ⟨pre ++ [x], t, (S ++ [(x.f2, x.f0)]), T, by rw [← e]; simp, by simp; omega, by simp; omega, by simp, H', (by rw [List.length_append, dS_snoc]; exact hS1), (World.ownsMap.kept (by repeat (first | exact hT | refine own_drewN ?_ _)) hg1 (by simp)), ⟨((show Below w.heap.size w _ from (by repeat (first | exact HB.out | apply below_alloc | apply pw_below_drewN | apply below_drew1))).grown hg1 (by first | exact HB.out.size | exact Nat.le_trans HB.out.size (Nat.le_refl _)) (fun j hj => by cases hj; omega))⟩⟩
      rw [if_neg k2] at H
      have k2b0 : (x.f1 == 2) = false := beq_eq_false_iff_ne.mpr k2
      have k2b1 : (x.f1 != 2) = true := bne_iff_ne.mpr k2
      clear k2
      by_cases k3 : x.f1 = 3
      ·rw [if_pos k3] at H
       have k3b0 : (x.f1 == 3) = true := beq_iff_eq.mpr k3
       have k3b1 : (x.f1 != 3) = false := bne_eq_false_iff_eq.mpr k3
       clear k3
       cases ok0 with
       | false =>
        have H := H
        have hcz28_0 : wc.cell? ⟨gb, 0, none⟩ = some (.int .i64 x.f0) := (blk_cell BK.out 0).trans rfl
        have hcz28_1 : wc.cell? ⟨gb, 1, none⟩ = some (.int .i64 x.f1) := (blk_cell BK.out 1).trans rfl
        have hcz28_2 : wc.cell? ⟨gb, 2, none⟩ = some (.int .i64 x.f2) := (blk_cell BK.out 2).trans rfl
        have hfz28_0 := blk_frozen BK.out 0
        have hfz28_1 := blk_frozen BK.out 1
        have hfz28_2 := blk_frozen BK.out 2
        rw [if_neg (by simp [*])] at H
        obtain rfl := Option.some.inj H
        go_wp2_with (first | ((with_reducible refine gate_dst (N := 83) rfl ?_); (refine gate_guard (by rfl) ?_; dsimp only); refine wpList_lookup_bool_told _ rfl _ _ 85 rfl 3 4 law Try.underlying85 Try.underlying4 (zB _) (w.heap.size + 1) T.length _ rfl (by repeat (first | exact hT | refine own_drewN ?_ _)) _ _ rfl hkey _ hTd ?_) | (at_mapUpdate; refine wpList_mapUpdate_own _ rfl _ _ _ 85 rfl 3 4 law Try.underlying85 (plainElem (H := Unit) Try.prog 4) (w.heap.size + 1) T.length _ rfl (by repeat (first | exact hT | refine own_drewN ?_ _)) (by unfold maxLen; omega) _ _ _ rfl rfl hkey _ [] (plainElem_bool Try.underlying4 true) ?_; intro w1 hT1 hg1))
        go_ret
        exact ⟨rfl, ((show Below w.heap.size w _ from (by repeat (first | exact HB.out | apply below_alloc | apply pw_below_drewN | apply below_drew1))).grown hg1 (by first | exact HB.out.size | exact Nat.le_trans HB.out.size (Nat.le_refl _)) (fun j hj => by cases hj; omega))⟩
       | true =>
        cases b1 with
        | false =>
         have H := H
         have hcz29_0 : wc.cell? ⟨gb, 0, none⟩ = some (.int .i64 x.f0) := (blk_cell BK.out 0).trans rfl
         have hcz29_1 : wc.cell? ⟨gb, 1, none⟩ = some (.int .i64 x.f1) := (blk_cell BK.out 1).trans rfl
         have hcz29_2 : wc.cell? ⟨gb, 2, none⟩ = some (.int .i64 x.f2) := (blk_cell BK.out 2).trans rfl
         have hfz29_0 := blk_frozen BK.out 0
         have hfz29_1 := blk_frozen BK.out 1
         have hfz29_2 := blk_frozen BK.out 2
         rw [if_neg (by simp [*])] at H
         obtain rfl := Option.some.inj H
         go_wp2_with (first | ((with_reducible refine gate_dst (N := 83) rfl ?_); (refine gate_guard (by rfl) ?_; dsimp only); refine wpList_lookup_bool_told _ rfl _ _ 85 rfl 3 4 law Try.underlying85 Try.underlying4 (zB _) (w.heap.size + 1) T.length _ rfl (by repeat (first | exact hT | refine own_drewN ?_ _)) _ _ rfl hkey _ hTd ?_) | (at_mapUpdate; refine wpList_mapUpdate_own _ rfl _ _ _ 85 rfl 3 4 law Try.underlying85 (plainElem (H := Unit) Try.prog 4) (w.heap.size + 1) T.length _ rfl (by repeat (first | exact hT | refine own_drewN ?_ _)) (by unfold maxLen; omega) _ _ _ rfl rfl hkey _ [] (plainElem_bool Try.underlying4 true) ?_; intro w1 hT1 hg1))
         go_ret
         exact ⟨rfl, ((show Below w.heap.size w _ from (by repeat (first | exact HB.out | apply below_alloc | apply pw_below_drewN | apply below_drew1))).grown hg1 (by first | exact HB.out.size | exact Nat.le_trans HB.out.size (Nat.le_refl _)) (fun j hj => by cases hj; omega))⟩
        | true =>
         have HCo := HC.out
         by_cases k4 : c = x.f0
         ·have k5 : lastS S x.f2 = x.f0 := HCo.symm.trans k4
          have k4b0 : (c == x.f0) = true := beq_iff_eq.mpr k4
          have k4b1 : (c != x.f0) = false := bne_eq_false_iff_eq.mpr k4
          clear k4 HCo
          have H := H
          have hcz30_0 : wc.cell? ⟨gb, 0, none⟩ = some (.int .i64 x.f0) := (blk_cell BK.out 0).trans rfl
          have hcz30_1 : wc.cell? ⟨gb, 1, none⟩ = some (.int .i64 x.f1) := (blk_cell BK.out 1).trans rfl
          have hcz30_2 : wc.cell? ⟨gb, 2, none⟩ = some (.int .i64 x.f2) := (blk_cell BK.out 2).trans rfl
          have hfz30_0 := blk_frozen BK.out 0
          have hfz30_1 := blk_frozen BK.out 1
          have hfz30_2 := blk_frozen BK.out 2
          rw [if_neg (by simp [*])] at H
          obtain rfl := Option.some.inj H
          go_wp2_with (first | ((with_reducible refine gate_dst (N := 83) rfl ?_); (refine gate_guard (by rfl) ?_; dsimp only); refine wpList_lookup_bool_told _ rfl _ _ 85 rfl 3 4 law Try.underlying85 Try.underlying4 (zB _) (w.heap.size + 1) T.length _ rfl (by repeat (first | exact hT | refine own_drewN ?_ _)) _ _ rfl hkey _ hTd ?_) | (at_mapUpdate; refine wpList_mapUpdate_own _ rfl _ _ _ 85 rfl 3 4 law Try.underlying85 (plainElem (H := Unit) Try.prog 4) (w.heap.size + 1) T.length _ rfl (by repeat (first | exact hT | refine own_drewN ?_ _)) (by unfold maxLen; omega) _ _ _ rfl rfl hkey _ [] (plainElem_bool Try.underlying4 true) ?_; intro w1 hT1 hg1))
          go_ret
          exact ⟨rfl, ((show Below w.heap.size w _ from (by repeat (first | exact HB.out | apply below_alloc | apply pw_below_drewN | apply below_drew1))).grown hg1 (by first | exact HB.out.size | exact Nat.le_trans HB.out.size (Nat.le_refl _)) (fun j hj => by cases hj; omega))⟩
         have k5 : ¬ lastS S x.f2 = x.f0 := fun z => k4 (HCo.trans z)
         have k4b0 : (c == x.f0) = false := beq_eq_false_iff_ne.mpr k4
         have k4b1 : (c != x.f0) = true := bne_iff_ne.mpr k4
         clear k4 HCo
         by_cases k6 : x.f2 ∈ T
         ·have hTd : (dT T (.map [])).atKey (.int .i64 x.f2) (.lit (.bool false)) = .lit (.bool true) := (dT_told T x.f2).trans (by rw [decide_eq_true k6])
          have H := H
          have hcz31_0 : wc.cell? ⟨gb, 0, none⟩ = some (.int .i64 x.f0) := (blk_cell BK.out 0).trans rfl
          have hcz31_1 : wc.cell? ⟨gb, 1, none⟩ = some (.int .i64 x.f1) := (blk_cell BK.out 1).trans rfl
          have hcz31_2 : wc.cell? ⟨gb, 2, none⟩ = some (.int .i64 x.f2) := (blk_cell BK.out 2).trans rfl
          have hfz31_0 := blk_frozen BK.out 0
          have hfz31_1 := blk_frozen BK.out 1
          have hfz31_2 := blk_frozen BK.out 2
          rw [if_neg (by simp [*])] at H
          obtain rfl := Option.some.inj H
          go_wp2_with (first | ((with_reducible refine gate_dst (N := 83) rfl ?_); (refine gate_guard (by rfl) ?_; dsimp only); refine wpList_lookup_bool_told _ rfl _ _ 85 rfl 3 4 law Try.underlying85 Try.underlying4 (zB _) (w.heap.size + 1) T.length _ rfl (by repeat (first | exact hT | refine own_drewN ?_ _)) _ _ rfl hkey _ hTd ?_) | (at_mapUpdate; refine wpList_mapUpdate_own _ rfl _ _ _ 85 rfl 3 4 law Try.underlying85 (plainElem (H := Unit) Try.prog 4) (w.heap.size + 1) T.length _ rfl (by repeat (first | exact hT | refine own_drewN ?_ _)) (by unfold maxLen; omega) _ _ _ rfl rfl hkey _ [] (plainElem_bool Try.underlying4 true) ?_; intro w1 hT1 hg1))
          go_ret
          exact ⟨rfl, ((show Below w.heap.size w _ from (by repeat (first | exact HB.out | apply below_alloc | apply pw_below_drewN | apply below_drew1))).grown hg1 (by first | exact HB.out.size | exact Nat.le_trans HB.out.size (Nat.le_refl _)) (fun j hj => by cases hj; omega))⟩
         ·have hTd : (dT T (.map [])).atKey (.int .i64 x.f2) (.lit (.bool false)) = .lit (.bool false) := (dT_told T x.f2).trans (by rw [decide_eq_false k6])
          have H := H
          have hcz32_0 : wc.cell? ⟨gb, 0, none⟩ = some (.int .i64 x.f0) := (blk_cell BK.out 0).trans rfl
          have hcz32_1 : wc.cell? ⟨gb, 1, none⟩ = some (.int .i64 x.f1) := (blk_cell BK.out 1).trans rfl
          have hcz32_2 : wc.cell? ⟨gb, 2, none⟩ = some (.int .i64 x.f2) := (blk_cell BK.out 2).trans rfl
          have hfz32_0 := blk_frozen BK.out 0
          have hfz32_1 := blk_frozen BK.out 1
          have hfz32_2 := blk_frozen BK.out 2
          rw [if_pos (by simp [*])] at H
          have H' := Aside0.mk H
          clear H
          go_wp2_with (first | ((with_reducible refine gate_dst (N := 83) rfl ?_); (refine gate_guard (by rfl) ?_; dsimp only); refine wpList_lookup_bool_told _ rfl _ _ 85 rfl 3 4 law Try.underlying85 Try.underlying4 (zB _) (w.heap.size + 1) T.length _ rfl (by repeat (first | exact hT | refine own_drewN ?_ _)) _ _ rfl hkey _ hTd ?_) | (at_mapUpdate; refine wpList_mapUpdate_own _ rfl _ _ _ 85 rfl 3 4 law Try.underlying85 (plainElem (H := Unit) Try.prog 4) (w.heap.size + 1) T.length _ rfl (by repeat (first | exact hT | refine own_drewN ?_ _)) (by unfold maxLen; omega) _ _ _ rfl rfl hkey _ [] (plainElem_bool Try.underlying4 true) ?_; intro w1 hT1 hg1))
          go_roundw
          case measure => simp only [intOf, hwr]; omega
          case rel => exact ⟨pre ++ [x], t, S, (T ++ [x.f2]), by rw [← e]; simp, by simp; omega, by simp; omega, by simp, H', (World.ownsMap.kept (by repeat (first | exact hS | refine own_drewN ?_ _)) hg1 (by simp)), (by rw [List.length_append, dT_snoc]; exact hT1), ⟨((show Below w.heap.size w _ from (by repeat (first | exact HB.out | apply below_alloc | apply pw_below_drewN | apply below_drew1))).grown hg1 (by first | exact HB.out.size | exact Nat.le_trans HB.out.size (Nat.le_refl _)) (fun j hj => by cases hj; omega))⟩⟩
      rw [if_neg k3] at H
      have k3b0 : (x.f1 == 3) = false := beq_eq_false_iff_ne.mpr k3
      have k3b1 : (x.f1 != 3) = true := bne_iff_ne.mpr k3
      clear k3
      have hcz33_0 : wc.cell? ⟨gb, 0, none⟩ = some (.int .i64 x.f0) := (blk_cell BK.out 0).trans rfl
      have hcz33_1 : wc.cell? ⟨gb, 1, none⟩ = some (.int .i64 x.f1) := (blk_cell BK.out 1).trans rfl
      have hcz33_2 : wc.cell? ⟨gb, 2, none⟩ = some (.int .i64 x.f2) := (blk_cell BK.out 2).trans rfl
      have hfz33_0 := blk_frozen BK.out 0
      have hfz33_1 := blk_frozen BK.out 1
      have hfz33_2 := blk_frozen BK.out 2
      obtain rfl := Option.some.inj H
      go_wp2
      go_ret
      exact ⟨rfl, (by repeat (first | exact HB.out | apply below_alloc | apply pw_below_drewN | apply below_drew1))⟩
end Go.Proofs.Ytinbfclfglogmaa.P
end
