-- Written by programs of this session (wip/prune.py, wip/xp.py), out of the translation and the printed words; what the law does not reach is left out. Not trusted: Lean checks it.
import Derived.Test.YtgcliajajcinpaaZFnSpreadPx0
import Derived.Test.YtgcliajajcinpaaZFnSpreadPx4
section
namespace Go.Proofs.Ytgcliajajcinpaa.P
open Go.RowKit Go.Proofs.YtgcliajajcinpaaW.PrintWords Go.Proofs.YtgcliajajcinpaaW.PrintLast Go.Proofs.YtgcliajajcinpaaW.PrintMore
attribute [local go_sem] max2_int min2_int max_two min_two max_three min_three max_four min_four   -- for this text's walks alone
set_option linter.unusedVariables false
set_option linter.unusedSimpArgs false
mutual
def spec_l13Rooms.j0 : Nat → Int → List Int → Int → List Int → Int → Option (List Int)
 | 0, _, _, _, _, _ => none
 | k + 1, x0, x1, x2, x7, x8 => if 0 ≤ x0 then (if (x0 : Int).toNat ≤ 35184372088832 then ((some (List.replicate (x0 : Int).toNat 0 : List Int)).bind fun y104 => (spec_l13Rooms.l0 k x1 x2 x7 x8 y104 (y104.length : Int) 0)) else (none)) else (none)
def spec_l13Rooms.l0 : Nat → List Int → Int → List Int → Int → List Int → Int → Int → Option (List Int)
 | 0, _, _, _, _, _, _, _ => none
 | k + 1, x1, x2, x7, x8, x9, x25, x26 => if x26 < x25 then (if x26 = x2 then (spec_l13Rooms.l0 k x1 x2 x7 x8 x9 x25 (wrap64 (x26 + 1))) else (if x8 = 0 then (none) else (if 0 ≤ x26 then (if x26 < (x9.length : Int) then (spec_l13Rooms.l0 k x1 x2 x7 x8 (x9.set (x26 : Int).toNat (wrap64 ((x1.length : Int) / x8))) x25 (wrap64 (x26 + 1))) else (none)) else (none)))) else (if x8 = 0 then (none) else (spec_l13Rooms.l1 k x1 x2 x7 x8 x9 ((x1.length : Int) % x8)))
def spec_l13Rooms.l1 : Nat → List Int → Int → List Int → Int → List Int → Int → Option (List Int)
 | 0, _, _, _, _, _, _ => none
 | k + 1, x1, x2, x7, x8, x9, x11 => if x11 > 0 then (spec_l13Rooms.l2 k x1 x2 x7 x8 x9 x11 (-1) (x9.length : Int) 0) else (some x9)
def spec_l13Rooms.l2 : Nat → List Int → Int → List Int → Int → List Int → Int → Int → Int → Int → Option (List Int)
 | 0, _, _, _, _, _, _, _, _, _ => none
 | k + 1, x1, x2, x7, x8, x9, x11, x12, x49, x50 => if x50 < x49 then (if x50 = x2 then (spec_l13Rooms.l2 k x1 x2 x7 x8 x9 x11 x12 x49 (wrap64 (x50 + 1))) else (if 0 ≤ x50 then (if x50 < (x9.length : Int) then (if x8 = 0 then (none) else (if (rd x9 x50) = (wrap64 ((x1.length : Int) / x8)) then (if x12 < 0 then (spec_l13Rooms.l2 k x1 x2 x7 x8 x9 x11 x50 x49 (wrap64 (x50 + 1))) else (if x50 < (x7.length : Int) then (if 0 ≤ x12 then (if x12 < (x7.length : Int) then (if (rd x7 x50) > (rd x7 x12) then (spec_l13Rooms.l2 k x1 x2 x7 x8 x9 x11 x50 x49 (wrap64 (x50 + 1))) else (spec_l13Rooms.l2 k x1 x2 x7 x8 x9 x11 x12 x49 (wrap64 (x50 + 1)))) else (none)) else (none)) else (none))) else (spec_l13Rooms.l2 k x1 x2 x7 x8 x9 x11 x12 x49 (wrap64 (x50 + 1))))) else (none)) else (none))) else (if 0 ≤ x12 then (if x12 < (x9.length : Int) then (spec_l13Rooms.l1 k x1 x2 x7 x8 (x9.set (x12 : Int).toNat (wrap64 ((rd x9 x12) + 1))) (wrap64 (x11 - 1))) else (none)) else (none))
end
def spec_l13Rooms.f (k : Nat) (a0 : Int) (l1 : List Int) (a2 : Int) : Option (List Int) := (spec_l13Loads.f k a0 l1).bind fun t101 => (if a2 ≥ 0 then (spec_l13Rooms.j0 k a0 l1 a2 t101 (wrap64 (a0 - 1))) else (spec_l13Rooms.j0 k a0 l1 a2 t101 a0))
set_option maxHeartbeats 8000000 in
set_option maxRecDepth 100000 in
theorem spec_l13Rooms.calls (k : Nat) (a0 : Int) (A1 : Option Addr) (c1 : Nat) (l1 : List Int) (a2 : Int) (r : List Int) (w : World) (hr1 : Kd.C (Kd.int .i64) w A1 l1.length l1) (hc1 : l1.length ≤ c1) (h : spec_l13Rooms.f k a0 l1 a2 = some r) :
  Calls Try.prog 93 #[.int .i64 a0, .slice A1 l1.length c1, .int .i64 a2] w fun e w' => ∃ v0_ : Value, e = .returned (v0_) ∧ Kd.R (Kd.int .i64) 3 w' w.heap.size (fun _ => True) v0_ r ∧ Below w.heap.size w w' := by
 have hu3 := Try.underlying3
 have HR1 := Aside0.mk hr1
 have HC1 := Aside0.mk hc1
 clear hr1 hc1
 have HB := Aside0.mk (Below.refl w.heap.size w)
 have H : ((spec_l13Loads.f k a0 l1).bind fun t101 => (if a2 ≥ 0 then (spec_l13Rooms.j0 k a0 l1 a2 t101 (wrap64 (a0 - 1))) else (spec_l13Rooms.j0 k a0 l1 a2 t101 a0))) = some r := h
 clear h
 replace H := Option.bind_eq_some_iff.mp H
 obtain ⟨t101, A40, H⟩ := H
 have A4 := Aside0.mk A40
 clear A40
 have HC5 := Aside0.mk H
 clear H
 go_enter Try.func93, Try.ntmps93
 go_upto_if 19 with (first | (go_at_call 58; (with_reducible refine (spec_l13Loads.calls k a0 _ _ l1 t101 _ ?side1 ?side2 A4.out).mono ?_); (case side1 => repeat (first | exact HR1.out | (with_reducible refine Kd.C_alloc ?_ _) | (with_reducible refine Kd.C_drewN ?_ _) | (with_reducible refine Kd.C_drew ?_))); (case side2 => exact HC1.out); rintro e w6 ⟨v102, rfl, ho0, hb⟩; have n0_ := Aside0.mk (Kd.R_lower ho0 (below_size (by repeat (first | (with_reducible first | exact HB.out | apply below_alloc | apply pw_below_drewN | apply below_drew1) | exact HB.out)))); have n1_ := Aside0.mk (below_step (by repeat (first | (with_reducible first | exact HB.out | apply below_alloc | apply pw_below_drewN | apply below_drew1) | exact HB.out)) hb); clear HB; have HO103 := n0_; have HB := n1_; clear n0_ n1_; (try clear hb); (try clear ho0)))
 repeat (go_quiet (first | (go_at_call 58; (with_reducible refine (spec_l13Loads.calls k a0 _ _ l1 t101 _ ?side1 ?side2 A4.out).mono ?_); (case side1 => repeat (first | exact HR1.out | (with_reducible refine Kd.C_alloc ?_ _) | (with_reducible refine Kd.C_drewN ?_ _) | (with_reducible refine Kd.C_drew ?_))); (case side2 => exact HC1.out); rintro e w6 ⟨v102, rfl, ho0, hb⟩; have n0_ := Aside0.mk (Kd.R_lower ho0 (below_size (by repeat (first | (with_reducible first | exact HB.out | apply below_alloc | apply pw_below_drewN | apply below_drew1) | exact HB.out)))); have n1_ := Aside0.mk (below_step (by repeat (first | (with_reducible first | exact HB.out | apply below_alloc | apply pw_below_drewN | apply below_drew1) | exact HB.out)) hb); clear HB; have HO103 := n0_; have HB := n1_; clear n0_ n1_; (try clear hb); (try clear ho0))); go_upto_if 19 with (first | (go_at_call 58; (with_reducible refine (spec_l13Loads.calls k a0 _ _ l1 t101 _ ?side1 ?side2 A4.out).mono ?_); (case side1 => repeat (first | exact HR1.out | (with_reducible refine Kd.C_alloc ?_ _) | (with_reducible refine Kd.C_drewN ?_ _) | (with_reducible refine Kd.C_drew ?_))); (case side2 => exact HC1.out); rintro e w6 ⟨v102, rfl, ho0, hb⟩; have n0_ := Aside0.mk (Kd.R_lower ho0 (below_size (by repeat (first | (with_reducible first | exact HB.out | apply below_alloc | apply pw_below_drewN | apply below_drew1) | exact HB.out)))); have n1_ := Aside0.mk (below_step (by repeat (first | (with_reducible first | exact HB.out | apply below_alloc | apply pw_below_drewN | apply below_drew1) | exact HB.out)) hb); clear HB; have HO103 := n0_; have HB := n1_; clear n0_ n1_; (try clear hb); (try clear ho0))))
 (try simp only [Act.put, List.setIfInBounds_toArray, List.set_cons_zero, List.set_cons_succ])
 go_cut [8] (fun v8 wc => ∃ (kq : Nat) (x8_4 : Int), v8 = .int .i64 x8_4 ∧ Aside0 (spec_l13Rooms.j0 kq a0 l1 a2 t101 x8_4 = some r) ∧ Aside0 (kq ≤ k) ∧ Aside0 (Kd.R (Kd.int .i64) 3 wc w.heap.size (fun _ => True) v102 t101) ∧ Aside0 (Below w.heap.size w wc))
 case first =>
  have H := HC5.out
  clear HC5
  by_cases c7 : a2 ≥ 0
  ·rw [if_pos c7] at H
   have c7b0 : decide (0 ≤ a2) = true := decide_eq_true c7
   clear c7
   (first | rw [c7b0] | (simp only [i64_w, i32_w]; rw [c7b0]) | skip)
   have H' := Aside0.mk H
   clear H
   go_wp2
   repeat (go_quiet (fail); try go_wp2)
   go_meet
   case rel => exact ⟨_, (wrap64 (a0 - 1)), (by first | rfl | (simp; done) | (simp [*]; done)), H', ⟨by first | omega | exact Nat.le_refl _⟩, ⟨by (with_reducible repeat (first | apply Kd.R_alloc | apply Kd.R_drewN | apply Kd.R_drew)); exact HO103.out⟩, ⟨by repeat (first | (with_reducible first | exact HB.out | apply below_alloc | apply pw_below_drewN | apply below_drew1) | exact HB.out)⟩⟩
  ·rw [if_neg c7] at H
   have c7b0 : decide (0 ≤ a2) = false := decide_eq_false c7
   clear c7
   (first | rw [c7b0] | (simp only [i64_w, i32_w]; rw [c7b0]) | skip)
   have H' := Aside0.mk H
   clear H
   go_wp2
   repeat (go_quiet (fail); try go_wp2)
   go_meet
   case rel => exact ⟨_, (a0), (by first | rfl | (simp; done) | (simp [*]; done)), H', ⟨by first | omega | exact Nat.le_refl _⟩, ⟨by (with_reducible repeat (first | apply Kd.R_alloc | apply Kd.R_drewN | apply Kd.R_drew)); exact HO103.out⟩, ⟨by repeat (first | (with_reducible first | exact HB.out | apply below_alloc | apply pw_below_drewN | apply below_drew1) | exact HB.out)⟩⟩
 case rest =>
  clear HC5
  obtain ⟨kq, x8_4, rfl, HA, HJ4, HO_7, HB⟩ := hcut
  cases kq with
  | zero => exact absurd HA.out (by simp [spec_l13Rooms.j0])
  | succ kj4 =>
   have H := HA.out
   clear HA
   simp only [spec_l13Rooms.j0] at H
   by_cases c8 : 0 ≤ a0
   ·rw [if_pos c8] at H
    have c8b0 := eq_true c8
    have c8b1 : decide (0 ≤ a0) = true := decide_eq_true c8
    clear c8
    by_cases c9 : (a0 : Int).toNat ≤ 35184372088832
    ·rw [if_pos c9] at H
     have c9b0 := eq_true c9
     have c9b1 : decide ((a0 : Int).toNat ≤ 35184372088832) = true := decide_eq_true c9
     clear c9
     obtain ⟨y104, hy104⟩ : ∃ y_ : List Int, y_ = (List.replicate (a0 : Int).toNat 0) := ⟨_, rfl⟩
     replace H : (spec_l13Rooms.l0 kj4 l1 a2 t101 x8_4 y104 (y104.length : Int) 0) = some r := by first | (rw [hy104]; with_reducible exact H) | (have H2_ := (Option.bind_some _ _).symm.trans H; rw [hy104]; with_reducible exact H2_) | (have H2_ := (Option.bind_some _ _).symm.trans H; with_reducible exact H2_) | with_reducible exact H | (rw [hy104]; exact H) | exact H
     have Ny104 := Aside0.mk hy104
     clear hy104
     have H' := Aside0.mk H
     clear H
     go_wp2_with (first | ((with_reducible refine gate_dst (N := 23) rfl ?_); (try (refine gate_guard (by rfl) ?_; dsimp only)); refine Kd.R_make (Kd.int .i64) _ 3 rfl (N := 23) rfl 22 _ _ rfl a0 rfl rfl Try.underlying22 (.int .i64 0) 8 info3 rfl (by decide) (by omega) 0 (ok := fun _ => True) (okp := fun _ => True) rfl (fun _ hk => hk) trivial (of_decide_eq_true (by assumption)) (Nat.le_trans (Nat.mul_le_mul_right _ (of_decide_eq_true (by assumption) : a0.toNat ≤ 35184372088832)) (by omega)) (Below.refl _ _) (Nat.le_refl _) ?_; intro v105 w10 ho11 hb hg_ hnew_; clear hg_ hnew_; (first | rw [← Ny104.out] at ho11 | (simp only [Int.reduceToNat] at ho11; rw [← Ny104.out] at ho11)); have n0_ := Aside0.mk (Kd.R_elder' (by (with_reducible repeat (first | apply Kd.R_alloc | apply Kd.R_drewN | apply Kd.R_drew)); exact HO_7.out) (Kd.R_base ho11) hb); have n1_ := Aside0.mk (Kd.R_lower (Kd.R_new' ho11 (Kd.R_lt (by (with_reducible repeat (first | apply Kd.R_alloc | apply Kd.R_drewN | apply Kd.R_drew)); exact HO_7.out))) (below_size (by repeat (first | (with_reducible first | exact HB.out | apply below_alloc | apply pw_below_drewN | apply below_drew1) | exact HB.out)))); have n2_ := Aside0.mk (below_step (by repeat (first | (with_reducible first | exact HB.out | apply below_alloc | apply pw_below_drewN | apply below_drew1) | exact HB.out)) hb); clear HO_7; clear HB; have HO_7 := n0_; have HO106 := n1_; have HB := n2_; clear n0_ n1_ n2_; clear hb ho11; obtain ⟨Ao12, co12, eo12⟩ := Kd.R_slice HO106.out; subst eo12))
     repeat (go_quiet (first | ((with_reducible refine gate_dst (N := 23) rfl ?_); (try (refine gate_guard (by rfl) ?_; dsimp only)); refine Kd.R_make (Kd.int .i64) _ 3 rfl (N := 23) rfl 22 _ _ rfl a0 rfl rfl Try.underlying22 (.int .i64 0) 8 info3 rfl (by decide) (by omega) 0 (ok := fun _ => True) (okp := fun _ => True) rfl (fun _ hk => hk) trivial (of_decide_eq_true (by assumption)) (Nat.le_trans (Nat.mul_le_mul_right _ (of_decide_eq_true (by assumption) : a0.toNat ≤ 35184372088832)) (by omega)) (Below.refl _ _) (Nat.le_refl _) ?_; intro v105 w10 ho11 hb hg_ hnew_; clear hg_ hnew_; (first | rw [← Ny104.out] at ho11 | (simp only [Int.reduceToNat] at ho11; rw [← Ny104.out] at ho11)); have n0_ := Aside0.mk (Kd.R_elder' (by (with_reducible repeat (first | apply Kd.R_alloc | apply Kd.R_drewN | apply Kd.R_drew)); exact HO_7.out) (Kd.R_base ho11) hb); have n1_ := Aside0.mk (Kd.R_lower (Kd.R_new' ho11 (Kd.R_lt (by (with_reducible repeat (first | apply Kd.R_alloc | apply Kd.R_drewN | apply Kd.R_drew)); exact HO_7.out))) (below_size (by repeat (first | (with_reducible first | exact HB.out | apply below_alloc | apply pw_below_drewN | apply below_drew1) | exact HB.out)))); have n2_ := Aside0.mk (below_step (by repeat (first | (with_reducible first | exact HB.out | apply below_alloc | apply pw_below_drewN | apply below_drew1) | exact HB.out)) hb); clear HO_7; clear HB; have HO_7 := n0_; have HO106 := n1_; have HB := n2_; clear n0_ n1_ n2_; clear hb ho11; obtain ⟨Ao12, co12, eo12⟩ := Kd.R_slice HO106.out; subst eo12)); try go_wp2_with (first | ((with_reducible refine gate_dst (N := 23) rfl ?_); (try (refine gate_guard (by rfl) ?_; dsimp only)); refine Kd.R_make (Kd.int .i64) _ 3 rfl (N := 23) rfl 22 _ _ rfl a0 rfl rfl Try.underlying22 (.int .i64 0) 8 info3 rfl (by decide) (by omega) 0 (ok := fun _ => True) (okp := fun _ => True) rfl (fun _ hk => hk) trivial (of_decide_eq_true (by assumption)) (Nat.le_trans (Nat.mul_le_mul_right _ (of_decide_eq_true (by assumption) : a0.toNat ≤ 35184372088832)) (by omega)) (Below.refl _ _) (Nat.le_refl _) ?_; intro v105 w10 ho11 hb hg_ hnew_; clear hg_ hnew_; (first | rw [← Ny104.out] at ho11 | (simp only [Int.reduceToNat] at ho11; rw [← Ny104.out] at ho11)); have n0_ := Aside0.mk (Kd.R_elder' (by (with_reducible repeat (first | apply Kd.R_alloc | apply Kd.R_drewN | apply Kd.R_drew)); exact HO_7.out) (Kd.R_base ho11) hb); have n1_ := Aside0.mk (Kd.R_lower (Kd.R_new' ho11 (Kd.R_lt (by (with_reducible repeat (first | apply Kd.R_alloc | apply Kd.R_drewN | apply Kd.R_drew)); exact HO_7.out))) (below_size (by repeat (first | (with_reducible first | exact HB.out | apply below_alloc | apply pw_below_drewN | apply below_drew1) | exact HB.out)))); have n2_ := Aside0.mk (below_step (by repeat (first | (with_reducible first | exact HB.out | apply below_alloc | apply pw_below_drewN | apply below_drew1) | exact HB.out)) hb); clear HO_7; clear HB; have HO_7 := n0_; have HO106 := n1_; have HB := n2_; clear n0_ n1_ n2_; clear hb ho11; obtain ⟨Ao12, co12, eo12⟩ := Kd.R_slice HO106.out; subst eo12)))
     go_loopg [26] kj4 (fun kq v26 w' => ∃ (x9_2 : List Int) (x26_2 : Int), v26 = .int .i64 x26_2 ∧ Aside0 (spec_l13Rooms.l0 kq l1 a2 t101 x8_4 x9_2 (y104.length : Int) x26_2 = some r) ∧ Aside0 (kq ≤ kj4) ∧ Aside0 (Kd.R (Kd.int .i64) 3 w' w.heap.size (fun k_ => some k_ ≠ ((.slice Ao12 y104.length co12) : Value).ownBlock) v102 t101) ∧ Aside0 (Kd.R (Kd.int .i64) 3 w' w.heap.size (fun k_ => some k_ ≠ (v102 : Value).ownBlock) (.slice Ao12 y104.length co12) x9_2) ∧ Aside0 (Below w.heap.size w w'))
     case atStart => exact ⟨(y104), (0), (by first | rfl | (simp; done) | (simp [*]; done)), H', ⟨Nat.le_refl _⟩, ⟨by (with_reducible repeat (first | apply Kd.R_alloc | apply Kd.R_drewN | apply Kd.R_drew)); exact Kd.R_mono HO_7.out (fun _ hk => hk.2)⟩, ⟨by (with_reducible repeat (first | apply Kd.R_alloc | apply Kd.R_drewN | apply Kd.R_drew)); exact Kd.R_mono HO106.out (fun _ hk => hk.2)⟩, ⟨by repeat (first | (with_reducible first | exact HB.out | apply below_alloc | apply pw_below_drewN | apply below_drew1) | exact HB.out)⟩⟩
     case round =>
      clear H'
      try clear c8
      try clear c8b0
      try clear c8b1
      try clear c9
      try clear c9b0
      try clear c9b1
      obtain ⟨x9_2, x26_2, rfl, HA, HK2, HO_7, HO_9, HB⟩ := hrel
      have hl9_2 := (Kd.R_reads' HO_9.out).1
      rw [hl9_2] at HO_9
      (try simp only [hl9_2])
      (try simp only [hl9_2] at HO_7)
      cases gk with
      | zero => exact absurd HA.out (by simp [spec_l13Rooms.l0])
      | succ k2 =>
       have H := HA.out
       clear HA
       simp only [spec_l13Rooms.l0] at H
       by_cases c13 : x26_2 < (y104.length : Int)
       ·rw [if_pos c13] at H
        have c13b0 : decide (x26_2 < (y104.length : Int)) = true := decide_eq_true c13
        clear c13
        try (have c13h0 := c13b0; simp only [hl9_2] at c13h0)
        by_cases c14 : x26_2 = a2
        ·rw [if_pos c14] at H
         have c14b0 : (x26_2 == a2) = true := beq_iff_eq.mpr c14
         have c14b1 : (x26_2 != a2) = false := bne_eq_false_iff_eq.mpr c14
         clear c14
         have H' := Aside0.mk H
         clear H
         go_wp2
         repeat (go_quiet (fail); try go_wp2)
         (try simp only [← hl9_2])
         go_roundg k2
         case measure => have := HJ4.out; have := HK2.out; omega
         case rel => exact ⟨(x9_2), (wrap64 (x26_2 + 1)), (by first | rfl | (simp; done) | (simp [*]; done)), H', ⟨by have := HJ4.out; have := HK2.out; omega⟩, ⟨by (try simp only [hl9_2]); (with_reducible repeat (first | apply Kd.R_alloc | apply Kd.R_drewN | apply Kd.R_drew)); exact HO_7.out⟩, ⟨by (try simp only [hl9_2]); (with_reducible repeat (first | apply Kd.R_alloc | apply Kd.R_drewN | apply Kd.R_drew)); exact HO_9.out⟩, ⟨by repeat (first | (with_reducible first | exact HB.out | apply below_alloc | apply pw_below_drewN | apply below_drew1) | exact HB.out)⟩⟩
        ·rw [if_neg c14] at H
         have c14b0 : (x26_2 == a2) = false := beq_eq_false_iff_ne.mpr c14
         have c14b1 : (x26_2 != a2) = true := bne_iff_ne.mpr c14
         by_cases c15 : x8_4 = 0
         ·rw [if_pos c15] at H
          exact absurd H (by simp)
         ·rw [if_neg c15] at H
          have c15b0 : (x8_4 == 0) = false := beq_eq_false_iff_ne.mpr c15
          have c15b1 : (x8_4 != 0) = true := bne_iff_ne.mpr c15
          by_cases c16 : 0 ≤ x26_2
          ·rw [if_pos c16] at H
           have c16b0 : decide (0 ≤ x26_2) = true := decide_eq_true c16
           clear c16
           by_cases c17 : x26_2 < (x9_2.length : Int)
           ·rw [if_pos c17] at H
            have c17b0 : decide (x26_2 < (x9_2.length : Int)) = true := decide_eq_true c17
            clear c17
            try (have c17h0 := c17b0; simp only [hl9_2] at c17h0)
            obtain ⟨y107, hy107⟩ : ∃ y_ : List Int, y_ = (x9_2.set (x26_2 : Int).toNat (wrap64 ((l1.length : Int) / x8_4))) := ⟨_, rfl⟩
            replace H : (spec_l13Rooms.l0 k2 l1 a2 t101 x8_4 y107 (y104.length : Int) (wrap64 (x26_2 + 1))) = some r := by first | (rw [hy107]; with_reducible exact H) | (have H2_ := (Option.bind_some _ _).symm.trans H; rw [hy107]; with_reducible exact H2_) | (have H2_ := (Option.bind_some _ _).symm.trans H; with_reducible exact H2_) | with_reducible exact H | (rw [hy107]; exact H) | exact H
            have Ny107 := Aside0.mk hy107
            clear hy107
            have H' := Aside0.mk H
            clear H
            have p18 : 0 ≤ (x26_2 : Int) := of_decide_eq_true (by assumption)
            have q18 : (x26_2 : Int) < ((x9_2.length : Int) : Int) := of_decide_eq_true (by assumption)
            obtain ⟨go18, co18, eo18, gb18, gl18, cl18, HG18⟩ := Kd.R_form HO_9.out (by omega)
            (first | cases eo18 | (injection eo18 with ea_ en_ ec_; (first | subst ea_ | (injection ea_ with ea_; subst ea_)); subst ec_; clear en_))
            have GB18 := Aside0.mk gb18
            have GG18 := Aside0.mk HG18
            clear gb18 gl18 HG18
            obtain ⟨hx18_0, hf18_0⟩ := Kd.R_celln 0 HO_9.out (x26_2 : Int) p18 q18
            replace p18 := eq_true p18
            replace q18 := eq_true q18
            have HP19 := Kd.R_putg HO_9.out (x26_2 : Int) (wrap64 ((l1.length : Int) / x8_4))
            go_wp2_with (first | ((with_reducible refine gate_store (t := 3) (p := 38) rfl ?_); (try (rw [drewN_self wr]; generalize hq_ : World.drewN wr _ = wr; have n0_ := Aside0.mk (Kd.R_at hq_ HO_7.out); have n1_ := Aside0.mk (Kd.R_at hq_ HO_9.out); have n2_ := Aside0.mk (below_at hq_ HB.out); clear hq_ HO_7 HO_9 HB; have HO_7 := n0_; have HO_9 := n1_; have HB := n2_; clear n0_ n1_ n2_; (try (obtain ⟨hx18_0, hf18_0⟩ := Kd.R_celln 0 HO_9.out (x26_2 : Int) (of_eq_true p18) (of_eq_true q18))); (try (have HP19 := Kd.R_putg HO_9.out (x26_2 : Int) (wrap64 ((l1.length : Int) / x8_4)))))); refine store_event (t := 3) (p := 38) (v := ?vo_w20) (w1 := (wr.setCell ⟨go18, (x26_2 : Int).toNat, none⟩ (.int .i64 (wrap64 ((l1.length : Int) / x8_4))))) ?hg ?ho ?hn ?hr ?_; (case ho => rfl); (case hg => rfl); (case hn => rfl); (case hr => first | (go_simp; done) | (go_simp; rfl)); intro w20 hw; have hg : wr.grownBy w20 (some go18) := (by rw [hw]; exact HP19.2); have hp_ : Kd.R (Kd.int .i64) 3 w20 w.heap.size (fun k_ => some k_ ≠ (v102 : Value).ownBlock) (.slice (some ⟨go18, 0, none⟩) x9_2.length co12) y107 := (by rw [hw, Ny107.out]; exact HP19.1); clear HP19; have n0_ := Aside0.mk (Kd.R_after (v := (.slice (some ⟨go18, 0, none⟩) x9_2.length co12)) (v1 := (.slice (some ⟨go18, 0, none⟩) x9_2.length co12)) (ok := (fun _ => True)) (by (with_reducible repeat (first | apply Kd.R_alloc | apply Kd.R_drewN | apply Kd.R_drew)); exact Kd.R_mono HO_7.out (fun _ hk => ⟨trivial, hk⟩)) hg (.inl rfl)); have n1_ := Aside0.mk (hp_); have n2_ := Aside0.mk ((by rw [hw]; exact below_set (HB.out) GB18.out : Below w.heap.size w w20)); clear HO_7; clear HO_9; clear HB; have HO_7 := n0_; have HO_9 := n1_; have HB := n2_; clear n0_ n1_ n2_; clear hg hw hp_))
            repeat (go_quiet (first | ((with_reducible refine gate_store (t := 3) (p := 38) rfl ?_); (try (rw [drewN_self wr]; generalize hq_ : World.drewN wr _ = wr; have n0_ := Aside0.mk (Kd.R_at hq_ HO_7.out); have n1_ := Aside0.mk (Kd.R_at hq_ HO_9.out); have n2_ := Aside0.mk (below_at hq_ HB.out); clear hq_ HO_7 HO_9 HB; have HO_7 := n0_; have HO_9 := n1_; have HB := n2_; clear n0_ n1_ n2_; (try (obtain ⟨hx18_0, hf18_0⟩ := Kd.R_celln 0 HO_9.out (x26_2 : Int) (of_eq_true p18) (of_eq_true q18))); (try (have HP19 := Kd.R_putg HO_9.out (x26_2 : Int) (wrap64 ((l1.length : Int) / x8_4)))))); refine store_event (t := 3) (p := 38) (v := ?vo_w20) (w1 := (wr.setCell ⟨go18, (x26_2 : Int).toNat, none⟩ (.int .i64 (wrap64 ((l1.length : Int) / x8_4))))) ?hg ?ho ?hn ?hr ?_; (case ho => rfl); (case hg => rfl); (case hn => rfl); (case hr => first | (go_simp; done) | (go_simp; rfl)); intro w20 hw; have hg : wr.grownBy w20 (some go18) := (by rw [hw]; exact HP19.2); have hp_ : Kd.R (Kd.int .i64) 3 w20 w.heap.size (fun k_ => some k_ ≠ (v102 : Value).ownBlock) (.slice (some ⟨go18, 0, none⟩) x9_2.length co12) y107 := (by rw [hw, Ny107.out]; exact HP19.1); clear HP19; have n0_ := Aside0.mk (Kd.R_after (v := (.slice (some ⟨go18, 0, none⟩) x9_2.length co12)) (v1 := (.slice (some ⟨go18, 0, none⟩) x9_2.length co12)) (ok := (fun _ => True)) (by (with_reducible repeat (first | apply Kd.R_alloc | apply Kd.R_drewN | apply Kd.R_drew)); exact Kd.R_mono HO_7.out (fun _ hk => ⟨trivial, hk⟩)) hg (.inl rfl)); have n1_ := Aside0.mk (hp_); have n2_ := Aside0.mk ((by rw [hw]; exact below_set (HB.out) GB18.out : Below w.heap.size w w20)); clear HO_7; clear HO_9; clear HB; have HO_7 := n0_; have HO_9 := n1_; have HB := n2_; clear n0_ n1_ n2_; clear hg hw hp_)); try go_wp2_with (first | ((with_reducible refine gate_store (t := 3) (p := 38) rfl ?_); (try (rw [drewN_self wr]; generalize hq_ : World.drewN wr _ = wr; have n0_ := Aside0.mk (Kd.R_at hq_ HO_7.out); have n1_ := Aside0.mk (Kd.R_at hq_ HO_9.out); have n2_ := Aside0.mk (below_at hq_ HB.out); clear hq_ HO_7 HO_9 HB; have HO_7 := n0_; have HO_9 := n1_; have HB := n2_; clear n0_ n1_ n2_; (try (obtain ⟨hx18_0, hf18_0⟩ := Kd.R_celln 0 HO_9.out (x26_2 : Int) (of_eq_true p18) (of_eq_true q18))); (try (have HP19 := Kd.R_putg HO_9.out (x26_2 : Int) (wrap64 ((l1.length : Int) / x8_4)))))); refine store_event (t := 3) (p := 38) (v := ?vo_w20) (w1 := (wr.setCell ⟨go18, (x26_2 : Int).toNat, none⟩ (.int .i64 (wrap64 ((l1.length : Int) / x8_4))))) ?hg ?ho ?hn ?hr ?_; (case ho => rfl); (case hg => rfl); (case hn => rfl); (case hr => first | (go_simp; done) | (go_simp; rfl)); intro w20 hw; have hg : wr.grownBy w20 (some go18) := (by rw [hw]; exact HP19.2); have hp_ : Kd.R (Kd.int .i64) 3 w20 w.heap.size (fun k_ => some k_ ≠ (v102 : Value).ownBlock) (.slice (some ⟨go18, 0, none⟩) x9_2.length co12) y107 := (by rw [hw, Ny107.out]; exact HP19.1); clear HP19; have n0_ := Aside0.mk (Kd.R_after (v := (.slice (some ⟨go18, 0, none⟩) x9_2.length co12)) (v1 := (.slice (some ⟨go18, 0, none⟩) x9_2.length co12)) (ok := (fun _ => True)) (by (with_reducible repeat (first | apply Kd.R_alloc | apply Kd.R_drewN | apply Kd.R_drew)); exact Kd.R_mono HO_7.out (fun _ hk => ⟨trivial, hk⟩)) hg (.inl rfl)); have n1_ := Aside0.mk (hp_); have n2_ := Aside0.mk ((by rw [hw]; exact below_set (HB.out) GB18.out : Below w.heap.size w w20)); clear HO_7; clear HO_9; clear HB; have HO_7 := n0_; have HO_9 := n1_; have HB := n2_; clear n0_ n1_ n2_; clear hg hw hp_)))
            (try simp only [← hl9_2])
            go_roundg k2
            case measure => have := HJ4.out; have := HK2.out; omega
            case rel => exact ⟨(y107), (wrap64 (x26_2 + 1)), (by first | rfl | (simp; done) | (simp [*]; done)), H', ⟨by have := HJ4.out; have := HK2.out; omega⟩, ⟨by (try simp only [hl9_2]); (with_reducible repeat (first | apply Kd.R_alloc | apply Kd.R_drewN | apply Kd.R_drew)); exact Kd.R_mono HO_7.out (fun _ hk => hk.2)⟩, ⟨by (try simp only [hl9_2]); (with_reducible repeat (first | apply Kd.R_alloc | apply Kd.R_drewN | apply Kd.R_drew)); exact HO_9.out⟩, ⟨by repeat (first | (with_reducible first | exact HB.out | apply below_alloc | apply pw_below_drewN | apply below_drew1) | exact HB.out)⟩⟩
           ·rw [if_neg c17] at H
            exact absurd H (by simp)
          ·rw [if_neg c16] at H
           exact absurd H (by simp)
       ·rw [if_neg c13] at H
        have c13b0 : decide (x26_2 < (y104.length : Int)) = false := decide_eq_false c13
        clear c13
        try (have c13h0 := c13b0; simp only [hl9_2] at c13h0)
        by_cases c21 : x8_4 = 0
        ·rw [if_pos c21] at H
         exact absurd H (by simp)
        ·rw [if_neg c21] at H
         have c21b0 : (x8_4 == 0) = false := beq_eq_false_iff_ne.mpr c21
         have c21b1 : (x8_4 != 0) = true := bne_iff_ne.mpr c21
         have H' := Aside0.mk H
         clear H
         go_wp2
         repeat (go_quiet (fail); try go_wp2)
         go_loopg [11] k2 (fun kq v11 w' => ∃ (x9_3 : List Int) (x11_3 : Int), v11 = .int .i64 x11_3 ∧ Aside0 (spec_l13Rooms.l1 kq l1 a2 t101 x8_4 x9_3 x11_3 = some r) ∧ Aside0 (kq ≤ k2) ∧ Aside0 (Kd.R (Kd.int .i64) 3 w' w.heap.size (fun k_ => some k_ ≠ ((.slice Ao12 x9_2.length co12) : Value).ownBlock) v102 t101) ∧ Aside0 (Kd.R (Kd.int .i64) 3 w' w.heap.size (fun k_ => some k_ ≠ (v102 : Value).ownBlock) (.slice Ao12 x9_2.length co12) x9_3) ∧ Aside0 (Below w.heap.size w w'))
         case atStart => exact ⟨(x9_2), ((l1.length : Int) % x8_4), (by first | rfl | (simp; done) | (simp [*]; done)), H', ⟨Nat.le_refl _⟩, ⟨by (try simp only [hl9_2]); (with_reducible repeat (first | apply Kd.R_alloc | apply Kd.R_drewN | apply Kd.R_drew)); exact HO_7.out⟩, ⟨by (try simp only [hl9_2]); (with_reducible repeat (first | apply Kd.R_alloc | apply Kd.R_drewN | apply Kd.R_drew)); exact HO_9.out⟩, ⟨by repeat (first | (with_reducible first | exact HB.out | apply below_alloc | apply pw_below_drewN | apply below_drew1) | exact HB.out)⟩⟩
         case round =>
          clear H'
          try clear c8
          try clear c8b0
          try clear c8b1
          try clear c9
          try clear c9b0
          try clear c9b1
          try clear c13
          try clear c13b0
          try clear c21
          try clear c21b0
          try clear c21b1
          obtain ⟨x9_3, x11_3, rfl, HA, HK3, HO_7, HO_9, HB⟩ := hrel
          have hl9_3 := (Kd.R_reads' HO_9.out).1
          rw [hl9_3] at HO_9
          (try simp only [hl9_3])
          (try simp only [hl9_3] at HO_7)
          cases gk with
          | zero => exact absurd HA.out (by simp [spec_l13Rooms.l1])
          | succ k3 =>
           have H := HA.out
           clear HA
           simp only [spec_l13Rooms.l1] at H
           by_cases c22 : x11_3 > 0
           ·rw [if_pos c22] at H
            have c22b0 : decide (0 < x11_3) = true := decide_eq_true c22
            clear c22
            have H' := Aside0.mk H
            clear H
            go_wp2
            repeat (go_quiet (fail); try go_wp2)
            go_loopg [12, 50] k3 (fun kq v12 v50 w' => ∃ (x12_4 : Int) (x50_4 : Int), v12 = .int .i64 x12_4 ∧ v50 = .int .i64 x50_4 ∧ Aside0 (spec_l13Rooms.l2 kq l1 a2 t101 x8_4 x9_3 x11_3 x12_4 (x9_3.length : Int) x50_4 = some r) ∧ Aside0 (kq ≤ k3) ∧ Aside0 (Kd.R (Kd.int .i64) 3 w' w.heap.size (fun k_ => some k_ ≠ ((.slice Ao12 x9_3.length co12) : Value).ownBlock) v102 t101) ∧ Aside0 (Kd.R (Kd.int .i64) 3 w' w.heap.size (fun k_ => some k_ ≠ (v102 : Value).ownBlock) (.slice Ao12 x9_3.length co12) x9_3) ∧ Aside0 (Below w.heap.size w w'))
            case atStart => exact ⟨((-1)), (0), (by first | rfl | (simp; done) | (simp [*]; done)), (by first | rfl | (simp; done) | (simp [*]; done)), H', ⟨Nat.le_refl _⟩, ⟨by (try simp only [hl9_2]); (try simp only [hl9_3]); (with_reducible repeat (first | apply Kd.R_alloc | apply Kd.R_drewN | apply Kd.R_drew)); exact HO_7.out⟩, ⟨by (try simp only [hl9_2]); (try simp only [hl9_3]); (with_reducible repeat (first | apply Kd.R_alloc | apply Kd.R_drewN | apply Kd.R_drew)); exact HO_9.out⟩, ⟨by repeat (first | (with_reducible first | exact HB.out | apply below_alloc | apply pw_below_drewN | apply below_drew1) | exact HB.out)⟩⟩
            case round =>
             clear H'
             try clear c8
             try clear c8b0
             try clear c8b1
             try clear c9
             try clear c9b0
             try clear c9b1
             try clear c13
             try clear c13b0
             try clear c21
             try clear c21b0
             try clear c21b1
             try clear c22
             try clear c22b0
             obtain ⟨x12_4, x50_4, rfl, rfl, HA, HK4, HO_7, HO_9, HB⟩ := hrel
             cases gk with
             | zero => exact absurd HA.out (by simp [spec_l13Rooms.l2])
             | succ k4 =>
              have H := HA.out
              clear HA
              simp only [spec_l13Rooms.l2] at H
              by_cases c23 : x50_4 < (x9_3.length : Int)
              ·rw [if_pos c23] at H
               have c23b0 : decide (x50_4 < (x9_3.length : Int)) = true := decide_eq_true c23
               clear c23
               try (have c23h0 := c23b0; simp only [hl9_2, hl9_3] at c23h0)
               by_cases c24 : x50_4 = a2
               ·rw [if_pos c24] at H
                have c24b0 : (x50_4 == a2) = true := beq_iff_eq.mpr c24
                have c24b1 : (x50_4 != a2) = false := bne_eq_false_iff_eq.mpr c24
                clear c24
                have H' := Aside0.mk H
                clear H
                go_wp2
                repeat (go_quiet (fail); try go_wp2)
                go_roundg k4
                case measure => have := HJ4.out; have := HK2.out; have := HK3.out; have := HK4.out; omega
                case rel => exact ⟨(x12_4), (wrap64 (x50_4 + 1)), (by first | rfl | (simp; done) | (simp [*]; done)), (by first | rfl | (simp; done) | (simp [*]; done)), H', ⟨by have := HJ4.out; have := HK2.out; have := HK3.out; have := HK4.out; omega⟩, ⟨by (try simp only [hl9_2]); (try simp only [hl9_3]); (with_reducible repeat (first | apply Kd.R_alloc | apply Kd.R_drewN | apply Kd.R_drew)); exact HO_7.out⟩, ⟨by (try simp only [hl9_2]); (try simp only [hl9_3]); (with_reducible repeat (first | apply Kd.R_alloc | apply Kd.R_drewN | apply Kd.R_drew)); exact HO_9.out⟩, ⟨by repeat (first | (with_reducible first | exact HB.out | apply below_alloc | apply pw_below_drewN | apply below_drew1) | exact HB.out)⟩⟩
               ·rw [if_neg c24] at H
                have c24b0 : (x50_4 == a2) = false := beq_eq_false_iff_ne.mpr c24
                have c24b1 : (x50_4 != a2) = true := bne_iff_ne.mpr c24
                by_cases c25 : 0 ≤ x50_4
                ·rw [if_pos c25] at H
                 have c25b0 : decide (0 ≤ x50_4) = true := decide_eq_true c25
                 clear c25
                 by_cases c26 : x50_4 < (x9_3.length : Int)
                 ·rw [if_pos c26] at H
                  have c26b0 : decide (x50_4 < (x9_3.length : Int)) = true := decide_eq_true c26
                  clear c26
                  try (have c26h0 := c26b0; simp only [hl9_2, hl9_3] at c26h0)
                  by_cases c27 : x8_4 = 0
                  ·rw [if_pos c27] at H
                   exact absurd H (by simp)
                  ·rw [if_neg c27] at H
                   have c27b0 : (x8_4 == 0) = false := beq_eq_false_iff_ne.mpr c27
                   have c27b1 : (x8_4 != 0) = true := bne_iff_ne.mpr c27
                   by_cases c28 : (rd x9_3 x50_4) = (wrap64 ((l1.length : Int) / x8_4))
                   ·rw [if_pos c28] at H
                    have c28b0 : ((rd x9_3 x50_4) == (wrap64 ((l1.length : Int) / x8_4))) = true := beq_iff_eq.mpr c28
                    have c28b1 : ((rd x9_3 x50_4) != (wrap64 ((l1.length : Int) / x8_4))) = false := bne_eq_false_iff_eq.mpr c28
                    clear c28
                    try (have c28h0 := c28b0; simp only [hl9_2, hl9_3] at c28h0)
                    by_cases c29 : x12_4 < 0
                    ·rw [if_pos c29] at H
                     have c29b0 : decide (x12_4 < 0) = true := decide_eq_true c29
                     clear c29
                     have H' := Aside0.mk H
                     clear H
                     have p108 : 0 ≤ (x50_4 : Int) := of_decide_eq_true (by assumption)
                     have q108 : x50_4 < (x9_3.length : Int) := of_decide_eq_true (by assumption)
                     obtain ⟨ad108, e108, hx108_0⟩ := Kd.at_int (Kd.R_reads' HO_9.out).2.2 x50_4 p108 q108
                     cases e108
                     replace p108 := eq_true p108
                     replace q108 := eq_true q108
                     go_wp2
                     repeat (go_quiet (fail); try go_wp2)
                     go_roundg k4
                     case measure => have := HJ4.out; have := HK2.out; have := HK3.out; have := HK4.out; omega
                     case rel => exact ⟨(x50_4), (wrap64 (x50_4 + 1)), (by first | rfl | (simp; done) | (simp [*]; done)), (by first | rfl | (simp; done) | (simp [*]; done)), H', ⟨by have := HJ4.out; have := HK2.out; have := HK3.out; have := HK4.out; omega⟩, ⟨by (try simp only [hl9_2]); (try simp only [hl9_3]); (with_reducible repeat (first | apply Kd.R_alloc | apply Kd.R_drewN | apply Kd.R_drew)); exact HO_7.out⟩, ⟨by (try simp only [hl9_2]); (try simp only [hl9_3]); (with_reducible repeat (first | apply Kd.R_alloc | apply Kd.R_drewN | apply Kd.R_drew)); exact HO_9.out⟩, ⟨by repeat (first | (with_reducible first | exact HB.out | apply below_alloc | apply pw_below_drewN | apply below_drew1) | exact HB.out)⟩⟩
                    ·rw [if_neg c29] at H
                     have c29b0 : decide (x12_4 < 0) = false := decide_eq_false c29
                     clear c29
                     by_cases c30 : x50_4 < (t101.length : Int)
                     ·rw [if_pos c30] at H
                      have c30b0 : decide (x50_4 < (t101.length : Int)) = true := decide_eq_true c30
                      clear c30
                      try (have c30h0 := c30b0; simp only [hl9_2, hl9_3] at c30h0)
                      by_cases c31 : 0 ≤ x12_4
                      ·rw [if_pos c31] at H
                       have c31b0 : decide (0 ≤ x12_4) = true := decide_eq_true c31
                       clear c31
                       by_cases c32 : x12_4 < (t101.length : Int)
                       ·rw [if_pos c32] at H
                        have c32b0 : decide (x12_4 < (t101.length : Int)) = true := decide_eq_true c32
                        clear c32
                        try (have c32h0 := c32b0; simp only [hl9_2, hl9_3] at c32h0)
                        by_cases c33 : (rd t101 x50_4) > (rd t101 x12_4)
                        ·rw [if_pos c33] at H
                         have c33b0 : decide ((rd t101 x12_4) < (rd t101 x50_4)) = true := decide_eq_true c33
                         clear c33
                         have H' := Aside0.mk H
                         clear H
                         have p108 : 0 ≤ (x50_4 : Int) := of_decide_eq_true (by assumption)
                         have q108 : x50_4 < (x9_3.length : Int) := of_decide_eq_true (by assumption)
                         obtain ⟨ad108, e108, hx108_0⟩ := Kd.at_int (Kd.R_reads' HO_9.out).2.2 x50_4 p108 q108
                         cases e108
                         replace p108 := eq_true p108
                         replace q108 := eq_true q108
                         obtain ⟨Ao34, co34, eo34⟩ := Kd.R_slice HO_7.out
                         subst eo34
                         have p109 : 0 ≤ (x50_4 : Int) := of_decide_eq_true (by assumption)
                         have q109 : x50_4 < (t101.length : Int) := of_decide_eq_true (by assumption)
                         obtain ⟨ad109, e109, hx109_0⟩ := Kd.at_int (Kd.R_reads' HO_7.out).2.2 x50_4 p109 q109
                         cases e109
                         replace p109 := eq_true p109
                         replace q109 := eq_true q109
                         have p110 : 0 ≤ (x12_4 : Int) := of_decide_eq_true (by assumption)
                         have q110 : x12_4 < (t101.length : Int) := of_decide_eq_true (by assumption)
                         obtain ⟨ad110, e110, hx110_0⟩ := Kd.at_int (Kd.R_reads' HO_7.out).2.2 x12_4 p110 q110
                         obtain rfl : ad109 = ad110 := (by injection e110)
                         replace p110 := eq_true p110
                         replace q110 := eq_true q110
                         go_wp2
                         repeat (go_quiet (fail); try go_wp2)
                         go_roundg k4
                         case measure => have := HJ4.out; have := HK2.out; have := HK3.out; have := HK4.out; omega
                         case rel => exact ⟨(x50_4), (wrap64 (x50_4 + 1)), (by first | rfl | (simp; done) | (simp [*]; done)), (by first | rfl | (simp; done) | (simp [*]; done)), H', ⟨by have := HJ4.out; have := HK2.out; have := HK3.out; have := HK4.out; omega⟩, ⟨by (try simp only [hl9_2]); (try simp only [hl9_3]); (with_reducible repeat (first | apply Kd.R_alloc | apply Kd.R_drewN | apply Kd.R_drew)); exact HO_7.out⟩, ⟨by (try simp only [hl9_2]); (try simp only [hl9_3]); (with_reducible repeat (first | apply Kd.R_alloc | apply Kd.R_drewN | apply Kd.R_drew)); exact HO_9.out⟩, ⟨by repeat (first | (with_reducible first | exact HB.out | apply below_alloc | apply pw_below_drewN | apply below_drew1) | exact HB.out)⟩⟩
                        ·rw [if_neg c33] at H
                         have c33b0 : decide ((rd t101 x12_4) < (rd t101 x50_4)) = false := decide_eq_false c33
                         clear c33
                         have H' := Aside0.mk H
                         clear H
                         have p108 : 0 ≤ (x50_4 : Int) := of_decide_eq_true (by assumption)
                         have q108 : x50_4 < (x9_3.length : Int) := of_decide_eq_true (by assumption)
                         obtain ⟨ad108, e108, hx108_0⟩ := Kd.at_int (Kd.R_reads' HO_9.out).2.2 x50_4 p108 q108
                         cases e108
                         replace p108 := eq_true p108
                         replace q108 := eq_true q108
                         obtain ⟨Ao35, co35, eo35⟩ := Kd.R_slice HO_7.out
                         subst eo35
                         have p109 : 0 ≤ (x50_4 : Int) := of_decide_eq_true (by assumption)
                         have q109 : x50_4 < (t101.length : Int) := of_decide_eq_true (by assumption)
                         obtain ⟨ad109, e109, hx109_0⟩ := Kd.at_int (Kd.R_reads' HO_7.out).2.2 x50_4 p109 q109
                         cases e109
                         replace p109 := eq_true p109
                         replace q109 := eq_true q109
                         have p110 : 0 ≤ (x12_4 : Int) := of_decide_eq_true (by assumption)
                         have q110 : x12_4 < (t101.length : Int) := of_decide_eq_true (by assumption)
                         obtain ⟨ad110, e110, hx110_0⟩ := Kd.at_int (Kd.R_reads' HO_7.out).2.2 x12_4 p110 q110
                         obtain rfl : ad109 = ad110 := (by injection e110)
                         replace p110 := eq_true p110
                         replace q110 := eq_true q110
                         go_wp2
                         repeat (go_quiet (fail); try go_wp2)
                         go_roundg k4
                         case measure => have := HJ4.out; have := HK2.out; have := HK3.out; have := HK4.out; omega
                         case rel => exact ⟨(x12_4), (wrap64 (x50_4 + 1)), (by first | rfl | (simp; done) | (simp [*]; done)), (by first | rfl | (simp; done) | (simp [*]; done)), H', ⟨by have := HJ4.out; have := HK2.out; have := HK3.out; have := HK4.out; omega⟩, ⟨by (try simp only [hl9_2]); (try simp only [hl9_3]); (with_reducible repeat (first | apply Kd.R_alloc | apply Kd.R_drewN | apply Kd.R_drew)); exact HO_7.out⟩, ⟨by (try simp only [hl9_2]); (try simp only [hl9_3]); (with_reducible repeat (first | apply Kd.R_alloc | apply Kd.R_drewN | apply Kd.R_drew)); exact HO_9.out⟩, ⟨by repeat (first | (with_reducible first | exact HB.out | apply below_alloc | apply pw_below_drewN | apply below_drew1) | exact HB.out)⟩⟩
                       ·rw [if_neg c32] at H
                        exact absurd H (by simp)
                      ·rw [if_neg c31] at H
                       exact absurd H (by simp)
                     ·rw [if_neg c30] at H
                      exact absurd H (by simp)
                   ·rw [if_neg c28] at H
                    have c28b0 : ((rd x9_3 x50_4) == (wrap64 ((l1.length : Int) / x8_4))) = false := beq_eq_false_iff_ne.mpr c28
                    have c28b1 : ((rd x9_3 x50_4) != (wrap64 ((l1.length : Int) / x8_4))) = true := bne_iff_ne.mpr c28
                    try (have c28h0 := c28b0; simp only [hl9_2, hl9_3] at c28h0)
                    have H' := Aside0.mk H
                    clear H
                    have p108 : 0 ≤ (x50_4 : Int) := of_decide_eq_true (by assumption)
                    have q108 : x50_4 < (x9_3.length : Int) := of_decide_eq_true (by assumption)
                    obtain ⟨ad108, e108, hx108_0⟩ := Kd.at_int (Kd.R_reads' HO_9.out).2.2 x50_4 p108 q108
                    cases e108
                    replace p108 := eq_true p108
                    replace q108 := eq_true q108
                    go_wp2
                    repeat (go_quiet (fail); try go_wp2)
                    go_roundg k4
                    case measure => have := HJ4.out; have := HK2.out; have := HK3.out; have := HK4.out; omega
                    case rel => exact ⟨(x12_4), (wrap64 (x50_4 + 1)), (by first | rfl | (simp; done) | (simp [*]; done)), (by first | rfl | (simp; done) | (simp [*]; done)), H', ⟨by have := HJ4.out; have := HK2.out; have := HK3.out; have := HK4.out; omega⟩, ⟨by (try simp only [hl9_2]); (try simp only [hl9_3]); (with_reducible repeat (first | apply Kd.R_alloc | apply Kd.R_drewN | apply Kd.R_drew)); exact HO_7.out⟩, ⟨by (try simp only [hl9_2]); (try simp only [hl9_3]); (with_reducible repeat (first | apply Kd.R_alloc | apply Kd.R_drewN | apply Kd.R_drew)); exact HO_9.out⟩, ⟨by repeat (first | (with_reducible first | exact HB.out | apply below_alloc | apply pw_below_drewN | apply below_drew1) | exact HB.out)⟩⟩
                 ·rw [if_neg c26] at H
                  exact absurd H (by simp)
                ·rw [if_neg c25] at H
                 exact absurd H (by simp)
              ·rw [if_neg c23] at H
               have c23b0 : decide (x50_4 < (x9_3.length : Int)) = false := decide_eq_false c23
               clear c23
               try (have c23h0 := c23b0; simp only [hl9_2, hl9_3] at c23h0)
               by_cases c36 : 0 ≤ x12_4
               ·rw [if_pos c36] at H
                have c36b0 : decide (0 ≤ x12_4) = true := decide_eq_true c36
                clear c36
                by_cases c37 : x12_4 < (x9_3.length : Int)
                ·rw [if_pos c37] at H
                 have c37b0 : decide (x12_4 < (x9_3.length : Int)) = true := decide_eq_true c37
                 clear c37
                 try (have c37h0 := c37b0; simp only [hl9_2, hl9_3] at c37h0)
                 obtain ⟨y112, hy112⟩ : ∃ y_ : List Int, y_ = (x9_3.set (x12_4 : Int).toNat (wrap64 ((rd x9_3 x12_4) + 1))) := ⟨_, rfl⟩
                 replace H : (spec_l13Rooms.l1 k4 l1 a2 t101 x8_4 y112 (wrap64 (x11_3 - 1))) = some r := by first | (rw [hy112]; with_reducible exact H) | (have H2_ := (Option.bind_some _ _).symm.trans H; rw [hy112]; with_reducible exact H2_) | (have H2_ := (Option.bind_some _ _).symm.trans H; with_reducible exact H2_) | with_reducible exact H | (rw [hy112]; exact H) | exact H
                 have Ny112 := Aside0.mk hy112
                 clear hy112
                 have H' := Aside0.mk H
                 clear H
                 have p111 : 0 ≤ (x12_4 : Int) := of_decide_eq_true (by assumption)
                 have q111 : x12_4 < (x9_3.length : Int) := of_decide_eq_true (by assumption)
                 obtain ⟨ad111, e111, hx111_0⟩ := Kd.at_int (Kd.R_reads' HO_9.out).2.2 x12_4 p111 q111
                 cases e111
                 replace p111 := eq_true p111
                 replace q111 := eq_true q111
                 have p38 : 0 ≤ (x12_4 : Int) := of_decide_eq_true (by assumption)
                 have q38 : (x12_4 : Int) < ((x9_3.length : Int) : Int) := of_decide_eq_true (by assumption)
                 obtain ⟨go38, co38, eo38, gb38, gl38, cl38, HG38⟩ := Kd.R_form HO_9.out (by omega)
                 (first | cases eo38 | (injection eo38 with ea_ en_ ec_; (first | subst ea_ | (injection ea_ with ea_; subst ea_)); subst ec_; clear en_))
                 have GB38 := Aside0.mk gb38
                 have GG38 := Aside0.mk HG38
                 clear gb38 gl38 HG38
                 (first | simp only [add_plain] at hx111_0 | skip)
                 obtain ⟨hx38_0, hf38_0⟩ := Kd.R_celln 0 HO_9.out (x12_4 : Int) p38 q38
                 replace p38 := eq_true p38
                 replace q38 := eq_true q38
                 have HP39 := Kd.R_putg HO_9.out (x12_4 : Int) (wrap64 ((rd x9_3 x12_4) + 1))
                 go_wp2_with (first | ((with_reducible refine gate_store (t := 3) (p := 89) rfl ?_); (try (rw [drewN_self wr]; generalize hq_ : World.drewN wr _ = wr; have n0_ := Aside0.mk (Kd.R_at hq_ HO_7.out); have n1_ := Aside0.mk (Kd.R_at hq_ HO_9.out); have n2_ := Aside0.mk (below_at hq_ HB.out); clear hq_ HO_7 HO_9 HB; have HO_7 := n0_; have HO_9 := n1_; have HB := n2_; clear n0_ n1_ n2_; (try (obtain ⟨hx38_0, hf38_0⟩ := Kd.R_celln 0 HO_9.out (x12_4 : Int) (of_eq_true p38) (of_eq_true q38))); (try (have HP39 := Kd.R_putg HO_9.out (x12_4 : Int) (wrap64 ((rd x9_3 x12_4) + 1)))))); refine store_event (t := 3) (p := 89) (v := ?vo_w40) (w1 := (wr.setCell ⟨go38, (x12_4 : Int).toNat, none⟩ (.int .i64 (wrap64 ((rd x9_3 x12_4) + 1))))) ?hg ?ho ?hn ?hr ?_; (case ho => rfl); (case hg => rfl); (case hn => rfl); (case hr => first | (go_simp; done) | (go_simp; rfl)); intro w40 hw; have hg : wr.grownBy w40 (some go38) := (by rw [hw]; exact HP39.2); have hp_ : Kd.R (Kd.int .i64) 3 w40 w.heap.size (fun k_ => some k_ ≠ (v102 : Value).ownBlock) (.slice (some ⟨go38, 0, none⟩) x9_3.length co12) y112 := (by rw [hw, Ny112.out]; exact HP39.1); clear HP39; have n0_ := Aside0.mk (Kd.R_after (v := (.slice (some ⟨go38, 0, none⟩) x9_3.length co12)) (v1 := (.slice (some ⟨go38, 0, none⟩) x9_3.length co12)) (ok := (fun _ => True)) (by (with_reducible repeat (first | apply Kd.R_alloc | apply Kd.R_drewN | apply Kd.R_drew)); exact Kd.R_mono HO_7.out (fun _ hk => ⟨trivial, hk⟩)) hg (.inl rfl)); have n1_ := Aside0.mk (hp_); have n2_ := Aside0.mk ((by rw [hw]; exact below_set (HB.out) GB38.out : Below w.heap.size w w40)); clear HO_7; clear HO_9; clear HB; have HO_7 := n0_; have HO_9 := n1_; have HB := n2_; clear n0_ n1_ n2_; clear hg hw hp_))
                 repeat (go_quiet (first | ((with_reducible refine gate_store (t := 3) (p := 89) rfl ?_); (try (rw [drewN_self wr]; generalize hq_ : World.drewN wr _ = wr; have n0_ := Aside0.mk (Kd.R_at hq_ HO_7.out); have n1_ := Aside0.mk (Kd.R_at hq_ HO_9.out); have n2_ := Aside0.mk (below_at hq_ HB.out); clear hq_ HO_7 HO_9 HB; have HO_7 := n0_; have HO_9 := n1_; have HB := n2_; clear n0_ n1_ n2_; (try (obtain ⟨hx38_0, hf38_0⟩ := Kd.R_celln 0 HO_9.out (x12_4 : Int) (of_eq_true p38) (of_eq_true q38))); (try (have HP39 := Kd.R_putg HO_9.out (x12_4 : Int) (wrap64 ((rd x9_3 x12_4) + 1)))))); refine store_event (t := 3) (p := 89) (v := ?vo_w40) (w1 := (wr.setCell ⟨go38, (x12_4 : Int).toNat, none⟩ (.int .i64 (wrap64 ((rd x9_3 x12_4) + 1))))) ?hg ?ho ?hn ?hr ?_; (case ho => rfl); (case hg => rfl); (case hn => rfl); (case hr => first | (go_simp; done) | (go_simp; rfl)); intro w40 hw; have hg : wr.grownBy w40 (some go38) := (by rw [hw]; exact HP39.2); have hp_ : Kd.R (Kd.int .i64) 3 w40 w.heap.size (fun k_ => some k_ ≠ (v102 : Value).ownBlock) (.slice (some ⟨go38, 0, none⟩) x9_3.length co12) y112 := (by rw [hw, Ny112.out]; exact HP39.1); clear HP39; have n0_ := Aside0.mk (Kd.R_after (v := (.slice (some ⟨go38, 0, none⟩) x9_3.length co12)) (v1 := (.slice (some ⟨go38, 0, none⟩) x9_3.length co12)) (ok := (fun _ => True)) (by (with_reducible repeat (first | apply Kd.R_alloc | apply Kd.R_drewN | apply Kd.R_drew)); exact Kd.R_mono HO_7.out (fun _ hk => ⟨trivial, hk⟩)) hg (.inl rfl)); have n1_ := Aside0.mk (hp_); have n2_ := Aside0.mk ((by rw [hw]; exact below_set (HB.out) GB38.out : Below w.heap.size w w40)); clear HO_7; clear HO_9; clear HB; have HO_7 := n0_; have HO_9 := n1_; have HB := n2_; clear n0_ n1_ n2_; clear hg hw hp_)); try go_wp2_with (first | ((with_reducible refine gate_store (t := 3) (p := 89) rfl ?_); (try (rw [drewN_self wr]; generalize hq_ : World.drewN wr _ = wr; have n0_ := Aside0.mk (Kd.R_at hq_ HO_7.out); have n1_ := Aside0.mk (Kd.R_at hq_ HO_9.out); have n2_ := Aside0.mk (below_at hq_ HB.out); clear hq_ HO_7 HO_9 HB; have HO_7 := n0_; have HO_9 := n1_; have HB := n2_; clear n0_ n1_ n2_; (try (obtain ⟨hx38_0, hf38_0⟩ := Kd.R_celln 0 HO_9.out (x12_4 : Int) (of_eq_true p38) (of_eq_true q38))); (try (have HP39 := Kd.R_putg HO_9.out (x12_4 : Int) (wrap64 ((rd x9_3 x12_4) + 1)))))); refine store_event (t := 3) (p := 89) (v := ?vo_w40) (w1 := (wr.setCell ⟨go38, (x12_4 : Int).toNat, none⟩ (.int .i64 (wrap64 ((rd x9_3 x12_4) + 1))))) ?hg ?ho ?hn ?hr ?_; (case ho => rfl); (case hg => rfl); (case hn => rfl); (case hr => first | (go_simp; done) | (go_simp; rfl)); intro w40 hw; have hg : wr.grownBy w40 (some go38) := (by rw [hw]; exact HP39.2); have hp_ : Kd.R (Kd.int .i64) 3 w40 w.heap.size (fun k_ => some k_ ≠ (v102 : Value).ownBlock) (.slice (some ⟨go38, 0, none⟩) x9_3.length co12) y112 := (by rw [hw, Ny112.out]; exact HP39.1); clear HP39; have n0_ := Aside0.mk (Kd.R_after (v := (.slice (some ⟨go38, 0, none⟩) x9_3.length co12)) (v1 := (.slice (some ⟨go38, 0, none⟩) x9_3.length co12)) (ok := (fun _ => True)) (by (with_reducible repeat (first | apply Kd.R_alloc | apply Kd.R_drewN | apply Kd.R_drew)); exact Kd.R_mono HO_7.out (fun _ hk => ⟨trivial, hk⟩)) hg (.inl rfl)); have n1_ := Aside0.mk (hp_); have n2_ := Aside0.mk ((by rw [hw]; exact below_set (HB.out) GB38.out : Below w.heap.size w w40)); clear HO_7; clear HO_9; clear HB; have HO_7 := n0_; have HO_9 := n1_; have HB := n2_; clear n0_ n1_ n2_; clear hg hw hp_)))
                 (try simp only [← hl9_3])
                 go_roundg k4
                 case measure => have := HJ4.out; have := HK2.out; have := HK3.out; have := HK4.out; omega
                 case rel => exact ⟨(y112), (wrap64 (x11_3 - 1)), (by first | rfl | (simp; done) | (simp [*]; done)), H', ⟨by have := HJ4.out; have := HK2.out; have := HK3.out; have := HK4.out; omega⟩, ⟨by (try simp only [hl9_2]); (try simp only [hl9_3]); (with_reducible repeat (first | apply Kd.R_alloc | apply Kd.R_drewN | apply Kd.R_drew)); exact Kd.R_mono HO_7.out (fun _ hk => hk.2)⟩, ⟨by (try simp only [hl9_2]); (try simp only [hl9_3]); (with_reducible repeat (first | apply Kd.R_alloc | apply Kd.R_drewN | apply Kd.R_drew)); exact HO_9.out⟩, ⟨by repeat (first | (with_reducible first | exact HB.out | apply below_alloc | apply pw_below_drewN | apply below_drew1) | exact HB.out)⟩⟩
                ·rw [if_neg c37] at H
                 exact absurd H (by simp)
               ·rw [if_neg c36] at H
                exact absurd H (by simp)
           ·rw [if_neg c22] at H
            have c22b0 : decide (0 < x11_3) = false := decide_eq_false c22
            clear c22
            obtain rfl := Option.some.inj H
            go_wp2
            repeat (go_quiet (fail); try go_wp2)
            go_ret
            exact ⟨_, by first | rfl | (simp [errW_none, errW_some] <;> rfl) | (simp [*, errW_none, errW_some] <;> rfl), by (with_reducible repeat (first | apply Kd.R_alloc | apply Kd.R_drewN | apply Kd.R_drew)); exact Kd.R_mono HO_9.out (fun _ hk => trivial), by repeat (first | (with_reducible first | exact HB.out | apply below_alloc | apply pw_below_drewN | apply below_drew1) | exact HB.out)⟩
    ·rw [if_neg c9] at H
     exact absurd H (by simp)
   ·rw [if_neg c8] at H
    exact absurd H (by simp)
mutual
def spec_l13Spread.l0 : Nat → Int → Int → List Int → Int → Int → Option (List Int)
 | 0, _, _, _, _, _ => none
 | k + 1, x0, x2, x7, x21, x22 => if x22 < x21 then (if 0 ≤ x22 then (if x22 < (x7.length : Int) then (if (rd x7 x22) ≥ 0 then (if (rd x7 x22) = x2 then (spec_l13Spread.l0 k x0 x2 (x7.set (x22 : Int).toNat (-1)) x21 (wrap64 (x22 + 1))) else (spec_l13Spread.l0 k x0 x2 x7 x21 (wrap64 (x22 + 1)))) else (spec_l13Spread.l0 k x0 x2 x7 x21 (wrap64 (x22 + 1)))) else (none)) else (none)) else ((spec_l13Rooms.f k x0 x7 x2).bind fun t109 => ((spec_l13Loads.f k x0 x7).bind fun t112 => (spec_l13Spread.l1 k x7 t109 t112 (wrap64 ((x7.length : Int) - 1)))))
def spec_l13Spread.l1 : Nat → List Int → List Int → List Int → Int → Option (List Int)
 | 0, _, _, _, _ => none
 | k + 1, x7, x10, x11, x12 => if x12 ≥ 0 then (if 0 ≤ x12 then (if x12 < (x7.length : Int) then (if (rd x7 x12) ≥ 0 then (if 0 ≤ (rd x7 x12) then (if (rd x7 x12) < (x11.length : Int) then (if (rd x7 x12) < (x10.length : Int) then (if (rd x11 (rd x7 x12)) > (rd x10 (rd x7 x12)) then (spec_l13Spread.l1 k (x7.set (x12 : Int).toNat (-1)) x10 (x11.set ((rd x7 x12) : Int).toNat (wrap64 ((rd x11 (rd x7 x12)) - 1))) (wrap64 (x12 - 1))) else (spec_l13Spread.l1 k x7 x10 x11 (wrap64 (x12 - 1)))) else (none)) else (none)) else (none)) else (spec_l13Spread.l1 k x7 x10 x11 (wrap64 (x12 - 1)))) else (none)) else (none)) else (spec_l13Spread.l2 k x7 x10 x11 (x7.length : Int) 0)
def spec_l13Spread.l2 : Nat → List Int → List Int → List Int → Int → Int → Option (List Int)
 | 0, _, _, _, _, _ => none
 | k + 1, x7, x10, x11, x79, x80 => if x80 < x79 then (if 0 ≤ x80 then (if x80 < (x7.length : Int) then (if (rd x7 x80) ≥ 0 then (spec_l13Spread.l2 k x7 x10 x11 x79 (wrap64 (x80 + 1))) else (spec_l13Spread.l3 k x7 x10 x11 x80 0 x79 x80)) else (none)) else (none)) else (some x7)
def spec_l13Spread.l3 : Nat → List Int → List Int → List Int → Int → Int → Int → Int → Option (List Int)
 | 0, _, _, _, _, _, _, _ => none
 | k + 1, x7, x10, x11, x14, x16, x79, x80 => if 0 ≤ x16 then (if x16 < (x11.length : Int) then (if x16 < (x10.length : Int) then (if (rd x11 x16) ≥ (rd x10 x16) then (spec_l13Spread.l3 k x7 x10 x11 x14 (wrap64 (x16 + 1)) x79 x80) else (if 0 ≤ x14 then (if x14 < (x7.length : Int) then (spec_l13Spread.l2 k (x7.set (x14 : Int).toNat x16) x10 (x11.set (x16 : Int).toNat (wrap64 ((rd x11 x16) + 1))) x79 (wrap64 (x80 + 1))) else (none)) else (none))) else (none)) else (none)) else (none)
end
def spec_l13Spread.f (k : Nat) (a0 : Int) (l1 : List Int) (a2 : Int) : Option (List Int) := (some (([] : List Int) : List Int)).bind fun y101 => (if y101.length + l1.length < 17592186044416 then ((some (y101 ++ l1 : List Int)).bind fun y104 => (spec_l13Spread.l0 k a0 a2 y104 (y104.length : Int) 0)) else (none))
set_option maxHeartbeats 8000000 in
set_option maxRecDepth 100000 in
theorem spec_l13Spread.calls (k : Nat) (a0 : Int) (A1 : Option Addr) (c1 : Nat) (l1 : List Int) (a2 : Int) (r : List Int) (w : World) (hr1 : Kd.C (Kd.int .i64) w A1 l1.length l1) (hc1 : l1.length ≤ c1) (h : spec_l13Spread.f k a0 l1 a2 = some r) :
  Calls Try.prog 62 #[.int .i64 a0, .slice A1 l1.length c1, .int .i64 a2] w fun e w' => ∃ v0_ : Value, e = .returned (v0_) ∧ Kd.R (Kd.int .i64) 3 w' w.heap.size (fun _ => True) v0_ r ∧ Below w.heap.size w w' := by
 have hu3 := Try.underlying3
 have HR1 := Aside0.mk hr1
 have HC1 := Aside0.mk hc1
 clear hr1 hc1
 have HB := Aside0.mk (Below.refl w.heap.size w)
 have H : ((some (([] : List Int) : List Int)).bind fun y101 => (if y101.length + l1.length < 17592186044416 then ((some (y101 ++ l1 : List Int)).bind fun y104 => (spec_l13Spread.l0 k a0 a2 y104 (y104.length : Int) 0)) else (none))) = some r := h
 clear h
 obtain ⟨y101, hy101⟩ : ∃ y_ : List Int, y_ = (([] : List Int)) := ⟨_, rfl⟩
 replace H : (if y101.length + l1.length < 17592186044416 then ((some (y101 ++ l1 : List Int)).bind fun y104 => (spec_l13Spread.l0 k a0 a2 y104 (y104.length : Int) 0)) else (none)) = some r := by first | (rw [hy101]; with_reducible exact H) | (have H2_ := (Option.bind_some _ _).symm.trans H; rw [hy101]; with_reducible exact H2_) | (have H2_ := (Option.bind_some _ _).symm.trans H; with_reducible exact H2_) | with_reducible exact H | (rw [hy101]; exact H) | exact H
 have Ny101 := Aside0.mk hy101
 clear hy101
 by_cases c4 : y101.length + l1.length < 17592186044416
 ·rw [if_pos c4] at H
  have LMc4 := Aside0.mk c4
  clear c4
  obtain ⟨y104, hy104⟩ : ∃ y_ : List Int, y_ = (y101 ++ l1) := ⟨_, rfl⟩
  replace H : (spec_l13Spread.l0 k a0 a2 y104 (y104.length : Int) 0) = some r := by first | (rw [hy104]; with_reducible exact H) | (have H2_ := (Option.bind_some _ _).symm.trans H; rw [hy104]; with_reducible exact H2_) | (have H2_ := (Option.bind_some _ _).symm.trans H; with_reducible exact H2_) | with_reducible exact H | (rw [hy104]; exact H) | exact H
  have Ny104 := Aside0.mk hy104
  clear hy104
  have H' := Aside0.mk H
  clear H
  go_enter Try.func62, Try.ntmps62
  go_wp2_with (first | ((with_reducible refine gate_dst (N := 17) rfl ?_); refine Kd.R_lit (Kd.int .i64) _ 3 ?hg (N := 17) ?hd (xs := ([] : List Int)) (inner := []) (ok := fun _ => True) (okp := fun _ => True) ?hr ?hp (fun _ hk => hk) trivial (Below.refl _ _) (Nat.le_refl _) (by simp) ?_; (case hd => rfl); (case hg => rfl); (case hr => first | (go_simp; done) | (go_simp; rfl)); (case hp => exact (Reps.none _ _)); intro v102 w5 ho6 hb hg_ hnew_; clear hg_ hnew_; (first | rw [← Ny101.out] at ho6 | (simp only [Int.reduceToNat] at ho6; rw [← Ny101.out] at ho6)); have n0_ := Aside0.mk (Kd.R_lower ho6 (below_size (by repeat (first | (with_reducible first | exact HB.out | apply below_alloc | apply pw_below_drewN | apply below_drew1) | exact HB.out)))); have n1_ := Aside0.mk (below_step (by repeat (first | (with_reducible first | exact HB.out | apply below_alloc | apply pw_below_drewN | apply below_drew1) | exact HB.out)) hb); clear HB; have HO103 := n0_; have HB := n1_; clear n0_ n1_; clear hb ho6) | ((with_reducible refine gate_builtin (b := .append) (xs := #[.tmp 17, .tmp 18]) rfl ?_); at_builtin; refine Kd.R_append_rows (Kd.int .i64) (w0 := w) w.heap.size rfl (.tmp 17) (.tmp 18) 22 3 (.int .i64 0) 8 rfl Try.underlying22 info3 rfl (by decide) (by omega) v102 y101 l1 _ _ _ (fun _ => True) (fun _ => False) rfl rfl ?aO ?aR (fun _ _ h => h) (fun _ h => h.elim) ?aF ?aB ?aS ?aL ?_; (case aR => repeat (first | exact (Kd.C_below HR1.out HB.out) | (with_reducible refine Kd.C_alloc ?_ _) | (with_reducible refine Kd.C_drewN ?_ _) | (with_reducible refine Kd.C_drew ?_))); (case aB => exact (by repeat (first | (with_reducible first | exact HB.out | apply below_alloc | apply pw_below_drewN | apply below_drew1) | exact HB.out))); (case aF => exact (fun _ _ => trivial)); (case aO => exact (by (with_reducible repeat (first | apply Kd.R_alloc | apply Kd.R_drewN | apply Kd.R_drew)); exact HO103.out)); (case aS => exact (below_size (by repeat (first | (with_reducible first | exact HB.out | apply below_alloc | apply pw_below_drewN | apply below_drew1) | exact HB.out)))); (case aL => have := LMc4.out; omega); intro v105 w7 ho hb hg hat; rw [← Ny104.out] at ho; have n0_ := Aside0.mk (hb); have n1_ := Aside0.mk (ho); clear HB; clear HO103; have HB := n0_; have HO106 := n1_; clear n0_ n1_; clear ho hb hg hat; obtain ⟨Ao8, co8, eo8⟩ := Kd.R_slice HO106.out; subst eo8))
  repeat (go_quiet (first | ((with_reducible refine gate_dst (N := 17) rfl ?_); refine Kd.R_lit (Kd.int .i64) _ 3 ?hg (N := 17) ?hd (xs := ([] : List Int)) (inner := []) (ok := fun _ => True) (okp := fun _ => True) ?hr ?hp (fun _ hk => hk) trivial (Below.refl _ _) (Nat.le_refl _) (by simp) ?_; (case hd => rfl); (case hg => rfl); (case hr => first | (go_simp; done) | (go_simp; rfl)); (case hp => exact (Reps.none _ _)); intro v102 w5 ho6 hb hg_ hnew_; clear hg_ hnew_; (first | rw [← Ny101.out] at ho6 | (simp only [Int.reduceToNat] at ho6; rw [← Ny101.out] at ho6)); have n0_ := Aside0.mk (Kd.R_lower ho6 (below_size (by repeat (first | (with_reducible first | exact HB.out | apply below_alloc | apply pw_below_drewN | apply below_drew1) | exact HB.out)))); have n1_ := Aside0.mk (below_step (by repeat (first | (with_reducible first | exact HB.out | apply below_alloc | apply pw_below_drewN | apply below_drew1) | exact HB.out)) hb); clear HB; have HO103 := n0_; have HB := n1_; clear n0_ n1_; clear hb ho6) | ((with_reducible refine gate_builtin (b := .append) (xs := #[.tmp 17, .tmp 18]) rfl ?_); at_builtin; refine Kd.R_append_rows (Kd.int .i64) (w0 := w) w.heap.size rfl (.tmp 17) (.tmp 18) 22 3 (.int .i64 0) 8 rfl Try.underlying22 info3 rfl (by decide) (by omega) v102 y101 l1 _ _ _ (fun _ => True) (fun _ => False) rfl rfl ?aO ?aR (fun _ _ h => h) (fun _ h => h.elim) ?aF ?aB ?aS ?aL ?_; (case aR => repeat (first | exact (Kd.C_below HR1.out HB.out) | (with_reducible refine Kd.C_alloc ?_ _) | (with_reducible refine Kd.C_drewN ?_ _) | (with_reducible refine Kd.C_drew ?_))); (case aB => exact (by repeat (first | (with_reducible first | exact HB.out | apply below_alloc | apply pw_below_drewN | apply below_drew1) | exact HB.out))); (case aF => exact (fun _ _ => trivial)); (case aO => exact (by (with_reducible repeat (first | apply Kd.R_alloc | apply Kd.R_drewN | apply Kd.R_drew)); exact HO103.out)); (case aS => exact (below_size (by repeat (first | (with_reducible first | exact HB.out | apply below_alloc | apply pw_below_drewN | apply below_drew1) | exact HB.out)))); (case aL => have := LMc4.out; omega); intro v105 w7 ho hb hg hat; rw [← Ny104.out] at ho; have n0_ := Aside0.mk (hb); have n1_ := Aside0.mk (ho); clear HB; clear HO103; have HB := n0_; have HO106 := n1_; clear n0_ n1_; clear ho hb hg hat; obtain ⟨Ao8, co8, eo8⟩ := Kd.R_slice HO106.out; subst eo8)); try go_wp2_with (first | ((with_reducible refine gate_dst (N := 17) rfl ?_); refine Kd.R_lit (Kd.int .i64) _ 3 ?hg (N := 17) ?hd (xs := ([] : List Int)) (inner := []) (ok := fun _ => True) (okp := fun _ => True) ?hr ?hp (fun _ hk => hk) trivial (Below.refl _ _) (Nat.le_refl _) (by simp) ?_; (case hd => rfl); (case hg => rfl); (case hr => first | (go_simp; done) | (go_simp; rfl)); (case hp => exact (Reps.none _ _)); intro v102 w5 ho6 hb hg_ hnew_; clear hg_ hnew_; (first | rw [← Ny101.out] at ho6 | (simp only [Int.reduceToNat] at ho6; rw [← Ny101.out] at ho6)); have n0_ := Aside0.mk (Kd.R_lower ho6 (below_size (by repeat (first | (with_reducible first | exact HB.out | apply below_alloc | apply pw_below_drewN | apply below_drew1) | exact HB.out)))); have n1_ := Aside0.mk (below_step (by repeat (first | (with_reducible first | exact HB.out | apply below_alloc | apply pw_below_drewN | apply below_drew1) | exact HB.out)) hb); clear HB; have HO103 := n0_; have HB := n1_; clear n0_ n1_; clear hb ho6) | ((with_reducible refine gate_builtin (b := .append) (xs := #[.tmp 17, .tmp 18]) rfl ?_); at_builtin; refine Kd.R_append_rows (Kd.int .i64) (w0 := w) w.heap.size rfl (.tmp 17) (.tmp 18) 22 3 (.int .i64 0) 8 rfl Try.underlying22 info3 rfl (by decide) (by omega) v102 y101 l1 _ _ _ (fun _ => True) (fun _ => False) rfl rfl ?aO ?aR (fun _ _ h => h) (fun _ h => h.elim) ?aF ?aB ?aS ?aL ?_; (case aR => repeat (first | exact (Kd.C_below HR1.out HB.out) | (with_reducible refine Kd.C_alloc ?_ _) | (with_reducible refine Kd.C_drewN ?_ _) | (with_reducible refine Kd.C_drew ?_))); (case aB => exact (by repeat (first | (with_reducible first | exact HB.out | apply below_alloc | apply pw_below_drewN | apply below_drew1) | exact HB.out))); (case aF => exact (fun _ _ => trivial)); (case aO => exact (by (with_reducible repeat (first | apply Kd.R_alloc | apply Kd.R_drewN | apply Kd.R_drew)); exact HO103.out)); (case aS => exact (below_size (by repeat (first | (with_reducible first | exact HB.out | apply below_alloc | apply pw_below_drewN | apply below_drew1) | exact HB.out)))); (case aL => have := LMc4.out; omega); intro v105 w7 ho hb hg hat; rw [← Ny104.out] at ho; have n0_ := Aside0.mk (hb); have n1_ := Aside0.mk (ho); clear HB; clear HO103; have HB := n0_; have HO106 := n1_; clear n0_ n1_; clear ho hb hg hat; obtain ⟨Ao8, co8, eo8⟩ := Kd.R_slice HO106.out; subst eo8)))
  go_loopg [22] k (fun kq v22 w' => ∃ (x7_1 : List Int) (x22_1 : Int), v22 = .int .i64 x22_1 ∧ Aside0 (spec_l13Spread.l0 kq a0 a2 x7_1 (y104.length : Int) x22_1 = some r) ∧ Aside0 (kq ≤ k) ∧ Aside0 (Kd.R (Kd.int .i64) 3 w' w.heap.size (fun _ => True) (.slice Ao8 y104.length co8) x7_1) ∧ Aside0 (Below w.heap.size w w'))
  case atStart => exact ⟨(y104), (0), (by first | rfl | (simp; done) | (simp [*]; done)), H', ⟨Nat.le_refl _⟩, ⟨by (with_reducible repeat (first | apply Kd.R_alloc | apply Kd.R_drewN | apply Kd.R_drew)); exact HO106.out⟩, ⟨by repeat (first | (with_reducible first | exact HB.out | apply below_alloc | apply pw_below_drewN | apply below_drew1) | exact HB.out)⟩⟩
  case round =>
   clear H'
   try clear c4
   obtain ⟨x7_1, x22_1, rfl, HA, HK1, HO_7, HB⟩ := hrel
   have hl7_1 := (Kd.R_reads' HO_7.out).1
   rw [hl7_1] at HO_7
   (try simp only [hl7_1])
   cases gk with
   | zero => exact absurd HA.out (by simp [spec_l13Spread.l0])
   | succ k1 =>
    have H := HA.out
    clear HA
    simp only [spec_l13Spread.l0] at H
    by_cases c9 : x22_1 < (y104.length : Int)
    ·rw [if_pos c9] at H
     have c9b0 : decide (x22_1 < (y104.length : Int)) = true := decide_eq_true c9
     clear c9
     try (have c9h0 := c9b0; simp only [hl7_1] at c9h0)
     by_cases c10 : 0 ≤ x22_1
     ·rw [if_pos c10] at H
      have c10b0 : decide (0 ≤ x22_1) = true := decide_eq_true c10
      clear c10
      by_cases c11 : x22_1 < (x7_1.length : Int)
      ·rw [if_pos c11] at H
       have c11b0 : decide (x22_1 < (x7_1.length : Int)) = true := decide_eq_true c11
       clear c11
       try (have c11h0 := c11b0; simp only [hl7_1] at c11h0)
       by_cases c12 : (rd x7_1 x22_1) ≥ 0
       ·rw [if_pos c12] at H
        have c12b0 : decide (0 ≤ (rd x7_1 x22_1)) = true := decide_eq_true c12
        clear c12
        by_cases c13 : (rd x7_1 x22_1) = a2
        ·rw [if_pos c13] at H
         have c13b0 : ((rd x7_1 x22_1) == a2) = true := beq_iff_eq.mpr c13
         have c13b1 : ((rd x7_1 x22_1) != a2) = false := bne_eq_false_iff_eq.mpr c13
         clear c13
         obtain ⟨y108, hy108⟩ : ∃ y_ : List Int, y_ = (x7_1.set (x22_1 : Int).toNat (-1)) := ⟨_, rfl⟩
         replace H : (spec_l13Spread.l0 k1 a0 a2 y108 (y104.length : Int) (wrap64 (x22_1 + 1))) = some r := by first | (rw [hy108]; with_reducible exact H) | (have H2_ := (Option.bind_some _ _).symm.trans H; rw [hy108]; with_reducible exact H2_) | (have H2_ := (Option.bind_some _ _).symm.trans H; with_reducible exact H2_) | with_reducible exact H | (rw [hy108]; exact H) | exact H
         have Ny108 := Aside0.mk hy108
         clear hy108
         have H' := Aside0.mk H
         clear H
         have p107 : 0 ≤ (x22_1 : Int) := of_decide_eq_true (by assumption)
         have q107 : x22_1 < (x7_1.length : Int) := of_decide_eq_true (by assumption)
         obtain ⟨ad107, e107, hx107_0⟩ := Kd.at_int (Kd.R_reads' HO_7.out).2.2 x22_1 p107 q107
         cases e107
         replace p107 := eq_true p107
         replace q107 := eq_true q107
         have p14 : 0 ≤ (x22_1 : Int) := of_decide_eq_true (by assumption)
         have q14 : (x22_1 : Int) < ((x7_1.length : Int) : Int) := of_decide_eq_true (by assumption)
         obtain ⟨go14, co14, eo14, gb14, gl14, cl14, HG14⟩ := Kd.R_form HO_7.out (by omega)
         (first | cases eo14 | (injection eo14 with ea_ en_ ec_; (first | subst ea_ | (injection ea_ with ea_; subst ea_)); subst ec_; clear en_))
         have GB14 := Aside0.mk gb14
         have GG14 := Aside0.mk HG14
         clear gb14 gl14 HG14
         (first | simp only [add_plain] at hx107_0 | skip)
         obtain ⟨hx14_0, hf14_0⟩ := Kd.R_celln 0 HO_7.out (x22_1 : Int) p14 q14
         replace p14 := eq_true p14
         replace q14 := eq_true q14
         have HP15 := Kd.R_putg HO_7.out (x22_1 : Int) (-1)
         go_wp2_with (first | ((with_reducible refine gate_store (t := 3) (p := 36) rfl ?_); (try (rw [drewN_self wr]; generalize hq_ : World.drewN wr _ = wr; have n0_ := Aside0.mk (Kd.R_at hq_ HO_7.out); have n1_ := Aside0.mk (below_at hq_ HB.out); clear hq_ HO_7 HB; have HO_7 := n0_; have HB := n1_; clear n0_ n1_; (try (obtain ⟨hx14_0, hf14_0⟩ := Kd.R_celln 0 HO_7.out (x22_1 : Int) (of_eq_true p14) (of_eq_true q14))); (try (have HP15 := Kd.R_putg HO_7.out (x22_1 : Int) (-1))))); refine store_event (t := 3) (p := 36) (v := ?vo_w16) (w1 := (wr.setCell ⟨go14, (x22_1 : Int).toNat, none⟩ (.int .i64 (-1)))) ?hg ?ho ?hn ?hr ?_; (case ho => rfl); (case hg => rfl); (case hn => rfl); (case hr => first | (go_simp; done) | (go_simp; rfl)); intro w16 hw; have hg : wr.grownBy w16 (some go14) := (by rw [hw]; exact HP15.2); have hp_ : Kd.R (Kd.int .i64) 3 w16 w.heap.size (fun _ => True) (.slice (some ⟨go14, 0, none⟩) x7_1.length co8) y108 := (by rw [hw, Ny108.out]; exact HP15.1); clear HP15; have n0_ := Aside0.mk (hp_); have n1_ := Aside0.mk ((by rw [hw]; exact below_set (HB.out) GB14.out : Below w.heap.size w w16)); clear HO_7; clear HB; have HO_7 := n0_; have HB := n1_; clear n0_ n1_; clear hg hw hp_))
         repeat (go_quiet (first | ((with_reducible refine gate_store (t := 3) (p := 36) rfl ?_); (try (rw [drewN_self wr]; generalize hq_ : World.drewN wr _ = wr; have n0_ := Aside0.mk (Kd.R_at hq_ HO_7.out); have n1_ := Aside0.mk (below_at hq_ HB.out); clear hq_ HO_7 HB; have HO_7 := n0_; have HB := n1_; clear n0_ n1_; (try (obtain ⟨hx14_0, hf14_0⟩ := Kd.R_celln 0 HO_7.out (x22_1 : Int) (of_eq_true p14) (of_eq_true q14))); (try (have HP15 := Kd.R_putg HO_7.out (x22_1 : Int) (-1))))); refine store_event (t := 3) (p := 36) (v := ?vo_w16) (w1 := (wr.setCell ⟨go14, (x22_1 : Int).toNat, none⟩ (.int .i64 (-1)))) ?hg ?ho ?hn ?hr ?_; (case ho => rfl); (case hg => rfl); (case hn => rfl); (case hr => first | (go_simp; done) | (go_simp; rfl)); intro w16 hw; have hg : wr.grownBy w16 (some go14) := (by rw [hw]; exact HP15.2); have hp_ : Kd.R (Kd.int .i64) 3 w16 w.heap.size (fun _ => True) (.slice (some ⟨go14, 0, none⟩) x7_1.length co8) y108 := (by rw [hw, Ny108.out]; exact HP15.1); clear HP15; have n0_ := Aside0.mk (hp_); have n1_ := Aside0.mk ((by rw [hw]; exact below_set (HB.out) GB14.out : Below w.heap.size w w16)); clear HO_7; clear HB; have HO_7 := n0_; have HB := n1_; clear n0_ n1_; clear hg hw hp_)); try go_wp2_with (first | ((with_reducible refine gate_store (t := 3) (p := 36) rfl ?_); (try (rw [drewN_self wr]; generalize hq_ : World.drewN wr _ = wr; have n0_ := Aside0.mk (Kd.R_at hq_ HO_7.out); have n1_ := Aside0.mk (below_at hq_ HB.out); clear hq_ HO_7 HB; have HO_7 := n0_; have HB := n1_; clear n0_ n1_; (try (obtain ⟨hx14_0, hf14_0⟩ := Kd.R_celln 0 HO_7.out (x22_1 : Int) (of_eq_true p14) (of_eq_true q14))); (try (have HP15 := Kd.R_putg HO_7.out (x22_1 : Int) (-1))))); refine store_event (t := 3) (p := 36) (v := ?vo_w16) (w1 := (wr.setCell ⟨go14, (x22_1 : Int).toNat, none⟩ (.int .i64 (-1)))) ?hg ?ho ?hn ?hr ?_; (case ho => rfl); (case hg => rfl); (case hn => rfl); (case hr => first | (go_simp; done) | (go_simp; rfl)); intro w16 hw; have hg : wr.grownBy w16 (some go14) := (by rw [hw]; exact HP15.2); have hp_ : Kd.R (Kd.int .i64) 3 w16 w.heap.size (fun _ => True) (.slice (some ⟨go14, 0, none⟩) x7_1.length co8) y108 := (by rw [hw, Ny108.out]; exact HP15.1); clear HP15; have n0_ := Aside0.mk (hp_); have n1_ := Aside0.mk ((by rw [hw]; exact below_set (HB.out) GB14.out : Below w.heap.size w w16)); clear HO_7; clear HB; have HO_7 := n0_; have HB := n1_; clear n0_ n1_; clear hg hw hp_)))
         (try simp only [← hl7_1])
         go_roundg k1
         case measure => have := HK1.out; omega
         case rel => exact ⟨(y108), (wrap64 (x22_1 + 1)), (by first | rfl | (simp; done) | (simp [*]; done)), H', ⟨by have := HK1.out; omega⟩, ⟨by (try simp only [hl7_1]); (with_reducible repeat (first | apply Kd.R_alloc | apply Kd.R_drewN | apply Kd.R_drew)); exact HO_7.out⟩, ⟨by repeat (first | (with_reducible first | exact HB.out | apply below_alloc | apply pw_below_drewN | apply below_drew1) | exact HB.out)⟩⟩
        ·rw [if_neg c13] at H
         have c13b0 : ((rd x7_1 x22_1) == a2) = false := beq_eq_false_iff_ne.mpr c13
         have c13b1 : ((rd x7_1 x22_1) != a2) = true := bne_iff_ne.mpr c13
         have H' := Aside0.mk H
         clear H
         have p107 : 0 ≤ (x22_1 : Int) := of_decide_eq_true (by assumption)
         have q107 : x22_1 < (x7_1.length : Int) := of_decide_eq_true (by assumption)
         obtain ⟨ad107, e107, hx107_0⟩ := Kd.at_int (Kd.R_reads' HO_7.out).2.2 x22_1 p107 q107
         cases e107
         replace p107 := eq_true p107
         replace q107 := eq_true q107
         go_wp2
         repeat (go_quiet (fail); try go_wp2)
         (try simp only [← hl7_1])
         go_roundg k1
         case measure => have := HK1.out; omega
         case rel => exact ⟨(x7_1), (wrap64 (x22_1 + 1)), (by first | rfl | (simp; done) | (simp [*]; done)), H', ⟨by have := HK1.out; omega⟩, ⟨by (try simp only [hl7_1]); (with_reducible repeat (first | apply Kd.R_alloc | apply Kd.R_drewN | apply Kd.R_drew)); exact HO_7.out⟩, ⟨by repeat (first | (with_reducible first | exact HB.out | apply below_alloc | apply pw_below_drewN | apply below_drew1) | exact HB.out)⟩⟩
       ·rw [if_neg c12] at H
        have c12b0 : decide (0 ≤ (rd x7_1 x22_1)) = false := decide_eq_false c12
        clear c12
        have H' := Aside0.mk H
        clear H
        have p107 : 0 ≤ (x22_1 : Int) := of_decide_eq_true (by assumption)
        have q107 : x22_1 < (x7_1.length : Int) := of_decide_eq_true (by assumption)
        obtain ⟨ad107, e107, hx107_0⟩ := Kd.at_int (Kd.R_reads' HO_7.out).2.2 x22_1 p107 q107
        cases e107
        replace p107 := eq_true p107
        replace q107 := eq_true q107
        go_wp2
        repeat (go_quiet (fail); try go_wp2)
        (try simp only [← hl7_1])
        go_roundg k1
        case measure => have := HK1.out; omega
        case rel => exact ⟨(x7_1), (wrap64 (x22_1 + 1)), (by first | rfl | (simp; done) | (simp [*]; done)), H', ⟨by have := HK1.out; omega⟩, ⟨by (try simp only [hl7_1]); (with_reducible repeat (first | apply Kd.R_alloc | apply Kd.R_drewN | apply Kd.R_drew)); exact HO_7.out⟩, ⟨by repeat (first | (with_reducible first | exact HB.out | apply below_alloc | apply pw_below_drewN | apply below_drew1) | exact HB.out)⟩⟩
      ·rw [if_neg c11] at H
       exact absurd H (by simp)
     ·rw [if_neg c10] at H
      exact absurd H (by simp)
    ·rw [if_neg c9] at H
     have c9b0 : decide (x22_1 < (y104.length : Int)) = false := decide_eq_false c9
     clear c9
     try (have c9h0 := c9b0; simp only [hl7_1] at c9h0)
     replace H := Option.bind_eq_some_iff.mp H
     obtain ⟨t109, A170, H⟩ := H
     have A17 := Aside0.mk A170
     clear A170
     replace H := Option.bind_eq_some_iff.mp H
     obtain ⟨t112, A180, H⟩ := H
     have A18 := Aside0.mk A180
     clear A180
     have H' := Aside0.mk H
     clear H
     go_wp2_with (first | (go_at_call 93; (with_reducible refine (spec_l13Rooms.calls k1 a0 _ _ x7_1 a2 t109 _ ?side1 ?side2 A17.out).mono ?_); (case side1 => repeat (first | exact (Kd.R_reads' HO_7.out).2.2 | (with_reducible refine Kd.C_alloc ?_ _) | (with_reducible refine Kd.C_drewN ?_ _) | (with_reducible refine Kd.C_drew ?_))); (case side2 => exact (Kd.R_reads' HO_7.out).2.1); rintro e w19 ⟨v110, rfl, ho0, hb⟩; have n0_ := Aside0.mk (Kd.R_elder' (by (with_reducible repeat (first | apply Kd.R_alloc | apply Kd.R_drewN | apply Kd.R_drew)); exact HO_7.out) (Kd.R_base ho0) hb); have n1_ := Aside0.mk (Kd.R_lower (Kd.R_new' ho0 (Kd.R_lt (by (with_reducible repeat (first | apply Kd.R_alloc | apply Kd.R_drewN | apply Kd.R_drew)); exact HO_7.out))) (below_size (by repeat (first | (with_reducible first | exact HB.out | apply below_alloc | apply pw_below_drewN | apply below_drew1) | exact HB.out)))); have n2_ := Aside0.mk (below_step (by repeat (first | (with_reducible first | exact HB.out | apply below_alloc | apply pw_below_drewN | apply below_drew1) | exact HB.out)) hb); clear HO_7; clear HB; have HO_7 := n0_; have HO111 := n1_; have HB := n2_; clear n0_ n1_ n2_; (try clear hb); (try clear ho0)) | (go_at_call 58; (with_reducible refine (spec_l13Loads.calls k1 a0 _ _ x7_1 t112 _ ?side1 ?side2 A18.out).mono ?_); (case side1 => repeat (first | exact (Kd.R_reads' HO_7.out).2.2 | (with_reducible refine Kd.C_alloc ?_ _) | (with_reducible refine Kd.C_drewN ?_ _) | (with_reducible refine Kd.C_drew ?_))); (case side2 => exact (Kd.R_reads' HO_7.out).2.1); rintro e w20 ⟨v113, rfl, ho0, hb⟩; have n0_ := Aside0.mk (Kd.R_elder' (by (with_reducible repeat (first | apply Kd.R_alloc | apply Kd.R_drewN | apply Kd.R_drew)); exact HO_7.out) (Kd.R_base ho0) hb); have n1_ := Aside0.mk (Kd.R_elder' (by (with_reducible repeat (first | apply Kd.R_alloc | apply Kd.R_drewN | apply Kd.R_drew)); exact HO111.out) (Kd.R_base ho0) hb); have n2_ := Aside0.mk (Kd.R_lower (Kd.R_new' (Kd.R_new' ho0 (Kd.R_lt (by (with_reducible repeat (first | apply Kd.R_alloc | apply Kd.R_drewN | apply Kd.R_drew)); exact HO_7.out))) (Kd.R_lt (by (with_reducible repeat (first | apply Kd.R_alloc | apply Kd.R_drewN | apply Kd.R_drew)); exact HO111.out))) (below_size (by repeat (first | (with_reducible first | exact HB.out | apply below_alloc | apply pw_below_drewN | apply below_drew1) | exact HB.out)))); have n3_ := Aside0.mk (below_step (by repeat (first | (with_reducible first | exact HB.out | apply below_alloc | apply pw_below_drewN | apply below_drew1) | exact HB.out)) hb); clear HO_7; clear HO111; clear HB; have HO_7 := n0_; have HO111 := n1_; have HO114 := n2_; have HB := n3_; clear n0_ n1_ n2_ n3_; (try clear hb); (try clear ho0)))
     repeat (go_quiet (first | (go_at_call 93; (with_reducible refine (spec_l13Rooms.calls k1 a0 _ _ x7_1 a2 t109 _ ?side1 ?side2 A17.out).mono ?_); (case side1 => repeat (first | exact (Kd.R_reads' HO_7.out).2.2 | (with_reducible refine Kd.C_alloc ?_ _) | (with_reducible refine Kd.C_drewN ?_ _) | (with_reducible refine Kd.C_drew ?_))); (case side2 => exact (Kd.R_reads' HO_7.out).2.1); rintro e w19 ⟨v110, rfl, ho0, hb⟩; have n0_ := Aside0.mk (Kd.R_elder' (by (with_reducible repeat (first | apply Kd.R_alloc | apply Kd.R_drewN | apply Kd.R_drew)); exact HO_7.out) (Kd.R_base ho0) hb); have n1_ := Aside0.mk (Kd.R_lower (Kd.R_new' ho0 (Kd.R_lt (by (with_reducible repeat (first | apply Kd.R_alloc | apply Kd.R_drewN | apply Kd.R_drew)); exact HO_7.out))) (below_size (by repeat (first | (with_reducible first | exact HB.out | apply below_alloc | apply pw_below_drewN | apply below_drew1) | exact HB.out)))); have n2_ := Aside0.mk (below_step (by repeat (first | (with_reducible first | exact HB.out | apply below_alloc | apply pw_below_drewN | apply below_drew1) | exact HB.out)) hb); clear HO_7; clear HB; have HO_7 := n0_; have HO111 := n1_; have HB := n2_; clear n0_ n1_ n2_; (try clear hb); (try clear ho0)) | (go_at_call 58; (with_reducible refine (spec_l13Loads.calls k1 a0 _ _ x7_1 t112 _ ?side1 ?side2 A18.out).mono ?_); (case side1 => repeat (first | exact (Kd.R_reads' HO_7.out).2.2 | (with_reducible refine Kd.C_alloc ?_ _) | (with_reducible refine Kd.C_drewN ?_ _) | (with_reducible refine Kd.C_drew ?_))); (case side2 => exact (Kd.R_reads' HO_7.out).2.1); rintro e w20 ⟨v113, rfl, ho0, hb⟩; have n0_ := Aside0.mk (Kd.R_elder' (by (with_reducible repeat (first | apply Kd.R_alloc | apply Kd.R_drewN | apply Kd.R_drew)); exact HO_7.out) (Kd.R_base ho0) hb); have n1_ := Aside0.mk (Kd.R_elder' (by (with_reducible repeat (first | apply Kd.R_alloc | apply Kd.R_drewN | apply Kd.R_drew)); exact HO111.out) (Kd.R_base ho0) hb); have n2_ := Aside0.mk (Kd.R_lower (Kd.R_new' (Kd.R_new' ho0 (Kd.R_lt (by (with_reducible repeat (first | apply Kd.R_alloc | apply Kd.R_drewN | apply Kd.R_drew)); exact HO_7.out))) (Kd.R_lt (by (with_reducible repeat (first | apply Kd.R_alloc | apply Kd.R_drewN | apply Kd.R_drew)); exact HO111.out))) (below_size (by repeat (first | (with_reducible first | exact HB.out | apply below_alloc | apply pw_below_drewN | apply below_drew1) | exact HB.out)))); have n3_ := Aside0.mk (below_step (by repeat (first | (with_reducible first | exact HB.out | apply below_alloc | apply pw_below_drewN | apply below_drew1) | exact HB.out)) hb); clear HO_7; clear HO111; clear HB; have HO_7 := n0_; have HO111 := n1_; have HO114 := n2_; have HB := n3_; clear n0_ n1_ n2_ n3_; (try clear hb); (try clear ho0))); try go_wp2_with (first | (go_at_call 93; (with_reducible refine (spec_l13Rooms.calls k1 a0 _ _ x7_1 a2 t109 _ ?side1 ?side2 A17.out).mono ?_); (case side1 => repeat (first | exact (Kd.R_reads' HO_7.out).2.2 | (with_reducible refine Kd.C_alloc ?_ _) | (with_reducible refine Kd.C_drewN ?_ _) | (with_reducible refine Kd.C_drew ?_))); (case side2 => exact (Kd.R_reads' HO_7.out).2.1); rintro e w19 ⟨v110, rfl, ho0, hb⟩; have n0_ := Aside0.mk (Kd.R_elder' (by (with_reducible repeat (first | apply Kd.R_alloc | apply Kd.R_drewN | apply Kd.R_drew)); exact HO_7.out) (Kd.R_base ho0) hb); have n1_ := Aside0.mk (Kd.R_lower (Kd.R_new' ho0 (Kd.R_lt (by (with_reducible repeat (first | apply Kd.R_alloc | apply Kd.R_drewN | apply Kd.R_drew)); exact HO_7.out))) (below_size (by repeat (first | (with_reducible first | exact HB.out | apply below_alloc | apply pw_below_drewN | apply below_drew1) | exact HB.out)))); have n2_ := Aside0.mk (below_step (by repeat (first | (with_reducible first | exact HB.out | apply below_alloc | apply pw_below_drewN | apply below_drew1) | exact HB.out)) hb); clear HO_7; clear HB; have HO_7 := n0_; have HO111 := n1_; have HB := n2_; clear n0_ n1_ n2_; (try clear hb); (try clear ho0)) | (go_at_call 58; (with_reducible refine (spec_l13Loads.calls k1 a0 _ _ x7_1 t112 _ ?side1 ?side2 A18.out).mono ?_); (case side1 => repeat (first | exact (Kd.R_reads' HO_7.out).2.2 | (with_reducible refine Kd.C_alloc ?_ _) | (with_reducible refine Kd.C_drewN ?_ _) | (with_reducible refine Kd.C_drew ?_))); (case side2 => exact (Kd.R_reads' HO_7.out).2.1); rintro e w20 ⟨v113, rfl, ho0, hb⟩; have n0_ := Aside0.mk (Kd.R_elder' (by (with_reducible repeat (first | apply Kd.R_alloc | apply Kd.R_drewN | apply Kd.R_drew)); exact HO_7.out) (Kd.R_base ho0) hb); have n1_ := Aside0.mk (Kd.R_elder' (by (with_reducible repeat (first | apply Kd.R_alloc | apply Kd.R_drewN | apply Kd.R_drew)); exact HO111.out) (Kd.R_base ho0) hb); have n2_ := Aside0.mk (Kd.R_lower (Kd.R_new' (Kd.R_new' ho0 (Kd.R_lt (by (with_reducible repeat (first | apply Kd.R_alloc | apply Kd.R_drewN | apply Kd.R_drew)); exact HO_7.out))) (Kd.R_lt (by (with_reducible repeat (first | apply Kd.R_alloc | apply Kd.R_drewN | apply Kd.R_drew)); exact HO111.out))) (below_size (by repeat (first | (with_reducible first | exact HB.out | apply below_alloc | apply pw_below_drewN | apply below_drew1) | exact HB.out)))); have n3_ := Aside0.mk (below_step (by repeat (first | (with_reducible first | exact HB.out | apply below_alloc | apply pw_below_drewN | apply below_drew1) | exact HB.out)) hb); clear HO_7; clear HO111; clear HB; have HO_7 := n0_; have HO111 := n1_; have HO114 := n2_; have HB := n3_; clear n0_ n1_ n2_ n3_; (try clear hb); (try clear ho0))))
     go_loopg [12] k1 (fun kq v12 w' => ∃ (x7_2 : List Int) (x11_2 : List Int) (x12_2 : Int), v12 = .int .i64 x12_2 ∧ Aside0 (spec_l13Spread.l1 kq x7_2 t109 x11_2 x12_2 = some r) ∧ Aside0 (kq ≤ k1) ∧ Aside0 (Kd.R (Kd.int .i64) 3 w' w.heap.size (fun k_ => some k_ ≠ (v110 : Value).ownBlock ∧ some k_ ≠ (v113 : Value).ownBlock) (.slice Ao8 x7_1.length co8) x7_2) ∧ Aside0 (Kd.R (Kd.int .i64) 3 w' w.heap.size (fun k_ => some k_ ≠ ((.slice Ao8 x7_1.length co8) : Value).ownBlock ∧ some k_ ≠ (v113 : Value).ownBlock) v110 t109) ∧ Aside0 (Kd.R (Kd.int .i64) 3 w' w.heap.size (fun k_ => some k_ ≠ ((.slice Ao8 x7_1.length co8) : Value).ownBlock ∧ some k_ ≠ (v110 : Value).ownBlock) v113 x11_2) ∧ Aside0 (Below w.heap.size w w'))
     case atStart => exact ⟨(x7_1), (t112), (wrap64 ((x7_1.length : Int) - 1)), (by first | rfl | (simp; done) | (simp [*]; done)), H', ⟨Nat.le_refl _⟩, ⟨by (try simp only [hl7_1]); (with_reducible repeat (first | apply Kd.R_alloc | apply Kd.R_drewN | apply Kd.R_drew)); exact Kd.R_mono HO_7.out (fun _ hk => ⟨hk.1.2, hk.2⟩)⟩, ⟨by (try simp only [hl7_1]); (with_reducible repeat (first | apply Kd.R_alloc | apply Kd.R_drewN | apply Kd.R_drew)); exact Kd.R_mono HO111.out (fun _ hk => ⟨hk.1.2, hk.2⟩)⟩, ⟨by (try simp only [hl7_1]); (with_reducible repeat (first | apply Kd.R_alloc | apply Kd.R_drewN | apply Kd.R_drew)); exact Kd.R_mono HO114.out (fun _ hk => ⟨hk.1.2, hk.2⟩)⟩, ⟨by repeat (first | (with_reducible first | exact HB.out | apply below_alloc | apply pw_below_drewN | apply below_drew1) | exact HB.out)⟩⟩
     case round =>
      clear H'
      try clear c4
      try clear c9
      try clear c9b0
      obtain ⟨x7_2, x11_2, x12_2, rfl, HA, HK2, HO_7, HO_10, HO_11, HB⟩ := hrel
      have hl7_2 := (Kd.R_reads' HO_7.out).1
      rw [hl7_2] at HO_7
      (try simp only [hl7_2])
      (try simp only [hl7_2] at HO_10)
      (try simp only [hl7_2] at HO_11)
      cases gk with
      | zero => exact absurd HA.out (by simp [spec_l13Spread.l1])
      | succ k2 =>
       have H := HA.out
       clear HA
       simp only [spec_l13Spread.l1] at H
       by_cases c21 : x12_2 ≥ 0
       ·rw [if_pos c21] at H
        have c21b0 : decide (0 ≤ x12_2) = true := decide_eq_true c21
        clear c21
        by_cases c22 : 0 ≤ x12_2
        ·rw [if_pos c22] at H
         have c22b0 : decide (0 ≤ x12_2) = true := decide_eq_true c22
         clear c22
         by_cases c23 : x12_2 < (x7_2.length : Int)
         ·rw [if_pos c23] at H
          have c23b0 : decide (x12_2 < (x7_2.length : Int)) = true := decide_eq_true c23
          clear c23
          try (have c23h0 := c23b0; simp only [hl7_1, hl7_2] at c23h0)
          by_cases c24 : (rd x7_2 x12_2) ≥ 0
          ·rw [if_pos c24] at H
           have c24b0 : decide (0 ≤ (rd x7_2 x12_2)) = true := decide_eq_true c24
           clear c24
           by_cases c25 : 0 ≤ (rd x7_2 x12_2)
           ·rw [if_pos c25] at H
            have c25b0 : decide (0 ≤ (rd x7_2 x12_2)) = true := decide_eq_true c25
            clear c25
            by_cases c26 : (rd x7_2 x12_2) < (x11_2.length : Int)
            ·rw [if_pos c26] at H
             have c26b0 : decide ((rd x7_2 x12_2) < (x11_2.length : Int)) = true := decide_eq_true c26
             clear c26
             try (have c26h0 := c26b0; simp only [hl7_1, hl7_2] at c26h0)
             by_cases c27 : (rd x7_2 x12_2) < (t109.length : Int)
             ·rw [if_pos c27] at H
              have c27b0 : decide ((rd x7_2 x12_2) < (t109.length : Int)) = true := decide_eq_true c27
              clear c27
              try (have c27h0 := c27b0; simp only [hl7_1, hl7_2] at c27h0)
              by_cases c28 : (rd x11_2 (rd x7_2 x12_2)) > (rd t109 (rd x7_2 x12_2))
              ·rw [if_pos c28] at H
               have c28b0 : decide ((rd t109 (rd x7_2 x12_2)) < (rd x11_2 (rd x7_2 x12_2))) = true := decide_eq_true c28
               clear c28
               obtain ⟨y119, hy119⟩ : ∃ y_ : List Int, y_ = (x11_2.set ((rd x7_2 x12_2) : Int).toNat (wrap64 ((rd x11_2 (rd x7_2 x12_2)) - 1))) := ⟨_, rfl⟩
               replace H : (spec_l13Spread.l1 k2 (x7_2.set (x12_2 : Int).toNat (-1)) t109 y119 (wrap64 (x12_2 - 1))) = some r := by first | (rw [hy119]; with_reducible exact H) | (have H2_ := (Option.bind_some _ _).symm.trans H; rw [hy119]; with_reducible exact H2_) | (have H2_ := (Option.bind_some _ _).symm.trans H; with_reducible exact H2_) | with_reducible exact H | (rw [hy119]; exact H) | exact H
               have Ny119 := Aside0.mk hy119
               clear hy119
               obtain ⟨y120, hy120⟩ : ∃ y_ : List Int, y_ = (x7_2.set (x12_2 : Int).toNat (-1)) := ⟨_, rfl⟩
               replace H : (spec_l13Spread.l1 k2 y120 t109 y119 (wrap64 (x12_2 - 1))) = some r := by first | (rw [hy120]; with_reducible exact H) | (have H2_ := (Option.bind_some _ _).symm.trans H; rw [hy120]; with_reducible exact H2_) | (have H2_ := (Option.bind_some _ _).symm.trans H; with_reducible exact H2_) | with_reducible exact H | (rw [hy120]; exact H) | exact H
               have Ny120 := Aside0.mk hy120
               clear hy120
               have H' := Aside0.mk H
               clear H
               have p115 : 0 ≤ (x12_2 : Int) := of_decide_eq_true (by assumption)
               have q115 : x12_2 < (x7_2.length : Int) := of_decide_eq_true (by assumption)
               obtain ⟨ad115, e115, hx115_0⟩ := Kd.at_int (Kd.R_reads' HO_7.out).2.2 x12_2 p115 q115
               cases e115
               replace p115 := eq_true p115
               replace q115 := eq_true q115
               obtain ⟨Ao31, co31, eo31⟩ := Kd.R_slice HO_11.out
               subst eo31
               have p116 : 0 ≤ ((rd x7_2 x12_2) : Int) := of_decide_eq_true (by assumption)
               have q116 : (rd x7_2 x12_2) < (x11_2.length : Int) := of_decide_eq_true (by assumption)
               obtain ⟨ad116, e116, hx116_0⟩ := Kd.at_int (Kd.R_reads' HO_11.out).2.2 (rd x7_2 x12_2) p116 q116
               cases e116
               replace p116 := eq_true p116
               replace q116 := eq_true q116
               obtain ⟨Ao32, co32, eo32⟩ := Kd.R_slice HO_10.out
               subst eo32
               have p117 : 0 ≤ ((rd x7_2 x12_2) : Int) := of_decide_eq_true (by assumption)
               have q117 : (rd x7_2 x12_2) < (t109.length : Int) := of_decide_eq_true (by assumption)
               obtain ⟨ad117, e117, hx117_0⟩ := Kd.at_int (Kd.R_reads' HO_10.out).2.2 (rd x7_2 x12_2) p117 q117
               cases e117
               replace p117 := eq_true p117
               replace q117 := eq_true q117
               have p118 : 0 ≤ ((rd x7_2 x12_2) : Int) := of_decide_eq_true (by assumption)
               have q118 : (rd x7_2 x12_2) < (x11_2.length : Int) := of_decide_eq_true (by assumption)
               obtain ⟨ad118, e118, hx118_0⟩ := Kd.at_int (Kd.R_reads' HO_11.out).2.2 (rd x7_2 x12_2) p118 q118
               obtain rfl : ad116 = ad118 := (by injection e118)
               replace p118 := eq_true p118
               replace q118 := eq_true q118
               have p29 : 0 ≤ ((rd x7_2 x12_2) : Int) := of_decide_eq_true (by assumption)
               have q29 : ((rd x7_2 x12_2) : Int) < ((x11_2.length : Int) : Int) := of_decide_eq_true (by assumption)
               obtain ⟨go29, co29, eo29, gb29, gl29, cl29, HG29⟩ := Kd.R_form HO_11.out (by omega)
               (first | cases eo29 | (injection eo29 with ea_ en_ ec_; (first | subst ea_ | (injection ea_ with ea_; subst ea_)); subst ec_; clear en_))
               have GB29 := Aside0.mk gb29
               have GG29 := Aside0.mk HG29
               clear gb29 gl29 HG29
               (first | simp only [add_plain] at hx116_0 | skip)
               (first | simp only [add_plain] at hx118_0 | skip)
               obtain ⟨hx29_0, hf29_0⟩ := Kd.R_celln 0 HO_11.out ((rd x7_2 x12_2) : Int) p29 q29
               replace p29 := eq_true p29
               replace q29 := eq_true q29
               have HP33 := Kd.R_putg HO_11.out ((rd x7_2 x12_2) : Int) (wrap64 ((rd x11_2 (rd x7_2 x12_2)) - 1))
               go_wp2_with (first | ((with_reducible refine gate_store (t := 3) (p := 74) rfl ?_); (try (rw [drewN_self wr]; generalize hq_ : World.drewN wr _ = wr; have n0_ := Aside0.mk (Kd.R_at hq_ HO_7.out); have n1_ := Aside0.mk (Kd.R_at hq_ HO_10.out); have n2_ := Aside0.mk (Kd.R_at hq_ HO_11.out); have n3_ := Aside0.mk (below_at hq_ HB.out); clear hq_ HO_7 HO_10 HO_11 HB; have HO_7 := n0_; have HO_10 := n1_; have HO_11 := n2_; have HB := n3_; clear n0_ n1_ n2_ n3_; (try (obtain ⟨hx29_0, hf29_0⟩ := Kd.R_celln 0 HO_11.out ((rd x7_2 x12_2) : Int) (of_eq_true p29) (of_eq_true q29))); (try (have HP33 := Kd.R_putg HO_11.out ((rd x7_2 x12_2) : Int) (wrap64 ((rd x11_2 (rd x7_2 x12_2)) - 1)))))); refine store_event (t := 3) (p := 74) (v := ?vo_w34) (w1 := (wr.setCell ⟨go29, ((rd x7_2 x12_2) : Int).toNat, none⟩ (.int .i64 (wrap64 ((rd x11_2 (rd x7_2 x12_2)) - 1))))) ?hg ?ho ?hn ?hr ?_; (case ho => rfl); (case hg => rfl); (case hn => rfl); (case hr => first | (go_simp; done) | (go_simp; rfl)); intro w34 hw; have hg : wr.grownBy w34 (some go29) := (by rw [hw]; exact HP33.2); have hp_ : Kd.R (Kd.int .i64) 3 w34 w.heap.size (fun k_ => some k_ ≠ (.slice (some ad115) x7_2.length co8 : Value).ownBlock ∧ some k_ ≠ (.slice (some ad117) t109.length co32 : Value).ownBlock) (.slice (some ⟨go29, 0, none⟩) x11_2.length co31) y119 := (by rw [hw, Ny119.out]; exact HP33.1); clear HP33; have n0_ := Aside0.mk (Kd.R_after (v := (.slice (some ⟨go29, 0, none⟩) x11_2.length co31)) (v1 := (.slice (some ⟨go29, 0, none⟩) x11_2.length co31)) (ok := (fun k_ => some k_ ≠ (.slice (some ad117) t109.length co32 : Value).ownBlock)) (by (with_reducible repeat (first | apply Kd.R_alloc | apply Kd.R_drewN | apply Kd.R_drew)); exact HO_7.out) hg (.inl rfl)); have n1_ := Aside0.mk (Kd.R_after (v := (.slice (some ⟨go29, 0, none⟩) x11_2.length co31)) (v1 := (.slice (some ⟨go29, 0, none⟩) x11_2.length co31)) (ok := (fun k_ => some k_ ≠ (.slice (some ad115) x7_2.length co8 : Value).ownBlock)) (by (with_reducible repeat (first | apply Kd.R_alloc | apply Kd.R_drewN | apply Kd.R_drew)); exact HO_10.out) hg (.inl rfl)); have n2_ := Aside0.mk (hp_); have n3_ := Aside0.mk ((by rw [hw]; exact below_set (HB.out) GB29.out : Below w.heap.size w w34)); clear HO_7; clear HO_10; clear HO_11; clear HB; have HO_7 := n0_; have HO_10 := n1_; have HO_11 := n2_; have HB := n3_; clear n0_ n1_ n2_ n3_; clear hg hw hp_; have p30 : 0 ≤ (x12_2 : Int) := of_decide_eq_true (by assumption); have q30 : (x12_2 : Int) < ((x7_2.length : Int) : Int) := of_decide_eq_true (by assumption); obtain ⟨go30, co30, eo30, gb30, gl30, cl30, HG30⟩ := Kd.R_form HO_7.out (by omega); (first | cases eo30 | (injection eo30 with ea_ en_ ec_; (first | subst ea_ | (injection ea_ with ea_; subst ea_)); subst ec_; clear en_)); have GB30 := Aside0.mk gb30; have GG30 := Aside0.mk HG30; clear gb30 gl30 HG30; (first | simp only [add_plain] at hx115_0 | skip); obtain ⟨hx30_0, hf30_0⟩ := Kd.R_celln 0 HO_7.out (x12_2 : Int) p30 q30; replace p30 := eq_true p30; replace q30 := eq_true q30; obtain ⟨hy35_, hz35_⟩ := Kd.R_celln 0 HO_7.out (x12_2 : Int) (of_decide_eq_true (by assumption)) (of_decide_eq_true (by assumption)); have HP35 := Kd.R_putg HO_7.out (x12_2 : Int) (-1)) | ((with_reducible refine gate_store (t := 3) (p := 77) rfl ?_); (try (rw [drewN_self w34]; generalize hq_ : World.drewN w34 _ = w34; have n0_ := Aside0.mk (Kd.R_at hq_ HO_7.out); have n1_ := Aside0.mk (Kd.R_at hq_ HO_10.out); have n2_ := Aside0.mk (Kd.R_at hq_ HO_11.out); have n3_ := Aside0.mk (below_at hq_ HB.out); clear hq_ HO_7 HO_10 HO_11 HB; have HO_7 := n0_; have HO_10 := n1_; have HO_11 := n2_; have HB := n3_; clear n0_ n1_ n2_ n3_; (try (obtain ⟨hy35_, hz35_⟩ := Kd.R_celln 0 HO_7.out (x12_2 : Int) (of_decide_eq_true (by assumption)) (of_decide_eq_true (by assumption)))); (try (have HP35 := Kd.R_putg HO_7.out (x12_2 : Int) (-1))))); refine store_event (t := 3) (p := 77) (v := ?vo_w36) (w1 := (w34.setCell ⟨go30, (x12_2 : Int).toNat, none⟩ (.int .i64 (-1)))) ?hg ?ho ?hn ?hr ?_; (case ho => rfl); (case hg => rfl); (case hn => rfl); (case hr => first | (go_simp; done) | (go_simp; rfl)); intro w36 hw; have hg : w34.grownBy w36 (some go30) := (by rw [hw]; exact HP35.2); have hp_ : Kd.R (Kd.int .i64) 3 w36 w.heap.size (fun k_ => some k_ ≠ (.slice (some ad117) t109.length co32 : Value).ownBlock ∧ some k_ ≠ (.slice (some ⟨go29, 0, none⟩) x11_2.length co31 : Value).ownBlock) (.slice (some ⟨go30, 0, none⟩) x7_2.length co8) y120 := (by rw [hw, Ny120.out]; exact HP35.1); clear HP35; have n0_ := Aside0.mk (hp_); have n1_ := Aside0.mk (Kd.R_after (v := (.slice (some ⟨go30, 0, none⟩) x7_2.length co8)) (v1 := (.slice (some ⟨go30, 0, none⟩) x7_2.length co8)) (ok := (fun k_ => some k_ ≠ (.slice (some ⟨go29, 0, none⟩) x11_2.length co31 : Value).ownBlock)) (by (with_reducible repeat (first | apply Kd.R_alloc | apply Kd.R_drewN | apply Kd.R_drew)); exact Kd.R_mono HO_10.out (fun _ hk => ⟨hk.2, hk.1⟩)) hg (.inl rfl)); have n2_ := Aside0.mk (Kd.R_after (v := (.slice (some ⟨go30, 0, none⟩) x7_2.length co8)) (v1 := (.slice (some ⟨go30, 0, none⟩) x7_2.length co8)) (ok := (fun k_ => some k_ ≠ (.slice (some ad117) t109.length co32 : Value).ownBlock)) (by (with_reducible repeat (first | apply Kd.R_alloc | apply Kd.R_drewN | apply Kd.R_drew)); exact Kd.R_mono HO_11.out (fun _ hk => ⟨hk.2, hk.1⟩)) hg (.inl rfl)); have n3_ := Aside0.mk ((by rw [hw]; exact below_set (HB.out) GB30.out : Below w.heap.size w w36)); clear HO_7; clear HO_10; clear HO_11; clear HB; have HO_7 := n0_; have HO_10 := n1_; have HO_11 := n2_; have HB := n3_; clear n0_ n1_ n2_ n3_; clear hg hw hp_))
               repeat (go_quiet (first | ((with_reducible refine gate_store (t := 3) (p := 74) rfl ?_); (try (rw [drewN_self wr]; generalize hq_ : World.drewN wr _ = wr; have n0_ := Aside0.mk (Kd.R_at hq_ HO_7.out); have n1_ := Aside0.mk (Kd.R_at hq_ HO_10.out); have n2_ := Aside0.mk (Kd.R_at hq_ HO_11.out); have n3_ := Aside0.mk (below_at hq_ HB.out); clear hq_ HO_7 HO_10 HO_11 HB; have HO_7 := n0_; have HO_10 := n1_; have HO_11 := n2_; have HB := n3_; clear n0_ n1_ n2_ n3_; (try (obtain ⟨hx29_0, hf29_0⟩ := Kd.R_celln 0 HO_11.out ((rd x7_2 x12_2) : Int) (of_eq_true p29) (of_eq_true q29))); (try (have HP33 := Kd.R_putg HO_11.out ((rd x7_2 x12_2) : Int) (wrap64 ((rd x11_2 (rd x7_2 x12_2)) - 1)))))); refine store_event (t := 3) (p := 74) (v := ?vo_w34) (w1 := (wr.setCell ⟨go29, ((rd x7_2 x12_2) : Int).toNat, none⟩ (.int .i64 (wrap64 ((rd x11_2 (rd x7_2 x12_2)) - 1))))) ?hg ?ho ?hn ?hr ?_; (case ho => rfl); (case hg => rfl); (case hn => rfl); (case hr => first | (go_simp; done) | (go_simp; rfl)); intro w34 hw; have hg : wr.grownBy w34 (some go29) := (by rw [hw]; exact HP33.2); have hp_ : Kd.R (Kd.int .i64) 3 w34 w.heap.size (fun k_ => some k_ ≠ (.slice (some ad115) x7_2.length co8 : Value).ownBlock ∧ some k_ ≠ (.slice (some ad117) t109.length co32 : Value).ownBlock) (.slice (some ⟨go29, 0, none⟩) x11_2.length co31) y119 := (by rw [hw, Ny119.out]; exact HP33.1); clear HP33; have n0_ := Aside0.mk (Kd.R_after (v := (.slice (some ⟨go29, 0, none⟩) x11_2.length co31)) (v1 := (.slice (some ⟨go29, 0, none⟩) x11_2.length co31)) (ok := (fun k_ => some k_ ≠ (.slice (some ad117) t109.length co32 : Value).ownBlock)) (by (with_reducible repeat (first | apply Kd.R_alloc | apply Kd.R_drewN | apply Kd.R_drew)); exact HO_7.out) hg (.inl rfl)); have n1_ := Aside0.mk (Kd.R_after (v := (.slice (some ⟨go29, 0, none⟩) x11_2.length co31)) (v1 := (.slice (some ⟨go29, 0, none⟩) x11_2.length co31)) (ok := (fun k_ => some k_ ≠ (.slice (some ad115) x7_2.length co8 : Value).ownBlock)) (by (with_reducible repeat (first | apply Kd.R_alloc | apply Kd.R_drewN | apply Kd.R_drew)); exact HO_10.out) hg (.inl rfl)); have n2_ := Aside0.mk (hp_); have n3_ := Aside0.mk ((by rw [hw]; exact below_set (HB.out) GB29.out : Below w.heap.size w w34)); clear HO_7; clear HO_10; clear HO_11; clear HB; have HO_7 := n0_; have HO_10 := n1_; have HO_11 := n2_; have HB := n3_; clear n0_ n1_ n2_ n3_; clear hg hw hp_; have p30 : 0 ≤ (x12_2 : Int) := of_decide_eq_true (by assumption); have q30 : (x12_2 : Int) < ((x7_2.length : Int) : Int) := of_decide_eq_true (by assumption); obtain ⟨go30, co30, eo30, gb30, gl30, cl30, HG30⟩ := Kd.R_form HO_7.out (by omega); (first | cases eo30 | (injection eo30 with ea_ en_ ec_; (first | subst ea_ | (injection ea_ with ea_; subst ea_)); subst ec_; clear en_)); have GB30 := Aside0.mk gb30; have GG30 := Aside0.mk HG30; clear gb30 gl30 HG30; (first | simp only [add_plain] at hx115_0 | skip); obtain ⟨hx30_0, hf30_0⟩ := Kd.R_celln 0 HO_7.out (x12_2 : Int) p30 q30; replace p30 := eq_true p30; replace q30 := eq_true q30; obtain ⟨hy35_, hz35_⟩ := Kd.R_celln 0 HO_7.out (x12_2 : Int) (of_decide_eq_true (by assumption)) (of_decide_eq_true (by assumption)); have HP35 := Kd.R_putg HO_7.out (x12_2 : Int) (-1)) | ((with_reducible refine gate_store (t := 3) (p := 77) rfl ?_); (try (rw [drewN_self w34]; generalize hq_ : World.drewN w34 _ = w34; have n0_ := Aside0.mk (Kd.R_at hq_ HO_7.out); have n1_ := Aside0.mk (Kd.R_at hq_ HO_10.out); have n2_ := Aside0.mk (Kd.R_at hq_ HO_11.out); have n3_ := Aside0.mk (below_at hq_ HB.out); clear hq_ HO_7 HO_10 HO_11 HB; have HO_7 := n0_; have HO_10 := n1_; have HO_11 := n2_; have HB := n3_; clear n0_ n1_ n2_ n3_; (try (obtain ⟨hy35_, hz35_⟩ := Kd.R_celln 0 HO_7.out (x12_2 : Int) (of_decide_eq_true (by assumption)) (of_decide_eq_true (by assumption)))); (try (have HP35 := Kd.R_putg HO_7.out (x12_2 : Int) (-1))))); refine store_event (t := 3) (p := 77) (v := ?vo_w36) (w1 := (w34.setCell ⟨go30, (x12_2 : Int).toNat, none⟩ (.int .i64 (-1)))) ?hg ?ho ?hn ?hr ?_; (case ho => rfl); (case hg => rfl); (case hn => rfl); (case hr => first | (go_simp; done) | (go_simp; rfl)); intro w36 hw; have hg : w34.grownBy w36 (some go30) := (by rw [hw]; exact HP35.2); have hp_ : Kd.R (Kd.int .i64) 3 w36 w.heap.size (fun k_ => some k_ ≠ (.slice (some ad117) t109.length co32 : Value).ownBlock ∧ some k_ ≠ (.slice (some ⟨go29, 0, none⟩) x11_2.length co31 : Value).ownBlock) (.slice (some ⟨go30, 0, none⟩) x7_2.length co8) y120 := (by rw [hw, Ny120.out]; exact HP35.1); clear HP35; have n0_ := Aside0.mk (hp_); have n1_ := Aside0.mk (Kd.R_after (v := (.slice (some ⟨go30, 0, none⟩) x7_2.length co8)) (v1 := (.slice (some ⟨go30, 0, none⟩) x7_2.length co8)) (ok := (fun k_ => some k_ ≠ (.slice (some ⟨go29, 0, none⟩) x11_2.length co31 : Value).ownBlock)) (by (with_reducible repeat (first | apply Kd.R_alloc | apply Kd.R_drewN | apply Kd.R_drew)); exact Kd.R_mono HO_10.out (fun _ hk => ⟨hk.2, hk.1⟩)) hg (.inl rfl)); have n2_ := Aside0.mk (Kd.R_after (v := (.slice (some ⟨go30, 0, none⟩) x7_2.length co8)) (v1 := (.slice (some ⟨go30, 0, none⟩) x7_2.length co8)) (ok := (fun k_ => some k_ ≠ (.slice (some ad117) t109.length co32 : Value).ownBlock)) (by (with_reducible repeat (first | apply Kd.R_alloc | apply Kd.R_drewN | apply Kd.R_drew)); exact Kd.R_mono HO_11.out (fun _ hk => ⟨hk.2, hk.1⟩)) hg (.inl rfl)); have n3_ := Aside0.mk ((by rw [hw]; exact below_set (HB.out) GB30.out : Below w.heap.size w w36)); clear HO_7; clear HO_10; clear HO_11; clear HB; have HO_7 := n0_; have HO_10 := n1_; have HO_11 := n2_; have HB := n3_; clear n0_ n1_ n2_ n3_; clear hg hw hp_)); try go_wp2_with (first | ((with_reducible refine gate_store (t := 3) (p := 74) rfl ?_); (try (rw [drewN_self wr]; generalize hq_ : World.drewN wr _ = wr; have n0_ := Aside0.mk (Kd.R_at hq_ HO_7.out); have n1_ := Aside0.mk (Kd.R_at hq_ HO_10.out); have n2_ := Aside0.mk (Kd.R_at hq_ HO_11.out); have n3_ := Aside0.mk (below_at hq_ HB.out); clear hq_ HO_7 HO_10 HO_11 HB; have HO_7 := n0_; have HO_10 := n1_; have HO_11 := n2_; have HB := n3_; clear n0_ n1_ n2_ n3_; (try (obtain ⟨hx29_0, hf29_0⟩ := Kd.R_celln 0 HO_11.out ((rd x7_2 x12_2) : Int) (of_eq_true p29) (of_eq_true q29))); (try (have HP33 := Kd.R_putg HO_11.out ((rd x7_2 x12_2) : Int) (wrap64 ((rd x11_2 (rd x7_2 x12_2)) - 1)))))); refine store_event (t := 3) (p := 74) (v := ?vo_w34) (w1 := (wr.setCell ⟨go29, ((rd x7_2 x12_2) : Int).toNat, none⟩ (.int .i64 (wrap64 ((rd x11_2 (rd x7_2 x12_2)) - 1))))) ?hg ?ho ?hn ?hr ?_; (case ho => rfl); (case hg => rfl); (case hn => rfl); (case hr => first | (go_simp; done) | (go_simp; rfl)); intro w34 hw; have hg : wr.grownBy w34 (some go29) := (by rw [hw]; exact HP33.2); have hp_ : Kd.R (Kd.int .i64) 3 w34 w.heap.size (fun k_ => some k_ ≠ (.slice (some ad115) x7_2.length co8 : Value).ownBlock ∧ some k_ ≠ (.slice (some ad117) t109.length co32 : Value).ownBlock) (.slice (some ⟨go29, 0, none⟩) x11_2.length co31) y119 := (by rw [hw, Ny119.out]; exact HP33.1); clear HP33; have n0_ := Aside0.mk (Kd.R_after (v := (.slice (some ⟨go29, 0, none⟩) x11_2.length co31)) (v1 := (.slice (some ⟨go29, 0, none⟩) x11_2.length co31)) (ok := (fun k_ => some k_ ≠ (.slice (some ad117) t109.length co32 : Value).ownBlock)) (by (with_reducible repeat (first | apply Kd.R_alloc | apply Kd.R_drewN | apply Kd.R_drew)); exact HO_7.out) hg (.inl rfl)); have n1_ := Aside0.mk (Kd.R_after (v := (.slice (some ⟨go29, 0, none⟩) x11_2.length co31)) (v1 := (.slice (some ⟨go29, 0, none⟩) x11_2.length co31)) (ok := (fun k_ => some k_ ≠ (.slice (some ad115) x7_2.length co8 : Value).ownBlock)) (by (with_reducible repeat (first | apply Kd.R_alloc | apply Kd.R_drewN | apply Kd.R_drew)); exact HO_10.out) hg (.inl rfl)); have n2_ := Aside0.mk (hp_); have n3_ := Aside0.mk ((by rw [hw]; exact below_set (HB.out) GB29.out : Below w.heap.size w w34)); clear HO_7; clear HO_10; clear HO_11; clear HB; have HO_7 := n0_; have HO_10 := n1_; have HO_11 := n2_; have HB := n3_; clear n0_ n1_ n2_ n3_; clear hg hw hp_; have p30 : 0 ≤ (x12_2 : Int) := of_decide_eq_true (by assumption); have q30 : (x12_2 : Int) < ((x7_2.length : Int) : Int) := of_decide_eq_true (by assumption); obtain ⟨go30, co30, eo30, gb30, gl30, cl30, HG30⟩ := Kd.R_form HO_7.out (by omega); (first | cases eo30 | (injection eo30 with ea_ en_ ec_; (first | subst ea_ | (injection ea_ with ea_; subst ea_)); subst ec_; clear en_)); have GB30 := Aside0.mk gb30; have GG30 := Aside0.mk HG30; clear gb30 gl30 HG30; (first | simp only [add_plain] at hx115_0 | skip); obtain ⟨hx30_0, hf30_0⟩ := Kd.R_celln 0 HO_7.out (x12_2 : Int) p30 q30; replace p30 := eq_true p30; replace q30 := eq_true q30; obtain ⟨hy35_, hz35_⟩ := Kd.R_celln 0 HO_7.out (x12_2 : Int) (of_decide_eq_true (by assumption)) (of_decide_eq_true (by assumption)); have HP35 := Kd.R_putg HO_7.out (x12_2 : Int) (-1)) | ((with_reducible refine gate_store (t := 3) (p := 77) rfl ?_); (try (rw [drewN_self w34]; generalize hq_ : World.drewN w34 _ = w34; have n0_ := Aside0.mk (Kd.R_at hq_ HO_7.out); have n1_ := Aside0.mk (Kd.R_at hq_ HO_10.out); have n2_ := Aside0.mk (Kd.R_at hq_ HO_11.out); have n3_ := Aside0.mk (below_at hq_ HB.out); clear hq_ HO_7 HO_10 HO_11 HB; have HO_7 := n0_; have HO_10 := n1_; have HO_11 := n2_; have HB := n3_; clear n0_ n1_ n2_ n3_; (try (obtain ⟨hy35_, hz35_⟩ := Kd.R_celln 0 HO_7.out (x12_2 : Int) (of_decide_eq_true (by assumption)) (of_decide_eq_true (by assumption)))); (try (have HP35 := Kd.R_putg HO_7.out (x12_2 : Int) (-1))))); refine store_event (t := 3) (p := 77) (v := ?vo_w36) (w1 := (w34.setCell ⟨go30, (x12_2 : Int).toNat, none⟩ (.int .i64 (-1)))) ?hg ?ho ?hn ?hr ?_; (case ho => rfl); (case hg => rfl); (case hn => rfl); (case hr => first | (go_simp; done) | (go_simp; rfl)); intro w36 hw; have hg : w34.grownBy w36 (some go30) := (by rw [hw]; exact HP35.2); have hp_ : Kd.R (Kd.int .i64) 3 w36 w.heap.size (fun k_ => some k_ ≠ (.slice (some ad117) t109.length co32 : Value).ownBlock ∧ some k_ ≠ (.slice (some ⟨go29, 0, none⟩) x11_2.length co31 : Value).ownBlock) (.slice (some ⟨go30, 0, none⟩) x7_2.length co8) y120 := (by rw [hw, Ny120.out]; exact HP35.1); clear HP35; have n0_ := Aside0.mk (hp_); have n1_ := Aside0.mk (Kd.R_after (v := (.slice (some ⟨go30, 0, none⟩) x7_2.length co8)) (v1 := (.slice (some ⟨go30, 0, none⟩) x7_2.length co8)) (ok := (fun k_ => some k_ ≠ (.slice (some ⟨go29, 0, none⟩) x11_2.length co31 : Value).ownBlock)) (by (with_reducible repeat (first | apply Kd.R_alloc | apply Kd.R_drewN | apply Kd.R_drew)); exact Kd.R_mono HO_10.out (fun _ hk => ⟨hk.2, hk.1⟩)) hg (.inl rfl)); have n2_ := Aside0.mk (Kd.R_after (v := (.slice (some ⟨go30, 0, none⟩) x7_2.length co8)) (v1 := (.slice (some ⟨go30, 0, none⟩) x7_2.length co8)) (ok := (fun k_ => some k_ ≠ (.slice (some ad117) t109.length co32 : Value).ownBlock)) (by (with_reducible repeat (first | apply Kd.R_alloc | apply Kd.R_drewN | apply Kd.R_drew)); exact Kd.R_mono HO_11.out (fun _ hk => ⟨hk.2, hk.1⟩)) hg (.inl rfl)); have n3_ := Aside0.mk ((by rw [hw]; exact below_set (HB.out) GB30.out : Below w.heap.size w w36)); clear HO_7; clear HO_10; clear HO_11; clear HB; have HO_7 := n0_; have HO_10 := n1_; have HO_11 := n2_; have HB := n3_; clear n0_ n1_ n2_ n3_; clear hg hw hp_)))
               (try simp only [← hl7_2])
               go_roundg k2
               case measure => have := HK1.out; have := HK2.out; omega
               case rel => exact ⟨(y120), (y119), (wrap64 (x12_2 - 1)), (by first | rfl | (simp; done) | (simp [*]; done)), H', ⟨by have := HK1.out; have := HK2.out; omega⟩, ⟨by (try simp only [hl7_1]); (try simp only [hl7_2]); (with_reducible repeat (first | apply Kd.R_alloc | apply Kd.R_drewN | apply Kd.R_drew)); exact HO_7.out⟩, ⟨by (try simp only [hl7_1]); (try simp only [hl7_2]); (with_reducible repeat (first | apply Kd.R_alloc | apply Kd.R_drewN | apply Kd.R_drew)); exact Kd.R_mono HO_10.out (fun _ hk => ⟨hk.2, hk.1⟩)⟩, ⟨by (try simp only [hl7_1]); (try simp only [hl7_2]); (with_reducible repeat (first | apply Kd.R_alloc | apply Kd.R_drewN | apply Kd.R_drew)); exact Kd.R_mono HO_11.out (fun _ hk => ⟨hk.2, hk.1⟩)⟩, ⟨by repeat (first | (with_reducible first | exact HB.out | apply below_alloc | apply pw_below_drewN | apply below_drew1) | exact HB.out)⟩⟩
              ·rw [if_neg c28] at H
               have c28b0 : decide ((rd t109 (rd x7_2 x12_2)) < (rd x11_2 (rd x7_2 x12_2))) = false := decide_eq_false c28
               clear c28
               have H' := Aside0.mk H
               clear H
               have p115 : 0 ≤ (x12_2 : Int) := of_decide_eq_true (by assumption)
               have q115 : x12_2 < (x7_2.length : Int) := of_decide_eq_true (by assumption)
               obtain ⟨ad115, e115, hx115_0⟩ := Kd.at_int (Kd.R_reads' HO_7.out).2.2 x12_2 p115 q115
               cases e115
               replace p115 := eq_true p115
               replace q115 := eq_true q115
               obtain ⟨Ao37, co37, eo37⟩ := Kd.R_slice HO_11.out
               subst eo37
               have p116 : 0 ≤ ((rd x7_2 x12_2) : Int) := of_decide_eq_true (by assumption)
               have q116 : (rd x7_2 x12_2) < (x11_2.length : Int) := of_decide_eq_true (by assumption)
               obtain ⟨ad116, e116, hx116_0⟩ := Kd.at_int (Kd.R_reads' HO_11.out).2.2 (rd x7_2 x12_2) p116 q116
               cases e116
               replace p116 := eq_true p116
               replace q116 := eq_true q116
               obtain ⟨Ao38, co38, eo38⟩ := Kd.R_slice HO_10.out
               subst eo38
               have p117 : 0 ≤ ((rd x7_2 x12_2) : Int) := of_decide_eq_true (by assumption)
               have q117 : (rd x7_2 x12_2) < (t109.length : Int) := of_decide_eq_true (by assumption)
               obtain ⟨ad117, e117, hx117_0⟩ := Kd.at_int (Kd.R_reads' HO_10.out).2.2 (rd x7_2 x12_2) p117 q117
               cases e117
               replace p117 := eq_true p117
               replace q117 := eq_true q117
               go_wp2
               repeat (go_quiet (fail); try go_wp2)
               (try simp only [← hl7_2])
               go_roundg k2
               case measure => have := HK1.out; have := HK2.out; omega
               case rel => exact ⟨(x7_2), (x11_2), (wrap64 (x12_2 - 1)), (by first | rfl | (simp; done) | (simp [*]; done)), H', ⟨by have := HK1.out; have := HK2.out; omega⟩, ⟨by (try simp only [hl7_1]); (try simp only [hl7_2]); (with_reducible repeat (first | apply Kd.R_alloc | apply Kd.R_drewN | apply Kd.R_drew)); exact HO_7.out⟩, ⟨by (try simp only [hl7_1]); (try simp only [hl7_2]); (with_reducible repeat (first | apply Kd.R_alloc | apply Kd.R_drewN | apply Kd.R_drew)); exact HO_10.out⟩, ⟨by (try simp only [hl7_1]); (try simp only [hl7_2]); (with_reducible repeat (first | apply Kd.R_alloc | apply Kd.R_drewN | apply Kd.R_drew)); exact HO_11.out⟩, ⟨by repeat (first | (with_reducible first | exact HB.out | apply below_alloc | apply pw_below_drewN | apply below_drew1) | exact HB.out)⟩⟩
             ·rw [if_neg c27] at H
              exact absurd H (by simp)
            ·rw [if_neg c26] at H
             exact absurd H (by simp)
           ·rw [if_neg c25] at H
            exact absurd H (by simp)
          ·rw [if_neg c24] at H
           have c24b0 : decide (0 ≤ (rd x7_2 x12_2)) = false := decide_eq_false c24
           clear c24
           have H' := Aside0.mk H
           clear H
           have p115 : 0 ≤ (x12_2 : Int) := of_decide_eq_true (by assumption)
           have q115 : x12_2 < (x7_2.length : Int) := of_decide_eq_true (by assumption)
           obtain ⟨ad115, e115, hx115_0⟩ := Kd.at_int (Kd.R_reads' HO_7.out).2.2 x12_2 p115 q115
           cases e115
           replace p115 := eq_true p115
           replace q115 := eq_true q115
           go_wp2
           repeat (go_quiet (fail); try go_wp2)
           (try simp only [← hl7_2])
           go_roundg k2
           case measure => have := HK1.out; have := HK2.out; omega
           case rel => exact ⟨(x7_2), (x11_2), (wrap64 (x12_2 - 1)), (by first | rfl | (simp; done) | (simp [*]; done)), H', ⟨by have := HK1.out; have := HK2.out; omega⟩, ⟨by (try simp only [hl7_1]); (try simp only [hl7_2]); (with_reducible repeat (first | apply Kd.R_alloc | apply Kd.R_drewN | apply Kd.R_drew)); exact HO_7.out⟩, ⟨by (try simp only [hl7_1]); (try simp only [hl7_2]); (with_reducible repeat (first | apply Kd.R_alloc | apply Kd.R_drewN | apply Kd.R_drew)); exact HO_10.out⟩, ⟨by (try simp only [hl7_1]); (try simp only [hl7_2]); (with_reducible repeat (first | apply Kd.R_alloc | apply Kd.R_drewN | apply Kd.R_drew)); exact HO_11.out⟩, ⟨by repeat (first | (with_reducible first | exact HB.out | apply below_alloc | apply pw_below_drewN | apply below_drew1) | exact HB.out)⟩⟩
         ·rw [if_neg c23] at H
          exact absurd H (by simp)
        ·rw [if_neg c22] at H
         exact absurd H (by simp)
       ·rw [if_neg c21] at H
        have c21b0 : decide (0 ≤ x12_2) = false := decide_eq_false c21
        clear c21
        have H' := Aside0.mk H
        clear H
        go_wp2
        repeat (go_quiet (fail); try go_wp2)
        go_loopg [80] k2 (fun kq v80 w' => ∃ (x7_3 : List Int) (x11_3 : List Int) (x80_3 : Int), v80 = .int .i64 x80_3 ∧ Aside0 (spec_l13Spread.l2 kq x7_3 t109 x11_3 (x7_2.length : Int) x80_3 = some r) ∧ Aside0 (kq ≤ k2) ∧ Aside0 (Kd.R (Kd.int .i64) 3 w' w.heap.size (fun k_ => some k_ ≠ (v110 : Value).ownBlock ∧ some k_ ≠ (v113 : Value).ownBlock) (.slice Ao8 x7_2.length co8) x7_3) ∧ Aside0 (Kd.R (Kd.int .i64) 3 w' w.heap.size (fun k_ => some k_ ≠ ((.slice Ao8 x7_2.length co8) : Value).ownBlock ∧ some k_ ≠ (v113 : Value).ownBlock) v110 t109) ∧ Aside0 (Kd.R (Kd.int .i64) 3 w' w.heap.size (fun k_ => some k_ ≠ ((.slice Ao8 x7_2.length co8) : Value).ownBlock ∧ some k_ ≠ (v110 : Value).ownBlock) v113 x11_3) ∧ Aside0 (Below w.heap.size w w'))
        case atStart => exact ⟨(x7_2), (x11_2), (0), (by first | rfl | (simp; done) | (simp [*]; done)), H', ⟨Nat.le_refl _⟩, ⟨by (try simp only [hl7_1]); (try simp only [hl7_2]); (with_reducible repeat (first | apply Kd.R_alloc | apply Kd.R_drewN | apply Kd.R_drew)); exact HO_7.out⟩, ⟨by (try simp only [hl7_1]); (try simp only [hl7_2]); (with_reducible repeat (first | apply Kd.R_alloc | apply Kd.R_drewN | apply Kd.R_drew)); exact HO_10.out⟩, ⟨by (try simp only [hl7_1]); (try simp only [hl7_2]); (with_reducible repeat (first | apply Kd.R_alloc | apply Kd.R_drewN | apply Kd.R_drew)); exact HO_11.out⟩, ⟨by repeat (first | (with_reducible first | exact HB.out | apply below_alloc | apply pw_below_drewN | apply below_drew1) | exact HB.out)⟩⟩
        case round =>
         clear H'
         try clear c4
         try clear c9
         try clear c9b0
         try clear c21
         try clear c21b0
         obtain ⟨x7_3, x11_3, x80_3, rfl, HA, HK3, HO_7, HO_10, HO_11, HB⟩ := hrel
         have hl7_3 := (Kd.R_reads' HO_7.out).1
         rw [hl7_3] at HO_7
         (try simp only [hl7_3])
         (try simp only [hl7_3] at HO_10)
         (try simp only [hl7_3] at HO_11)
         cases gk with
         | zero => exact absurd HA.out (by simp [spec_l13Spread.l2])
         | succ k3 =>
          have H := HA.out
          clear HA
          simp only [spec_l13Spread.l2] at H
          by_cases c39 : x80_3 < (x7_2.length : Int)
          ·rw [if_pos c39] at H
           have c39b0 : decide (x80_3 < (x7_2.length : Int)) = true := decide_eq_true c39
           clear c39
           try (have c39h0 := c39b0; simp only [hl7_1, hl7_2, hl7_3] at c39h0)
           by_cases c40 : 0 ≤ x80_3
           ·rw [if_pos c40] at H
            have c40b0 : decide (0 ≤ x80_3) = true := decide_eq_true c40
            clear c40
            by_cases c41 : x80_3 < (x7_3.length : Int)
            ·rw [if_pos c41] at H
             have c41b0 : decide (x80_3 < (x7_3.length : Int)) = true := decide_eq_true c41
             clear c41
             try (have c41h0 := c41b0; simp only [hl7_1, hl7_2, hl7_3] at c41h0)
             by_cases c42 : (rd x7_3 x80_3) ≥ 0
             ·rw [if_pos c42] at H
              have c42b0 : decide (0 ≤ (rd x7_3 x80_3)) = true := decide_eq_true c42
              clear c42
              have H' := Aside0.mk H
              clear H
              have p121 : 0 ≤ (x80_3 : Int) := of_decide_eq_true (by assumption)
              have q121 : x80_3 < (x7_3.length : Int) := of_decide_eq_true (by assumption)
              obtain ⟨ad121, e121, hx121_0⟩ := Kd.at_int (Kd.R_reads' HO_7.out).2.2 x80_3 p121 q121
              cases e121
              replace p121 := eq_true p121
              replace q121 := eq_true q121
              go_wp2
              repeat (go_quiet (fail); try go_wp2)
              (try simp only [← hl7_3])
              go_roundg k3
              case measure => have := HK1.out; have := HK2.out; have := HK3.out; omega
              case rel => exact ⟨(x7_3), (x11_3), (wrap64 (x80_3 + 1)), (by first | rfl | (simp; done) | (simp [*]; done)), H', ⟨by have := HK1.out; have := HK2.out; have := HK3.out; omega⟩, ⟨by (try simp only [hl7_1]); (try simp only [hl7_2]); (try simp only [hl7_3]); (with_reducible repeat (first | apply Kd.R_alloc | apply Kd.R_drewN | apply Kd.R_drew)); exact HO_7.out⟩, ⟨by (try simp only [hl7_1]); (try simp only [hl7_2]); (try simp only [hl7_3]); (with_reducible repeat (first | apply Kd.R_alloc | apply Kd.R_drewN | apply Kd.R_drew)); exact HO_10.out⟩, ⟨by (try simp only [hl7_1]); (try simp only [hl7_2]); (try simp only [hl7_3]); (with_reducible repeat (first | apply Kd.R_alloc | apply Kd.R_drewN | apply Kd.R_drew)); exact HO_11.out⟩, ⟨by repeat (first | (with_reducible first | exact HB.out | apply below_alloc | apply pw_below_drewN | apply below_drew1) | exact HB.out)⟩⟩
             ·rw [if_neg c42] at H
              have c42b0 : decide (0 ≤ (rd x7_3 x80_3)) = false := decide_eq_false c42
              clear c42
              have H' := Aside0.mk H
              clear H
              have p121 : 0 ≤ (x80_3 : Int) := of_decide_eq_true (by assumption)
              have q121 : x80_3 < (x7_3.length : Int) := of_decide_eq_true (by assumption)
              obtain ⟨ad121, e121, hx121_0⟩ := Kd.at_int (Kd.R_reads' HO_7.out).2.2 x80_3 p121 q121
              cases e121
              replace p121 := eq_true p121
              replace q121 := eq_true q121
              go_wp2
              repeat (go_quiet (fail); try go_wp2)
              go_loopg [16] k3 (fun kq v16 w' => ∃ (x16_4 : Int), v16 = .int .i64 x16_4 ∧ Aside0 (spec_l13Spread.l3 kq x7_3 t109 x11_3 x80_3 x16_4 (x7_2.length : Int) x80_3 = some r) ∧ Aside0 (kq ≤ k3) ∧ Aside0 (Kd.R (Kd.int .i64) 3 w' w.heap.size (fun k_ => some k_ ≠ (v110 : Value).ownBlock ∧ some k_ ≠ (v113 : Value).ownBlock) (.slice (some ad121) x7_3.length co8) x7_3) ∧ Aside0 (Kd.R (Kd.int .i64) 3 w' w.heap.size (fun k_ => some k_ ≠ ((.slice (some ad121) x7_3.length co8) : Value).ownBlock ∧ some k_ ≠ (v113 : Value).ownBlock) v110 t109) ∧ Aside0 (Kd.R (Kd.int .i64) 3 w' w.heap.size (fun k_ => some k_ ≠ ((.slice (some ad121) x7_3.length co8) : Value).ownBlock ∧ some k_ ≠ (v110 : Value).ownBlock) v113 x11_3) ∧ Aside0 (Below w.heap.size w w'))
              case atStart => exact ⟨(0), (by first | rfl | (simp; done) | (simp [*]; done)), H', ⟨Nat.le_refl _⟩, ⟨by (try simp only [hl7_1]); (try simp only [hl7_2]); (try simp only [hl7_3]); (with_reducible repeat (first | apply Kd.R_alloc | apply Kd.R_drewN | apply Kd.R_drew)); exact HO_7.out⟩, ⟨by (try simp only [hl7_1]); (try simp only [hl7_2]); (try simp only [hl7_3]); (with_reducible repeat (first | apply Kd.R_alloc | apply Kd.R_drewN | apply Kd.R_drew)); exact HO_10.out⟩, ⟨by (try simp only [hl7_1]); (try simp only [hl7_2]); (try simp only [hl7_3]); (with_reducible repeat (first | apply Kd.R_alloc | apply Kd.R_drewN | apply Kd.R_drew)); exact HO_11.out⟩, ⟨by repeat (first | (with_reducible first | exact HB.out | apply below_alloc | apply pw_below_drewN | apply below_drew1) | exact HB.out)⟩⟩
              case round =>
               clear H'
               try clear c4
               try clear c9
               try clear c9b0
               try clear c21
               try clear c21b0
               try clear c39
               try clear c39b0
               try clear c40
               try clear c40b0
               try clear c41
               try clear c41b0
               try clear c42
               try clear c42b0
               try clear hx121_0
               try clear p121
               try clear q121
               obtain ⟨x16_4, rfl, HA, HK4, HO_7, HO_10, HO_11, HB⟩ := hrel
               cases gk with
               | zero => exact absurd HA.out (by simp [spec_l13Spread.l3])
               | succ k4 =>
                have H := HA.out
                clear HA
                simp only [spec_l13Spread.l3] at H
                by_cases c43 : 0 ≤ x16_4
                ·rw [if_pos c43] at H
                 have c43b0 : decide (0 ≤ x16_4) = true := decide_eq_true c43
                 clear c43
                 by_cases c44 : x16_4 < (x11_3.length : Int)
                 ·rw [if_pos c44] at H
                  have c44b0 : decide (x16_4 < (x11_3.length : Int)) = true := decide_eq_true c44
                  clear c44
                  try (have c44h0 := c44b0; simp only [hl7_1, hl7_2, hl7_3] at c44h0)
                  by_cases c45 : x16_4 < (t109.length : Int)
                  ·rw [if_pos c45] at H
                   have c45b0 : decide (x16_4 < (t109.length : Int)) = true := decide_eq_true c45
                   clear c45
                   try (have c45h0 := c45b0; simp only [hl7_1, hl7_2, hl7_3] at c45h0)
                   by_cases c46 : (rd x11_3 x16_4) ≥ (rd t109 x16_4)
                   ·rw [if_pos c46] at H
                    have c46b0 : decide ((rd t109 x16_4) ≤ (rd x11_3 x16_4)) = true := decide_eq_true c46
                    clear c46
                    have H' := Aside0.mk H
                    clear H
                    obtain ⟨Ao47, co47, eo47⟩ := Kd.R_slice HO_11.out
                    subst eo47
                    have p122 : 0 ≤ (x16_4 : Int) := of_decide_eq_true (by assumption)
                    have q122 : x16_4 < (x11_3.length : Int) := of_decide_eq_true (by assumption)
                    obtain ⟨ad122, e122, hx122_0⟩ := Kd.at_int (Kd.R_reads' HO_11.out).2.2 x16_4 p122 q122
                    cases e122
                    replace p122 := eq_true p122
                    replace q122 := eq_true q122
                    obtain ⟨Ao48, co48, eo48⟩ := Kd.R_slice HO_10.out
                    subst eo48
                    have p123 : 0 ≤ (x16_4 : Int) := of_decide_eq_true (by assumption)
                    have q123 : x16_4 < (t109.length : Int) := of_decide_eq_true (by assumption)
                    obtain ⟨ad123, e123, hx123_0⟩ := Kd.at_int (Kd.R_reads' HO_10.out).2.2 x16_4 p123 q123
                    cases e123
                    replace p123 := eq_true p123
                    replace q123 := eq_true q123
                    go_wp2
                    repeat (go_quiet (fail); try go_wp2)
                    go_roundg k4
                    case measure => have := HK1.out; have := HK2.out; have := HK3.out; have := HK4.out; omega
                    case rel => exact ⟨(wrap64 (x16_4 + 1)), (by first | rfl | (simp; done) | (simp [*]; done)), H', ⟨by have := HK1.out; have := HK2.out; have := HK3.out; have := HK4.out; omega⟩, ⟨by (try simp only [hl7_1]); (try simp only [hl7_2]); (try simp only [hl7_3]); (with_reducible repeat (first | apply Kd.R_alloc | apply Kd.R_drewN | apply Kd.R_drew)); exact HO_7.out⟩, ⟨by (try simp only [hl7_1]); (try simp only [hl7_2]); (try simp only [hl7_3]); (with_reducible repeat (first | apply Kd.R_alloc | apply Kd.R_drewN | apply Kd.R_drew)); exact HO_10.out⟩, ⟨by (try simp only [hl7_1]); (try simp only [hl7_2]); (try simp only [hl7_3]); (with_reducible repeat (first | apply Kd.R_alloc | apply Kd.R_drewN | apply Kd.R_drew)); exact HO_11.out⟩, ⟨by repeat (first | (with_reducible first | exact HB.out | apply below_alloc | apply pw_below_drewN | apply below_drew1) | exact HB.out)⟩⟩
                   ·rw [if_neg c46] at H
                    have c46b0 : decide ((rd t109 x16_4) ≤ (rd x11_3 x16_4)) = false := decide_eq_false c46
                    clear c46
                    obtain ⟨y125, hy125⟩ : ∃ y_ : List Int, y_ = (x11_3.set (x16_4 : Int).toNat (wrap64 ((rd x11_3 x16_4) + 1))) := ⟨_, rfl⟩
                    replace H : (if 0 ≤ x80_3 then (if x80_3 < (x7_3.length : Int) then (spec_l13Spread.l2 k4 (x7_3.set (x80_3 : Int).toNat x16_4) t109 y125 (x7_2.length : Int) (wrap64 (x80_3 + 1))) else (none)) else (none)) = some r := by first | (rw [hy125]; with_reducible exact H) | (have H2_ := (Option.bind_some _ _).symm.trans H; rw [hy125]; with_reducible exact H2_) | (have H2_ := (Option.bind_some _ _).symm.trans H; with_reducible exact H2_) | with_reducible exact H | (rw [hy125]; exact H) | exact H
                    have Ny125 := Aside0.mk hy125
                    clear hy125
                    by_cases c50 : 0 ≤ x80_3
                    ·rw [if_pos c50] at H
                     have c50b0 : decide (0 ≤ x80_3) = true := decide_eq_true c50
                     clear c50
                     by_cases c51 : x80_3 < (x7_3.length : Int)
                     ·rw [if_pos c51] at H
                      have c51b0 : decide (x80_3 < (x7_3.length : Int)) = true := decide_eq_true c51
                      clear c51
                      try (have c51h0 := c51b0; simp only [hl7_1, hl7_2, hl7_3] at c51h0)
                      obtain ⟨y126, hy126⟩ : ∃ y_ : List Int, y_ = (x7_3.set (x80_3 : Int).toNat x16_4) := ⟨_, rfl⟩
                      replace H : (spec_l13Spread.l2 k4 y126 t109 y125 (x7_2.length : Int) (wrap64 (x80_3 + 1))) = some r := by first | (rw [hy126]; with_reducible exact H) | (have H2_ := (Option.bind_some _ _).symm.trans H; rw [hy126]; with_reducible exact H2_) | (have H2_ := (Option.bind_some _ _).symm.trans H; with_reducible exact H2_) | with_reducible exact H | (rw [hy126]; exact H) | exact H
                      have Ny126 := Aside0.mk hy126
                      clear hy126
                      have H' := Aside0.mk H
                      clear H
                      obtain ⟨Ao53, co53, eo53⟩ := Kd.R_slice HO_11.out
                      subst eo53
                      have p122 : 0 ≤ (x16_4 : Int) := of_decide_eq_true (by assumption)
                      have q122 : x16_4 < (x11_3.length : Int) := of_decide_eq_true (by assumption)
                      obtain ⟨ad122, e122, hx122_0⟩ := Kd.at_int (Kd.R_reads' HO_11.out).2.2 x16_4 p122 q122
                      cases e122
                      replace p122 := eq_true p122
                      replace q122 := eq_true q122
                      obtain ⟨Ao54, co54, eo54⟩ := Kd.R_slice HO_10.out
                      subst eo54
                      have p123 : 0 ≤ (x16_4 : Int) := of_decide_eq_true (by assumption)
                      have q123 : x16_4 < (t109.length : Int) := of_decide_eq_true (by assumption)
                      obtain ⟨ad123, e123, hx123_0⟩ := Kd.at_int (Kd.R_reads' HO_10.out).2.2 x16_4 p123 q123
                      cases e123
                      replace p123 := eq_true p123
                      replace q123 := eq_true q123
                      have p124 : 0 ≤ (x16_4 : Int) := of_decide_eq_true (by assumption)
                      have q124 : x16_4 < (x11_3.length : Int) := of_decide_eq_true (by assumption)
                      obtain ⟨ad124, e124, hx124_0⟩ := Kd.at_int (Kd.R_reads' HO_11.out).2.2 x16_4 p124 q124
                      obtain rfl : ad122 = ad124 := (by injection e124)
                      replace p124 := eq_true p124
                      replace q124 := eq_true q124
                      have p49 : 0 ≤ (x16_4 : Int) := of_decide_eq_true (by assumption)
                      have q49 : (x16_4 : Int) < ((x11_3.length : Int) : Int) := of_decide_eq_true (by assumption)
                      obtain ⟨go49, co49, eo49, gb49, gl49, cl49, HG49⟩ := Kd.R_form HO_11.out (by omega)
                      (first | cases eo49 | (injection eo49 with ea_ en_ ec_; (first | subst ea_ | (injection ea_ with ea_; subst ea_)); subst ec_; clear en_))
                      have GB49 := Aside0.mk gb49
                      have GG49 := Aside0.mk HG49
                      clear gb49 gl49 HG49
                      (first | simp only [add_plain] at hx122_0 | skip)
                      (first | simp only [add_plain] at hx124_0 | skip)
                      obtain ⟨hx49_0, hf49_0⟩ := Kd.R_celln 0 HO_11.out (x16_4 : Int) p49 q49
                      replace p49 := eq_true p49
                      replace q49 := eq_true q49
                      have HP55 := Kd.R_putg HO_11.out (x16_4 : Int) (wrap64 ((rd x11_3 x16_4) + 1))
                      go_wp2_with (first | ((with_reducible refine gate_store (t := 3) (p := 103) rfl ?_); (try (rw [drewN_self wr]; generalize hq_ : World.drewN wr _ = wr; have n0_ := Aside0.mk (Kd.R_at hq_ HO_7.out); have n1_ := Aside0.mk (Kd.R_at hq_ HO_10.out); have n2_ := Aside0.mk (Kd.R_at hq_ HO_11.out); have n3_ := Aside0.mk (below_at hq_ HB.out); clear hq_ HO_7 HO_10 HO_11 HB; have HO_7 := n0_; have HO_10 := n1_; have HO_11 := n2_; have HB := n3_; clear n0_ n1_ n2_ n3_; (try (obtain ⟨hx49_0, hf49_0⟩ := Kd.R_celln 0 HO_11.out (x16_4 : Int) (of_eq_true p49) (of_eq_true q49))); (try (have HP55 := Kd.R_putg HO_11.out (x16_4 : Int) (wrap64 ((rd x11_3 x16_4) + 1)))))); refine store_event (t := 3) (p := 103) (v := ?vo_w56) (w1 := (wr.setCell ⟨go49, (x16_4 : Int).toNat, none⟩ (.int .i64 (wrap64 ((rd x11_3 x16_4) + 1))))) ?hg ?ho ?hn ?hr ?_; (case ho => rfl); (case hg => rfl); (case hn => rfl); (case hr => first | (go_simp; done) | (go_simp; rfl)); intro w56 hw; have hg : wr.grownBy w56 (some go49) := (by rw [hw]; exact HP55.2); have hp_ : Kd.R (Kd.int .i64) 3 w56 w.heap.size (fun k_ => some k_ ≠ (.slice (some ad121) x7_3.length co8 : Value).ownBlock ∧ some k_ ≠ (.slice (some ad123) t109.length co54 : Value).ownBlock) (.slice (some ⟨go49, 0, none⟩) x11_3.length co53) y125 := (by rw [hw, Ny125.out]; exact HP55.1); clear HP55; have n0_ := Aside0.mk (Kd.R_after (v := (.slice (some ⟨go49, 0, none⟩) x11_3.length co53)) (v1 := (.slice (some ⟨go49, 0, none⟩) x11_3.length co53)) (ok := (fun k_ => some k_ ≠ (.slice (some ad123) t109.length co54 : Value).ownBlock)) (by (with_reducible repeat (first | apply Kd.R_alloc | apply Kd.R_drewN | apply Kd.R_drew)); exact HO_7.out) hg (.inl rfl)); have n1_ := Aside0.mk (Kd.R_after (v := (.slice (some ⟨go49, 0, none⟩) x11_3.length co53)) (v1 := (.slice (some ⟨go49, 0, none⟩) x11_3.length co53)) (ok := (fun k_ => some k_ ≠ (.slice (some ad121) x7_3.length co8 : Value).ownBlock)) (by (with_reducible repeat (first | apply Kd.R_alloc | apply Kd.R_drewN | apply Kd.R_drew)); exact HO_10.out) hg (.inl rfl)); have n2_ := Aside0.mk (hp_); have n3_ := Aside0.mk ((by rw [hw]; exact below_set (HB.out) GB49.out : Below w.heap.size w w56)); clear HO_7; clear HO_10; clear HO_11; clear HB; have HO_7 := n0_; have HO_10 := n1_; have HO_11 := n2_; have HB := n3_; clear n0_ n1_ n2_ n3_; clear hg hw hp_; have p52 : 0 ≤ (x80_3 : Int) := of_decide_eq_true (by assumption); have q52 : (x80_3 : Int) < ((x7_3.length : Int) : Int) := of_decide_eq_true (by assumption); obtain ⟨go52, co52, eo52, gb52, gl52, cl52, HG52⟩ := Kd.R_form HO_7.out (by omega); (first | cases eo52 | (injection eo52 with ea_ en_ ec_; (first | subst ea_ | (injection ea_ with ea_; subst ea_)); subst ec_; clear en_)); have GB52 := Aside0.mk gb52; have GG52 := Aside0.mk HG52; clear gb52 gl52 HG52; (first | simp only [add_plain] at hx121_0 | skip); obtain ⟨hx52_0, hf52_0⟩ := Kd.R_celln 0 HO_7.out (x80_3 : Int) p52 q52; replace p52 := eq_true p52; replace q52 := eq_true q52; obtain ⟨hy57_, hz57_⟩ := Kd.R_celln 0 HO_7.out (x80_3 : Int) (of_decide_eq_true (by assumption)) (of_decide_eq_true (by assumption)); have HP57 := Kd.R_putg HO_7.out (x80_3 : Int) x16_4) | ((with_reducible refine gate_store (t := 3) (p := 107) rfl ?_); (try (rw [drewN_self w56]; generalize hq_ : World.drewN w56 _ = w56; have n0_ := Aside0.mk (Kd.R_at hq_ HO_7.out); have n1_ := Aside0.mk (Kd.R_at hq_ HO_10.out); have n2_ := Aside0.mk (Kd.R_at hq_ HO_11.out); have n3_ := Aside0.mk (below_at hq_ HB.out); clear hq_ HO_7 HO_10 HO_11 HB; have HO_7 := n0_; have HO_10 := n1_; have HO_11 := n2_; have HB := n3_; clear n0_ n1_ n2_ n3_; (try (obtain ⟨hy57_, hz57_⟩ := Kd.R_celln 0 HO_7.out (x80_3 : Int) (of_decide_eq_true (by assumption)) (of_decide_eq_true (by assumption)))); (try (have HP57 := Kd.R_putg HO_7.out (x80_3 : Int) x16_4)))); refine store_event (t := 3) (p := 107) (v := ?vo_w58) (w1 := (w56.setCell ⟨go52, (x80_3 : Int).toNat, none⟩ (.int .i64 x16_4))) ?hg ?ho ?hn ?hr ?_; (case ho => rfl); (case hg => rfl); (case hn => rfl); (case hr => first | (go_simp; done) | (go_simp; rfl)); intro w58 hw; have hg : w56.grownBy w58 (some go52) := (by rw [hw]; exact HP57.2); have hp_ : Kd.R (Kd.int .i64) 3 w58 w.heap.size (fun k_ => some k_ ≠ (.slice (some ad123) t109.length co54 : Value).ownBlock ∧ some k_ ≠ (.slice (some ⟨go49, 0, none⟩) x11_3.length co53 : Value).ownBlock) (.slice (some ⟨go52, 0, none⟩) x7_3.length co8) y126 := (by rw [hw, Ny126.out]; exact HP57.1); clear HP57; have n0_ := Aside0.mk (hp_); have n1_ := Aside0.mk (Kd.R_after (v := (.slice (some ⟨go52, 0, none⟩) x7_3.length co8)) (v1 := (.slice (some ⟨go52, 0, none⟩) x7_3.length co8)) (ok := (fun k_ => some k_ ≠ (.slice (some ⟨go49, 0, none⟩) x11_3.length co53 : Value).ownBlock)) (by (with_reducible repeat (first | apply Kd.R_alloc | apply Kd.R_drewN | apply Kd.R_drew)); exact Kd.R_mono HO_10.out (fun _ hk => ⟨hk.2, hk.1⟩)) hg (.inl rfl)); have n2_ := Aside0.mk (Kd.R_after (v := (.slice (some ⟨go52, 0, none⟩) x7_3.length co8)) (v1 := (.slice (some ⟨go52, 0, none⟩) x7_3.length co8)) (ok := (fun k_ => some k_ ≠ (.slice (some ad123) t109.length co54 : Value).ownBlock)) (by (with_reducible repeat (first | apply Kd.R_alloc | apply Kd.R_drewN | apply Kd.R_drew)); exact Kd.R_mono HO_11.out (fun _ hk => ⟨hk.2, hk.1⟩)) hg (.inl rfl)); have n3_ := Aside0.mk ((by rw [hw]; exact below_set (HB.out) GB52.out : Below w.heap.size w w58)); clear HO_7; clear HO_10; clear HO_11; clear HB; have HO_7 := n0_; have HO_10 := n1_; have HO_11 := n2_; have HB := n3_; clear n0_ n1_ n2_ n3_; clear hg hw hp_))
                      repeat (go_quiet (first | ((with_reducible refine gate_store (t := 3) (p := 103) rfl ?_); (try (rw [drewN_self wr]; generalize hq_ : World.drewN wr _ = wr; have n0_ := Aside0.mk (Kd.R_at hq_ HO_7.out); have n1_ := Aside0.mk (Kd.R_at hq_ HO_10.out); have n2_ := Aside0.mk (Kd.R_at hq_ HO_11.out); have n3_ := Aside0.mk (below_at hq_ HB.out); clear hq_ HO_7 HO_10 HO_11 HB; have HO_7 := n0_; have HO_10 := n1_; have HO_11 := n2_; have HB := n3_; clear n0_ n1_ n2_ n3_; (try (obtain ⟨hx49_0, hf49_0⟩ := Kd.R_celln 0 HO_11.out (x16_4 : Int) (of_eq_true p49) (of_eq_true q49))); (try (have HP55 := Kd.R_putg HO_11.out (x16_4 : Int) (wrap64 ((rd x11_3 x16_4) + 1)))))); refine store_event (t := 3) (p := 103) (v := ?vo_w56) (w1 := (wr.setCell ⟨go49, (x16_4 : Int).toNat, none⟩ (.int .i64 (wrap64 ((rd x11_3 x16_4) + 1))))) ?hg ?ho ?hn ?hr ?_; (case ho => rfl); (case hg => rfl); (case hn => rfl); (case hr => first | (go_simp; done) | (go_simp; rfl)); intro w56 hw; have hg : wr.grownBy w56 (some go49) := (by rw [hw]; exact HP55.2); have hp_ : Kd.R (Kd.int .i64) 3 w56 w.heap.size (fun k_ => some k_ ≠ (.slice (some ad121) x7_3.length co8 : Value).ownBlock ∧ some k_ ≠ (.slice (some ad123) t109.length co54 : Value).ownBlock) (.slice (some ⟨go49, 0, none⟩) x11_3.length co53) y125 := (by rw [hw, Ny125.out]; exact HP55.1); clear HP55; have n0_ := Aside0.mk (Kd.R_after (v := (.slice (some ⟨go49, 0, none⟩) x11_3.length co53)) (v1 := (.slice (some ⟨go49, 0, none⟩) x11_3.length co53)) (ok := (fun k_ => some k_ ≠ (.slice (some ad123) t109.length co54 : Value).ownBlock)) (by (with_reducible repeat (first | apply Kd.R_alloc | apply Kd.R_drewN | apply Kd.R_drew)); exact HO_7.out) hg (.inl rfl)); have n1_ := Aside0.mk (Kd.R_after (v := (.slice (some ⟨go49, 0, none⟩) x11_3.length co53)) (v1 := (.slice (some ⟨go49, 0, none⟩) x11_3.length co53)) (ok := (fun k_ => some k_ ≠ (.slice (some ad121) x7_3.length co8 : Value).ownBlock)) (by (with_reducible repeat (first | apply Kd.R_alloc | apply Kd.R_drewN | apply Kd.R_drew)); exact HO_10.out) hg (.inl rfl)); have n2_ := Aside0.mk (hp_); have n3_ := Aside0.mk ((by rw [hw]; exact below_set (HB.out) GB49.out : Below w.heap.size w w56)); clear HO_7; clear HO_10; clear HO_11; clear HB; have HO_7 := n0_; have HO_10 := n1_; have HO_11 := n2_; have HB := n3_; clear n0_ n1_ n2_ n3_; clear hg hw hp_; have p52 : 0 ≤ (x80_3 : Int) := of_decide_eq_true (by assumption); have q52 : (x80_3 : Int) < ((x7_3.length : Int) : Int) := of_decide_eq_true (by assumption); obtain ⟨go52, co52, eo52, gb52, gl52, cl52, HG52⟩ := Kd.R_form HO_7.out (by omega); (first | cases eo52 | (injection eo52 with ea_ en_ ec_; (first | subst ea_ | (injection ea_ with ea_; subst ea_)); subst ec_; clear en_)); have GB52 := Aside0.mk gb52; have GG52 := Aside0.mk HG52; clear gb52 gl52 HG52; (first | simp only [add_plain] at hx121_0 | skip); obtain ⟨hx52_0, hf52_0⟩ := Kd.R_celln 0 HO_7.out (x80_3 : Int) p52 q52; replace p52 := eq_true p52; replace q52 := eq_true q52; obtain ⟨hy57_, hz57_⟩ := Kd.R_celln 0 HO_7.out (x80_3 : Int) (of_decide_eq_true (by assumption)) (of_decide_eq_true (by assumption)); have HP57 := Kd.R_putg HO_7.out (x80_3 : Int) x16_4) | ((with_reducible refine gate_store (t := 3) (p := 107) rfl ?_); (try (rw [drewN_self w56]; generalize hq_ : World.drewN w56 _ = w56; have n0_ := Aside0.mk (Kd.R_at hq_ HO_7.out); have n1_ := Aside0.mk (Kd.R_at hq_ HO_10.out); have n2_ := Aside0.mk (Kd.R_at hq_ HO_11.out); have n3_ := Aside0.mk (below_at hq_ HB.out); clear hq_ HO_7 HO_10 HO_11 HB; have HO_7 := n0_; have HO_10 := n1_; have HO_11 := n2_; have HB := n3_; clear n0_ n1_ n2_ n3_; (try (obtain ⟨hy57_, hz57_⟩ := Kd.R_celln 0 HO_7.out (x80_3 : Int) (of_decide_eq_true (by assumption)) (of_decide_eq_true (by assumption)))); (try (have HP57 := Kd.R_putg HO_7.out (x80_3 : Int) x16_4)))); refine store_event (t := 3) (p := 107) (v := ?vo_w58) (w1 := (w56.setCell ⟨go52, (x80_3 : Int).toNat, none⟩ (.int .i64 x16_4))) ?hg ?ho ?hn ?hr ?_; (case ho => rfl); (case hg => rfl); (case hn => rfl); (case hr => first | (go_simp; done) | (go_simp; rfl)); intro w58 hw; have hg : w56.grownBy w58 (some go52) := (by rw [hw]; exact HP57.2); have hp_ : Kd.R (Kd.int .i64) 3 w58 w.heap.size (fun k_ => some k_ ≠ (.slice (some ad123) t109.length co54 : Value).ownBlock ∧ some k_ ≠ (.slice (some ⟨go49, 0, none⟩) x11_3.length co53 : Value).ownBlock) (.slice (some ⟨go52, 0, none⟩) x7_3.length co8) y126 := (by rw [hw, Ny126.out]; exact HP57.1); clear HP57; have n0_ := Aside0.mk (hp_); have n1_ := Aside0.mk (Kd.R_after (v := (.slice (some ⟨go52, 0, none⟩) x7_3.length co8)) (v1 := (.slice (some ⟨go52, 0, none⟩) x7_3.length co8)) (ok := (fun k_ => some k_ ≠ (.slice (some ⟨go49, 0, none⟩) x11_3.length co53 : Value).ownBlock)) (by (with_reducible repeat (first | apply Kd.R_alloc | apply Kd.R_drewN | apply Kd.R_drew)); exact Kd.R_mono HO_10.out (fun _ hk => ⟨hk.2, hk.1⟩)) hg (.inl rfl)); have n2_ := Aside0.mk (Kd.R_after (v := (.slice (some ⟨go52, 0, none⟩) x7_3.length co8)) (v1 := (.slice (some ⟨go52, 0, none⟩) x7_3.length co8)) (ok := (fun k_ => some k_ ≠ (.slice (some ad123) t109.length co54 : Value).ownBlock)) (by (with_reducible repeat (first | apply Kd.R_alloc | apply Kd.R_drewN | apply Kd.R_drew)); exact Kd.R_mono HO_11.out (fun _ hk => ⟨hk.2, hk.1⟩)) hg (.inl rfl)); have n3_ := Aside0.mk ((by rw [hw]; exact below_set (HB.out) GB52.out : Below w.heap.size w w58)); clear HO_7; clear HO_10; clear HO_11; clear HB; have HO_7 := n0_; have HO_10 := n1_; have HO_11 := n2_; have HB := n3_; clear n0_ n1_ n2_ n3_; clear hg hw hp_)); try go_wp2_with (first | ((with_reducible refine gate_store (t := 3) (p := 103) rfl ?_); (try (rw [drewN_self wr]; generalize hq_ : World.drewN wr _ = wr; have n0_ := Aside0.mk (Kd.R_at hq_ HO_7.out); have n1_ := Aside0.mk (Kd.R_at hq_ HO_10.out); have n2_ := Aside0.mk (Kd.R_at hq_ HO_11.out); have n3_ := Aside0.mk (below_at hq_ HB.out); clear hq_ HO_7 HO_10 HO_11 HB; have HO_7 := n0_; have HO_10 := n1_; have HO_11 := n2_; have HB := n3_; clear n0_ n1_ n2_ n3_; (try (obtain ⟨hx49_0, hf49_0⟩ := Kd.R_celln 0 HO_11.out (x16_4 : Int) (of_eq_true p49) (of_eq_true q49))); (try (have HP55 := Kd.R_putg HO_11.out (x16_4 : Int) (wrap64 ((rd x11_3 x16_4) + 1)))))); refine store_event (t := 3) (p := 103) (v := ?vo_w56) (w1 := (wr.setCell ⟨go49, (x16_4 : Int).toNat, none⟩ (.int .i64 (wrap64 ((rd x11_3 x16_4) + 1))))) ?hg ?ho ?hn ?hr ?_; (case ho => rfl); (case hg => rfl); (case hn => rfl); (case hr => first | (go_simp; done) | (go_simp; rfl)); intro w56 hw; have hg : wr.grownBy w56 (some go49) := (by rw [hw]; exact HP55.2); have hp_ : Kd.R (Kd.int .i64) 3 w56 w.heap.size (fun k_ => some k_ ≠ (.slice (some ad121) x7_3.length co8 : Value).ownBlock ∧ some k_ ≠ (.slice (some ad123) t109.length co54 : Value).ownBlock) (.slice (some ⟨go49, 0, none⟩) x11_3.length co53) y125 := (by rw [hw, Ny125.out]; exact HP55.1); clear HP55; have n0_ := Aside0.mk (Kd.R_after (v := (.slice (some ⟨go49, 0, none⟩) x11_3.length co53)) (v1 := (.slice (some ⟨go49, 0, none⟩) x11_3.length co53)) (ok := (fun k_ => some k_ ≠ (.slice (some ad123) t109.length co54 : Value).ownBlock)) (by (with_reducible repeat (first | apply Kd.R_alloc | apply Kd.R_drewN | apply Kd.R_drew)); exact HO_7.out) hg (.inl rfl)); have n1_ := Aside0.mk (Kd.R_after (v := (.slice (some ⟨go49, 0, none⟩) x11_3.length co53)) (v1 := (.slice (some ⟨go49, 0, none⟩) x11_3.length co53)) (ok := (fun k_ => some k_ ≠ (.slice (some ad121) x7_3.length co8 : Value).ownBlock)) (by (with_reducible repeat (first | apply Kd.R_alloc | apply Kd.R_drewN | apply Kd.R_drew)); exact HO_10.out) hg (.inl rfl)); have n2_ := Aside0.mk (hp_); have n3_ := Aside0.mk ((by rw [hw]; exact below_set (HB.out) GB49.out : Below w.heap.size w w56)); clear HO_7; clear HO_10; clear HO_11; clear HB; have HO_7 := n0_; have HO_10 := n1_; have HO_11 := n2_; have HB := n3_; clear n0_ n1_ n2_ n3_; clear hg hw hp_; have p52 : 0 ≤ (x80_3 : Int) := of_decide_eq_true (by assumption); have q52 : (x80_3 : Int) < ((x7_3.length : Int) : Int) := of_decide_eq_true (by assumption); obtain ⟨go52, co52, eo52, gb52, gl52, cl52, HG52⟩ := Kd.R_form HO_7.out (by omega); (first | cases eo52 | (injection eo52 with ea_ en_ ec_; (first | subst ea_ | (injection ea_ with ea_; subst ea_)); subst ec_; clear en_)); have GB52 := Aside0.mk gb52; have GG52 := Aside0.mk HG52; clear gb52 gl52 HG52; (first | simp only [add_plain] at hx121_0 | skip); obtain ⟨hx52_0, hf52_0⟩ := Kd.R_celln 0 HO_7.out (x80_3 : Int) p52 q52; replace p52 := eq_true p52; replace q52 := eq_true q52; obtain ⟨hy57_, hz57_⟩ := Kd.R_celln 0 HO_7.out (x80_3 : Int) (of_decide_eq_true (by assumption)) (of_decide_eq_true (by assumption)); have HP57 := Kd.R_putg HO_7.out (x80_3 : Int) x16_4) | ((with_reducible refine gate_store (t := 3) (p := 107) rfl ?_); (try (rw [drewN_self w56]; generalize hq_ : World.drewN w56 _ = w56; have n0_ := Aside0.mk (Kd.R_at hq_ HO_7.out); have n1_ := Aside0.mk (Kd.R_at hq_ HO_10.out); have n2_ := Aside0.mk (Kd.R_at hq_ HO_11.out); have n3_ := Aside0.mk (below_at hq_ HB.out); clear hq_ HO_7 HO_10 HO_11 HB; have HO_7 := n0_; have HO_10 := n1_; have HO_11 := n2_; have HB := n3_; clear n0_ n1_ n2_ n3_; (try (obtain ⟨hy57_, hz57_⟩ := Kd.R_celln 0 HO_7.out (x80_3 : Int) (of_decide_eq_true (by assumption)) (of_decide_eq_true (by assumption)))); (try (have HP57 := Kd.R_putg HO_7.out (x80_3 : Int) x16_4)))); refine store_event (t := 3) (p := 107) (v := ?vo_w58) (w1 := (w56.setCell ⟨go52, (x80_3 : Int).toNat, none⟩ (.int .i64 x16_4))) ?hg ?ho ?hn ?hr ?_; (case ho => rfl); (case hg => rfl); (case hn => rfl); (case hr => first | (go_simp; done) | (go_simp; rfl)); intro w58 hw; have hg : w56.grownBy w58 (some go52) := (by rw [hw]; exact HP57.2); have hp_ : Kd.R (Kd.int .i64) 3 w58 w.heap.size (fun k_ => some k_ ≠ (.slice (some ad123) t109.length co54 : Value).ownBlock ∧ some k_ ≠ (.slice (some ⟨go49, 0, none⟩) x11_3.length co53 : Value).ownBlock) (.slice (some ⟨go52, 0, none⟩) x7_3.length co8) y126 := (by rw [hw, Ny126.out]; exact HP57.1); clear HP57; have n0_ := Aside0.mk (hp_); have n1_ := Aside0.mk (Kd.R_after (v := (.slice (some ⟨go52, 0, none⟩) x7_3.length co8)) (v1 := (.slice (some ⟨go52, 0, none⟩) x7_3.length co8)) (ok := (fun k_ => some k_ ≠ (.slice (some ⟨go49, 0, none⟩) x11_3.length co53 : Value).ownBlock)) (by (with_reducible repeat (first | apply Kd.R_alloc | apply Kd.R_drewN | apply Kd.R_drew)); exact Kd.R_mono HO_10.out (fun _ hk => ⟨hk.2, hk.1⟩)) hg (.inl rfl)); have n2_ := Aside0.mk (Kd.R_after (v := (.slice (some ⟨go52, 0, none⟩) x7_3.length co8)) (v1 := (.slice (some ⟨go52, 0, none⟩) x7_3.length co8)) (ok := (fun k_ => some k_ ≠ (.slice (some ad123) t109.length co54 : Value).ownBlock)) (by (with_reducible repeat (first | apply Kd.R_alloc | apply Kd.R_drewN | apply Kd.R_drew)); exact Kd.R_mono HO_11.out (fun _ hk => ⟨hk.2, hk.1⟩)) hg (.inl rfl)); have n3_ := Aside0.mk ((by rw [hw]; exact below_set (HB.out) GB52.out : Below w.heap.size w w58)); clear HO_7; clear HO_10; clear HO_11; clear HB; have HO_7 := n0_; have HO_10 := n1_; have HO_11 := n2_; have HB := n3_; clear n0_ n1_ n2_ n3_; clear hg hw hp_)))
                      (try simp only [← hl7_3])
                      go_roundg k4
                      case measure => have := HK1.out; have := HK2.out; have := HK3.out; have := HK4.out; omega
                      case rel => exact ⟨(y126), (y125), (wrap64 (x80_3 + 1)), (by first | rfl | (simp; done) | (simp [*]; done)), H', ⟨by have := HK1.out; have := HK2.out; have := HK3.out; have := HK4.out; omega⟩, ⟨by (try simp only [hl7_1]); (try simp only [hl7_2]); (try simp only [hl7_3]); (with_reducible repeat (first | apply Kd.R_alloc | apply Kd.R_drewN | apply Kd.R_drew)); exact HO_7.out⟩, ⟨by (try simp only [hl7_1]); (try simp only [hl7_2]); (try simp only [hl7_3]); (with_reducible repeat (first | apply Kd.R_alloc | apply Kd.R_drewN | apply Kd.R_drew)); exact Kd.R_mono HO_10.out (fun _ hk => ⟨hk.2, hk.1⟩)⟩, ⟨by (try simp only [hl7_1]); (try simp only [hl7_2]); (try simp only [hl7_3]); (with_reducible repeat (first | apply Kd.R_alloc | apply Kd.R_drewN | apply Kd.R_drew)); exact Kd.R_mono HO_11.out (fun _ hk => ⟨hk.2, hk.1⟩)⟩, ⟨by repeat (first | (with_reducible first | exact HB.out | apply below_alloc | apply pw_below_drewN | apply below_drew1) | exact HB.out)⟩⟩
                     ·rw [if_neg c51] at H
                      exact absurd H (by simp)
                    ·rw [if_neg c50] at H
                     exact absurd H (by simp)
                  ·rw [if_neg c45] at H
                   exact absurd H (by simp)
                 ·rw [if_neg c44] at H
                  exact absurd H (by simp)
                ·rw [if_neg c43] at H
                 exact absurd H (by simp)
            ·rw [if_neg c41] at H
             exact absurd H (by simp)
           ·rw [if_neg c40] at H
            exact absurd H (by simp)
          ·rw [if_neg c39] at H
           have c39b0 : decide (x80_3 < (x7_2.length : Int)) = false := decide_eq_false c39
           clear c39
           try (have c39h0 := c39b0; simp only [hl7_1, hl7_2, hl7_3] at c39h0)
           obtain rfl := Option.some.inj H
           go_wp2
           repeat (go_quiet (fail); try go_wp2)
           go_ret
           exact ⟨_, by first | rfl | (simp [errW_none, errW_some] <;> rfl) | (simp [*, errW_none, errW_some] <;> rfl), by (with_reducible repeat (first | apply Kd.R_alloc | apply Kd.R_drewN | apply Kd.R_drew)); exact Kd.R_mono HO_7.out (fun _ hk => trivial), by repeat (first | (with_reducible first | exact HB.out | apply below_alloc | apply pw_below_drewN | apply below_drew1) | exact HB.out)⟩
 ·rw [if_neg c4] at H
  exact absurd H (by simp)
end Go.Proofs.Ytgcliajajcinpaa.P
end
