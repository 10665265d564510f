-- Written by programs of this session (wip/prune.py, wip/xp.py), out of the translation and the printed words; what the law does not reach is left out. Not trusted: Lean checks it.
import Derived.Test.YtmkiffemanmgcaaZXLeadsInPx0
section
namespace Go.Proofs.Ytmkiffemanmgcaa.P
open Go.RowKit Go.Proofs.YtmkiffemanmgcaaW.PrintWords Go.Proofs.YtmkiffemanmgcaaW.PrintLast Go.Proofs.YtmkiffemanmgcaaW.PrintMore
attribute [local go_sem] max2_int min2_int max_two min_two max_three min_three max_four min_four   -- for this text's walks alone
set_option linter.unusedVariables false
set_option linter.unusedSimpArgs false
def impl_in.f (a0 : Int) (a1 : Int) (a2 : Int) : Option (Bool) := if a0 ≥ a1 then (some (decide (a0 ≤ a2))) else (some false)
set_option maxHeartbeats 8000000 in
set_option maxRecDepth 100000 in
theorem impl_in.calls (a0 : Int) (a1 : Int) (a2 : Int) (r : Bool) (w : World) (h : impl_in.f a0 a1 a2 = some r) :
    Calls Try.prog 44 #[.int .i64 a0, .int .i64 a1, .int .i64 a2] w fun e w' => e = .returned (.bool r) ∧ Drawn0 w w' := by
  have H : (if a0 ≥ a1 then (some (decide (a0 ≤ a2))) else (some false)) = some r := h
  clear h
  by_cases c4 : a0 ≥ a1
  · rw [if_pos c4] at H
    have c4b0 : decide (a1 ≤ a0) = true := decide_eq_true c4
    clear c4
    obtain rfl := Option.some.inj H
    go_enter Try.func44, Try.ntmps44
    go_wp2
    go_ret
    exact ⟨by first | rfl | (simp; done) | (simp [*]; done), by repeat (first | exact Drawn0.refl _ | apply Drawn0.step)⟩
  · rw [if_neg c4] at H
    have c4b0 : decide (a1 ≤ a0) = false := decide_eq_false c4
    clear c4
    obtain rfl := Option.some.inj H
    go_enter Try.func44, Try.ntmps44
    go_wp2
    go_ret
    exact ⟨by first | rfl | (simp; done) | (simp [*]; done), by repeat (first | exact Drawn0.refl _ | apply Drawn0.step)⟩
def impl_areMembers.l0 : Nat → List Int → Int → List Int → Int → Int → Option (Bool)
  | 0, _, _, _, _, _ => none
  | k + 1, x0, x1, x7, x8, x9 => if x9 < x8 then (if 0 ≤ x9 then (if x9 < (x7.length : Int) then ((impl_in.f (rd x7 x9) 0 (wrap64 (x1 - 1))).bind fun t102 => (if t102 = true then (if x9 > 0 then (if 0 ≤ (wrap64 (x9 - 1)) then (if (wrap64 (x9 - 1)) < (x0.length : Int) then (if (rd x0 (wrap64 (x9 - 1))) ≥ (rd x7 x9) then (some false) else (impl_areMembers.l0 k x0 x1 x7 x8 (wrap64 (x9 + 1)))) else (none)) else (none)) else (impl_areMembers.l0 k x0 x1 x7 x8 (wrap64 (x9 + 1)))) else (some false))) else (none)) else (none)) else (some true)
def impl_areMembers.f (k : Nat) (l0 : List Int) (a1 : Int) : Option (Bool) := impl_areMembers.l0 k l0 a1 l0 (l0.length : Int) 0
set_option maxHeartbeats 8000000 in
set_option maxRecDepth 100000 in
theorem impl_areMembers.calls (k : Nat) (A0 : Option Addr) (c0 : Nat) (l0 : List Int) (a1 : Int) (r : Bool) (w : World) (hr0 : Kd.C (Kd.int .i64) w A0 l0.length l0) (hc0 : l0.length ≤ c0) (h : impl_areMembers.f k l0 a1 = some r) :
    Calls Try.prog 92 #[.slice A0 l0.length c0, .int .i64 a1] w fun e w' => e = .returned (.bool r) ∧ Drawn0 w w' := by
  have HR0 := Aside0.mk hr0
  have HC0 := Aside0.mk hc0
  clear hr0 hc0
  have H : (impl_areMembers.l0 k l0 a1 l0 (l0.length : Int) 0) = some r := h
  clear h
  have H' := Aside0.mk H
  clear H
  go_enter Try.func92, Try.ntmps92
  go_wp2
  go_loopg [9] k (fun kq v9 w' => ∃ (x9_1 : Int), v9 = .int .i64 x9_1 ∧ Aside0 (impl_areMembers.l0 kq l0 a1 l0 (l0.length : Int) x9_1 = some r) ∧ Aside0 (kq ≤ k) ∧ Drawn0 w w')
  case atStart => exact ⟨(0), (by first | rfl | (simp; done) | (simp [*]; done)), H', ⟨Nat.le_refl _⟩, by repeat (first | exact Drawn0.refl _ | apply Drawn0.step)⟩
  case round =>
    clear H'
    try clear p2
    obtain ⟨x9_1, rfl, HA, HK1, ⟨m1, rfl⟩⟩ := hrel
    cases gk with
    | zero => exact absurd HA.out (by simp [impl_areMembers.l0])
    | succ k1 =>
      have H := HA.out
      clear HA
      simp only [impl_areMembers.l0] at H
      by_cases c3 : x9_1 < (l0.length : Int)
      · rw [if_pos c3] at H
        have c3b0 : decide (x9_1 < (l0.length : Int)) = true := decide_eq_true c3
        clear c3
        by_cases c4 : 0 ≤ x9_1
        · rw [if_pos c4] at H
          have c4b0 : decide (0 ≤ x9_1) = true := decide_eq_true c4
          clear c4
          by_cases c5 : x9_1 < (l0.length : Int)
          · rw [if_pos c5] at H
            have c5b0 : decide (x9_1 < (l0.length : Int)) = true := decide_eq_true c5
            clear c5
            replace H := Option.bind_eq_some_iff.mp H
            obtain ⟨t102, A60, H⟩ := H
            replace H : (if t102 = true then (if x9_1 > 0 then (if 0 ≤ (wrap64 (x9_1 - 1)) then (if (wrap64 (x9_1 - 1)) < (l0.length : Int) then (if (rd l0 (wrap64 (x9_1 - 1))) ≥ (rd l0 x9_1) then (some false) else (impl_areMembers.l0 k1 l0 a1 l0 (l0.length : Int) (wrap64 (x9_1 + 1)))) else (none)) else (none)) else (impl_areMembers.l0 k1 l0 a1 l0 (l0.length : Int) (wrap64 (x9_1 + 1)))) else (some false)) = some r := H
            have A6 := Aside0.mk A60
            clear A60
            by_cases c7 : t102 = true
            · subst c7
              have H1 : (if x9_1 > 0 then (if 0 ≤ (wrap64 (x9_1 - 1)) then (if (wrap64 (x9_1 - 1)) < (l0.length : Int) then (if (rd l0 (wrap64 (x9_1 - 1))) ≥ (rd l0 x9_1) then (some false) else (impl_areMembers.l0 k1 l0 a1 l0 (l0.length : Int) (wrap64 (x9_1 + 1)))) else (none)) else (none)) else (impl_areMembers.l0 k1 l0 a1 l0 (l0.length : Int) (wrap64 (x9_1 + 1)))) = some r := by rw [if_pos rfl] at H; exact H
              clear H
              have H := H1
              clear H1
              by_cases c8 : x9_1 > 0
              · rw [if_pos c8] at H
                have c8b0 : decide (0 < x9_1) = true := decide_eq_true c8
                clear c8
                obtain ⟨ji9, hji9⟩ : ∃ j_ : Int, (wrap64 (x9_1 - 1)) = j_ := ⟨_, rfl⟩
                replace H : (if 0 ≤ (ji9) then (if (ji9) < (l0.length : Int) then (if (rd l0 (ji9)) ≥ (rd l0 x9_1) then (some false) else (impl_areMembers.l0 k1 l0 a1 l0 (l0.length : Int) (wrap64 (x9_1 + 1)))) else (none)) else (none)) = some r := by first | (rw [hji9] at H; exact H) | (simp only [hji9] at H ⊢; exact H)
                (try rw [hji9] at A6)
                have hji9w : (IntKind.i64.wrap (x9_1 - 1)) = ji9 := (i64_w _).trans hji9
                by_cases c10 : 0 ≤ (ji9)
                · rw [if_pos c10] at H
                  have c10b0 : decide (0 ≤ (ji9)) = true := decide_eq_true c10
                  clear c10
                  by_cases c11 : (ji9) < (l0.length : Int)
                  · rw [if_pos c11] at H
                    have c11b0 : decide ((ji9) < (l0.length : Int)) = true := decide_eq_true c11
                    clear c11
                    by_cases c12 : (rd l0 (ji9)) ≥ (rd l0 x9_1)
                    · rw [if_pos c12] at H
                      have c12b0 : decide ((rd l0 x9_1) ≤ (rd l0 (ji9))) = true := decide_eq_true c12
                      clear c12
                      obtain rfl := Option.some.inj H
                      have p101 : 0 ≤ (x9_1 : Int) := of_decide_eq_true (by first | (with_reducible assumption) | assumption)
                      have q101 : x9_1 < (l0.length : Int) := of_decide_eq_true (by first | (with_reducible assumption) | assumption)
                      obtain ⟨ad101, e101, hx101_0⟩ := Kd.at_int HR0.out x9_1 p101 q101
                      cases e101
                      replace p101 := eq_true p101
                      replace q101 := eq_true q101
                      go_wp2_with (first | ((with_reducible refine gate_callee (f := 44) rfl ?_); refine goesL_ (some 17) rfl rfl Try.func44 (by kernel_rfl) rfl #[.int .i64 (rd l0 x9_1), .int .i64 0, .int .i64 (wrap64 (a1 - 1))] rfl (by (try simp only [List.map_toArray, List.map_cons, List.map_nil]); first | done | rfl | (simp only [List.length_drop, List.length_take]; rfl)) ?_; (with_reducible refine (impl_in.calls (rd l0 x9_1) 0 (wrap64 (a1 - 1)) true _ A6.out).mono ?_); rintro e w' ⟨rfl, ⟨nd, rfl⟩⟩; refine ⟨_, rfl, ?_⟩; have p103 : 0 ≤ ((ji9) : Int) := of_decide_eq_true (by first | (with_reducible assumption) | assumption); have q103 : (ji9) < (l0.length : Int) := of_decide_eq_true (by first | (with_reducible assumption) | assumption); obtain ⟨ad103, e103, hx103_0⟩ := Kd.at_int HR0.out (ji9) p103 q103; obtain rfl : ad101 = ad103 := (by injection e103); replace p103 := eq_true p103; replace q103 := eq_true q103))
                      go_ret
                      exact ⟨by first | rfl | (simp; done) | (simp only [← hji9] <;> (first | rfl | simp)) | (simp [*]; done), by repeat (first | exact Drawn0.refl _ | apply Drawn0.step)⟩
                    · rw [if_neg c12] at H
                      have c12b0 : decide ((rd l0 x9_1) ≤ (rd l0 (ji9))) = false := decide_eq_false c12
                      clear c12
                      have H' := Aside0.mk H
                      clear H
                      have p101 : 0 ≤ (x9_1 : Int) := of_decide_eq_true (by first | (with_reducible assumption) | assumption)
                      have q101 : x9_1 < (l0.length : Int) := of_decide_eq_true (by first | (with_reducible assumption) | assumption)
                      obtain ⟨ad101, e101, hx101_0⟩ := Kd.at_int HR0.out x9_1 p101 q101
                      cases e101
                      replace p101 := eq_true p101
                      replace q101 := eq_true q101
                      go_wp2_with (first | ((with_reducible refine gate_callee (f := 44) rfl ?_); refine goesL_ (some 17) rfl rfl Try.func44 (by kernel_rfl) rfl #[.int .i64 (rd l0 x9_1), .int .i64 0, .int .i64 (wrap64 (a1 - 1))] rfl (by (try simp only [List.map_toArray, List.map_cons, List.map_nil]); first | done | rfl | (simp only [List.length_drop, List.length_take]; rfl)) ?_; (with_reducible refine (impl_in.calls (rd l0 x9_1) 0 (wrap64 (a1 - 1)) true _ A6.out).mono ?_); rintro e w' ⟨rfl, ⟨nd, rfl⟩⟩; refine ⟨_, rfl, ?_⟩; have p103 : 0 ≤ ((ji9) : Int) := of_decide_eq_true (by first | (with_reducible assumption) | assumption); have q103 : (ji9) < (l0.length : Int) := of_decide_eq_true (by first | (with_reducible assumption) | assumption); obtain ⟨ad103, e103, hx103_0⟩ := Kd.at_int HR0.out (ji9) p103 q103; obtain rfl : ad101 = ad103 := (by injection e103); replace p103 := eq_true p103; replace q103 := eq_true q103))
                      go_roundg k1
                      case measure => have := HK1.out; omega
                      case rel => exact ⟨(wrap64 (x9_1 + 1)), (by first | rfl | (simp; done) | (simp [*]; done)), H', ⟨by have := HK1.out; omega⟩, by repeat (first | exact Drawn0.refl _ | apply Drawn0.step)⟩
                  · rw [if_neg c11] at H
                    exact absurd H (by simp)
                · rw [if_neg c10] at H
                  exact absurd H (by simp)
              · rw [if_neg c8] at H
                have c8b0 : decide (0 < x9_1) = false := decide_eq_false c8
                clear c8
                have H' := Aside0.mk H
                clear H
                have p101 : 0 ≤ (x9_1 : Int) := of_decide_eq_true (by first | (with_reducible assumption) | assumption)
                have q101 : x9_1 < (l0.length : Int) := of_decide_eq_true (by first | (with_reducible assumption) | assumption)
                obtain ⟨ad101, e101, hx101_0⟩ := Kd.at_int HR0.out x9_1 p101 q101
                cases e101
                replace p101 := eq_true p101
                replace q101 := eq_true q101
                go_wp2_with (first | ((with_reducible refine gate_callee (f := 44) rfl ?_); refine goesL_ (some 17) rfl rfl Try.func44 (by kernel_rfl) rfl #[.int .i64 (rd l0 x9_1), .int .i64 0, .int .i64 (wrap64 (a1 - 1))] rfl (by (try simp only [List.map_toArray, List.map_cons, List.map_nil]); first | done | rfl | (simp only [List.length_drop, List.length_take]; rfl)) ?_; (with_reducible refine (impl_in.calls (rd l0 x9_1) 0 (wrap64 (a1 - 1)) true _ A6.out).mono ?_); rintro e w' ⟨rfl, ⟨nd, rfl⟩⟩; refine ⟨_, rfl, ?_⟩))
                go_roundg k1
                case measure => have := HK1.out; omega
                case rel => exact ⟨(wrap64 (x9_1 + 1)), (by first | rfl | (simp; done) | (simp [*]; done)), H', ⟨by have := HK1.out; omega⟩, by repeat (first | exact Drawn0.refl _ | apply Drawn0.step)⟩
            · replace c7 := Bool.eq_false_iff.mpr c7
              subst c7
              have H1 : (some false) = some r := by rw [if_neg (show ¬ (false = true) by decide)] at H; exact H
              clear H
              have H := H1
              clear H1
              obtain rfl := Option.some.inj H
              have p101 : 0 ≤ (x9_1 : Int) := of_decide_eq_true (by first | (with_reducible assumption) | assumption)
              have q101 : x9_1 < (l0.length : Int) := of_decide_eq_true (by first | (with_reducible assumption) | assumption)
              obtain ⟨ad101, e101, hx101_0⟩ := Kd.at_int HR0.out x9_1 p101 q101
              cases e101
              replace p101 := eq_true p101
              replace q101 := eq_true q101
              go_wp2_with (first | ((with_reducible refine gate_callee (f := 44) rfl ?_); refine goesL_ (some 17) rfl rfl Try.func44 (by kernel_rfl) rfl #[.int .i64 (rd l0 x9_1), .int .i64 0, .int .i64 (wrap64 (a1 - 1))] rfl (by (try simp only [List.map_toArray, List.map_cons, List.map_nil]); first | done | rfl | (simp only [List.length_drop, List.length_take]; rfl)) ?_; (with_reducible refine (impl_in.calls (rd l0 x9_1) 0 (wrap64 (a1 - 1)) false _ A6.out).mono ?_); rintro e w' ⟨rfl, ⟨nd, rfl⟩⟩; refine ⟨_, rfl, ?_⟩))
              go_ret
              exact ⟨by first | rfl | (simp; done) | (simp [*]; done), by repeat (first | exact Drawn0.refl _ | apply Drawn0.step)⟩
          · rw [if_neg c5] at H
            exact absurd H (by simp)
        · rw [if_neg c4] at H
          exact absurd H (by simp)
      · rw [if_neg c3] at H
        have c3b0 : decide (x9_1 < (l0.length : Int)) = false := decide_eq_false c3
        clear c3
        obtain rfl := Option.some.inj H
        go_wp2
        go_ret
        exact ⟨by first | rfl | (simp; done) | (simp [*]; done), by repeat (first | exact Drawn0.refl _ | apply Drawn0.step)⟩
def slices_Index_int_int.l0 : Nat → List Int → Int → Int → Int → Option (Int)
  | 0, _, _, _, _ => none
  | k + 1, x0, x1, x7, x8 => if x8 < x7 then (if 0 ≤ x8 then (if x8 < (x0.length : Int) then (if x1 = (rd x0 x8) then (some x8) else (slices_Index_int_int.l0 k x0 x1 x7 (wrap64 (x8 + 1)))) else (none)) else (none)) else (some (-1))
def slices_Index_int_int.f (k : Nat) (l0 : List Int) (a1 : Int) : Option (Int) := slices_Index_int_int.l0 k l0 a1 (l0.length : Int) 0
set_option maxHeartbeats 8000000 in
set_option maxRecDepth 100000 in
theorem slices_Index_int_int.calls (k : Nat) (A0 : Option Addr) (c0 : Nat) (l0 : List Int) (a1 : Int) (r : Int) (w : World) (hr0 : Kd.C (Kd.int .i64) w A0 l0.length l0) (hc0 : l0.length ≤ c0) (h : slices_Index_int_int.f k l0 a1 = some r) :
    Calls Try.prog 105 #[.slice A0 l0.length c0, .int .i64 a1] w fun e w' => e = .returned (.int .i64 r) ∧ Drawn0 w w' := by
  have HR0 := Aside0.mk hr0
  have HC0 := Aside0.mk hc0
  clear hr0 hc0
  have H : (slices_Index_int_int.l0 k l0 a1 (l0.length : Int) 0) = some r := h
  clear h
  have H' := Aside0.mk H
  clear H
  go_enter Try.func105, Try.ntmps105
  go_wp2
  go_loopg [8] k (fun kq v8 w' => ∃ (x8_1 : Int), v8 = .int .i64 x8_1 ∧ Aside0 (slices_Index_int_int.l0 kq l0 a1 (l0.length : Int) x8_1 = some r) ∧ Aside0 (kq ≤ k) ∧ Drawn0 w w')
  case atStart => exact ⟨(0), (by first | rfl | (simp; done) | (simp [*]; done)), H', ⟨Nat.le_refl _⟩, by repeat (first | exact Drawn0.refl _ | apply Drawn0.step)⟩
  case round =>
    clear H'
    try clear c1
    try clear p2
    obtain ⟨x8_1, rfl, HA, HK1, ⟨m1, rfl⟩⟩ := hrel
    cases gk with
    | zero => exact absurd HA.out (by simp [slices_Index_int_int.l0])
    | succ k1 =>
      have H := HA.out
      clear HA
      simp only [slices_Index_int_int.l0] at H
      by_cases c3 : x8_1 < (l0.length : Int)
      · rw [if_pos c3] at H
        have c3b0 : decide (x8_1 < (l0.length : Int)) = true := decide_eq_true c3
        clear c3
        by_cases c4 : 0 ≤ x8_1
        · rw [if_pos c4] at H
          have c4b0 : decide (0 ≤ x8_1) = true := decide_eq_true c4
          clear c4
          by_cases c5 : x8_1 < (l0.length : Int)
          · rw [if_pos c5] at H
            have c5b0 : decide (x8_1 < (l0.length : Int)) = true := decide_eq_true c5
            clear c5
            by_cases c6 : a1 = (rd l0 x8_1)
            · rw [if_pos c6] at H
              have c6b0 : (a1 == (rd l0 x8_1)) = true := beq_iff_eq.mpr c6
              have c6b1 : (a1 != (rd l0 x8_1)) = false := bne_eq_false_iff_eq.mpr c6
              clear c6
              obtain rfl := Option.some.inj H
              have p101 : 0 ≤ (x8_1 : Int) := of_decide_eq_true (by first | (with_reducible assumption) | assumption)
              have q101 : x8_1 < (l0.length : Int) := of_decide_eq_true (by first | (with_reducible assumption) | assumption)
              obtain ⟨ad101, e101, hx101_0⟩ := Kd.at_int HR0.out x8_1 p101 q101
              cases e101
              replace p101 := eq_true p101
              replace q101 := eq_true q101
              go_wp2
              go_ret
              exact ⟨by first | rfl | (simp; done) | (simp [*]; done), by repeat (first | exact Drawn0.refl _ | apply Drawn0.step)⟩
            · rw [if_neg c6] at H
              have c6b0 : (a1 == (rd l0 x8_1)) = false := beq_eq_false_iff_ne.mpr c6
              have c6b1 : (a1 != (rd l0 x8_1)) = true := bne_iff_ne.mpr c6
              have H' := Aside0.mk H
              clear H
              have p101 : 0 ≤ (x8_1 : Int) := of_decide_eq_true (by first | (with_reducible assumption) | assumption)
              have q101 : x8_1 < (l0.length : Int) := of_decide_eq_true (by first | (with_reducible assumption) | assumption)
              obtain ⟨ad101, e101, hx101_0⟩ := Kd.at_int HR0.out x8_1 p101 q101
              cases e101
              replace p101 := eq_true p101
              replace q101 := eq_true q101
              go_wp2
              go_roundg k1
              case measure => have := HK1.out; omega
              case rel => exact ⟨(wrap64 (x8_1 + 1)), (by first | rfl | (simp; done) | (simp [*]; done)), H', ⟨by have := HK1.out; omega⟩, by repeat (first | exact Drawn0.refl _ | apply Drawn0.step)⟩
          · rw [if_neg c5] at H
            exact absurd H (by simp)
        · rw [if_neg c4] at H
          exact absurd H (by simp)
      · rw [if_neg c3] at H
        have c3b0 : decide (x8_1 < (l0.length : Int)) = false := decide_eq_false c3
        clear c3
        obtain rfl := Option.some.inj H
        go_wp2
        go_ret
        exact ⟨by first | rfl | (simp; done) | (simp [*]; done), by repeat (first | exact Drawn0.refl _ | apply Drawn0.step)⟩
def slices_Contains_int_int.f (k : Nat) (l0 : List Int) (a1 : Int) : Option (Bool) := (slices_Index_int_int.f k l0 a1).bind fun t101 => (some (decide (t101 ≥ 0)))
set_option maxHeartbeats 8000000 in
set_option maxRecDepth 100000 in
theorem slices_Contains_int_int.calls (k : Nat) (A0 : Option Addr) (c0 : Nat) (l0 : List Int) (a1 : Int) (r : Bool) (w : World) (hr0 : Kd.C (Kd.int .i64) w A0 l0.length l0) (hc0 : l0.length ≤ c0) (h : slices_Contains_int_int.f k l0 a1 = some r) :
    Calls Try.prog 95 #[.slice A0 l0.length c0, .int .i64 a1] w fun e w' => e = .returned (.bool r) ∧ Drawn0 w w' := by
  have HR0 := Aside0.mk hr0
  have HC0 := Aside0.mk hc0
  clear hr0 hc0
  have H : ((slices_Index_int_int.f k l0 a1).bind fun t101 => (some (decide (t101 ≥ 0)))) = some r := h
  clear h
  replace H := Option.bind_eq_some_iff.mp H
  obtain ⟨t101, A30, H⟩ := H
  replace H : (some (decide (t101 ≥ 0))) = some r := H
  have A3 := Aside0.mk A30
  clear A30
  obtain rfl := Option.some.inj H
  go_enter Try.func95, Try.ntmps95
  go_wp2_with (first | ((with_reducible refine gate_callee (f := 105) rfl ?_); refine goesL_ (some 7) rfl rfl Try.func105 (by kernel_rfl) rfl #[.slice A0 l0.length c0, .int .i64 a1] rfl (by (try simp only [List.map_toArray, List.map_cons, List.map_nil]); first | done | rfl | (simp only [List.length_drop, List.length_take]; rfl)) ?_; (with_reducible refine (slices_Index_int_int.calls k _ _ l0 a1 t101 _ ?side1 ?side2 A3.out).mono ?_); (case side1 => repeat (first | exact HR0.out | (with_reducible refine Kd.C_alloc ?_ _) | (with_reducible refine Kd.C_drewN ?_ _) | (with_reducible refine Kd.C_drew ?_))); (case side2 => exact HC0.out); rintro e w' ⟨rfl, ⟨nd, rfl⟩⟩; refine ⟨_, rfl, ?_⟩))
  go_ret
  exact ⟨by first | rfl | (simp; done) | (simp [*]; done), by repeat (first | exact Drawn0.refl _ | apply Drawn0.step)⟩
def impl_allOf_1.f (k : Nat) (a0 : Int) (l1_0_0 : List Int) : Option (Bool) := (slices_Contains_int_int.f k l1_0_0 a0).bind fun t102 => (some (!t102))
set_option maxHeartbeats 8000000 in
set_option maxRecDepth 100000 in
theorem impl_allOf_1.calls (k : Nat) (a0 : Int) (bx1_0 : Nat) (A1_0_0 : Option Addr) (c1_0_0 : Nat) (l1_0_0 : List Int) (r : Bool) (w : World) (hb1_0 : w.heap[bx1_0]? = some (.cells #[.slice A1_0_0 l1_0_0.length c1_0_0] 31 (0, 0))) (hr1_0_0 : Kd.C (Kd.int .i64) w A1_0_0 l1_0_0.length l1_0_0) (hc1_0_0 : l1_0_0.length ≤ c1_0_0) (h : impl_allOf_1.f k a0 l1_0_0 = some r) :
    Calls Try.prog 104 #[.int .i64 a0, .pointer (some ⟨bx1_0, 0, none⟩)] w fun e w' => e = .returned (.bool r) ∧ Drawn0 w w' := by
  have hu31 := Try.underlying31
  have HR1_0_0 := Aside0.mk hr1_0_0
  have HC1_0_0 := Aside0.mk hc1_0_0
  clear hr1_0_0 hc1_0_0
  have BK101 := Aside0.mk hb1_0
  clear hb1_0
  have H : ((slices_Contains_int_int.f k l1_0_0 a0).bind fun t102 => (some (!t102))) = some r := h
  clear h
  replace H := Option.bind_eq_some_iff.mp H
  obtain ⟨t102, A30, H⟩ := H
  replace H : (some (!t102)) = some r := H
  have A3 := Aside0.mk A30
  clear A30
  obtain rfl := Option.some.inj H
  have hcz4_0 : w.cell? ⟨bx1_0, 0, none⟩ = some (.slice A1_0_0 l1_0_0.length c1_0_0) := (blk_cell BK101.out 0).trans rfl
  have hfz4_0 := blk_frozen BK101.out 0
  go_enter Try.func104, Try.ntmps104
  go_wp2_with (first | ((with_reducible refine gate_callee (f := 95) rfl ?_); refine goesL_ (some 6) rfl rfl Try.func95 (by kernel_rfl) rfl #[.slice A1_0_0 l1_0_0.length c1_0_0, .int .i64 a0] rfl (by (try simp only [List.map_toArray, List.map_cons, List.map_nil]); first | done | rfl | (simp only [List.length_drop, List.length_take]; rfl)) ?_; (with_reducible refine (slices_Contains_int_int.calls k _ _ l1_0_0 a0 t102 _ ?side1 ?side2 A3.out).mono ?_); (case side1 => repeat (first | exact HR1_0_0.out | (with_reducible refine Kd.C_alloc ?_ _) | (with_reducible refine Kd.C_drewN ?_ _) | (with_reducible refine Kd.C_drew ?_))); (case side2 => exact HC1_0_0.out); rintro e w' ⟨rfl, ⟨nd, rfl⟩⟩; refine ⟨_, rfl, ?_⟩))
  go_ret
  exact ⟨by first | rfl | (simp; done) | (simp [*]; done), by repeat (first | exact Drawn0.refl _ | apply Drawn0.step)⟩
def slices_IndexFunc_int_int_of_impl_allOf_1.l0 : Nat → List Int → Int → Int → List Int → Option (Int)
  | 0, _, _, _, _ => none
  | k + 1, x0, x7, x8, x102000 => if x8 < x7 then (if 0 ≤ x8 then (if x8 < (x0.length : Int) then ((impl_allOf_1.f k (rd x0 x8) x102000).bind fun t103 => (if t103 = true then (some x8) else (slices_IndexFunc_int_int_of_impl_allOf_1.l0 k x0 x7 (wrap64 (x8 + 1)) x102000))) else (none)) else (none)) else (some (-1))
def slices_IndexFunc_int_int_of_impl_allOf_1.f (k : Nat) (l0 : List Int) (l1_0_0 : List Int) : Option (Int) := slices_IndexFunc_int_int_of_impl_allOf_1.l0 k l0 (l0.length : Int) 0 l1_0_0
set_option maxHeartbeats 8000000 in
set_option maxRecDepth 100000 in
theorem slices_IndexFunc_int_int_of_impl_allOf_1.calls (k : Nat) (A0 : Option Addr) (c0 : Nat) (l0 : List Int) (bx1_0 : Nat) (A1_0_0 : Option Addr) (c1_0_0 : Nat) (l1_0_0 : List Int) (r : Int) (w : World) (hr0 : Kd.C (Kd.int .i64) w A0 l0.length l0) (hc0 : l0.length ≤ c0) (hb1_0 : w.heap[bx1_0]? = some (.cells #[.slice A1_0_0 l1_0_0.length c1_0_0] 31 (0, 0))) (hr1_0_0 : Kd.C (Kd.int .i64) w A1_0_0 l1_0_0.length l1_0_0) (hc1_0_0 : l1_0_0.length ≤ c1_0_0) (h : slices_IndexFunc_int_int_of_impl_allOf_1.f k l0 l1_0_0 = some r) :
    Calls Try.prog 110 #[.slice A0 l0.length c0, .func (.func 104) #[] #[.pointer (some ⟨bx1_0, 0, none⟩)]] w fun e w' => e = .returned (.int .i64 r) ∧ Drawn0 w w' := by
  have HR0 := Aside0.mk hr0
  have HC0 := Aside0.mk hc0
  clear hr0 hc0
  have HR1_0_0 := Aside0.mk hr1_0_0
  have HC1_0_0 := Aside0.mk hc1_0_0
  clear hr1_0_0 hc1_0_0
  have BK101 := Aside0.mk hb1_0
  clear hb1_0
  have H : (slices_IndexFunc_int_int_of_impl_allOf_1.l0 k l0 (l0.length : Int) 0 l1_0_0) = some r := h
  clear h
  have H' := Aside0.mk H
  clear H
  go_enter Try.func110, Try.ntmps110
  go_wp2
  go_loopg [8] k (fun kq v8 w' => ∃ (x8_1 : Int), v8 = .int .i64 x8_1 ∧ Aside0 (slices_IndexFunc_int_int_of_impl_allOf_1.l0 kq l0 (l0.length : Int) x8_1 l1_0_0 = some r) ∧ Aside0 (kq ≤ k) ∧ Aside0 (w'.heap[bx1_0]? = some (.cells #[(.slice A1_0_0 l1_0_0.length c1_0_0)] 31 (0, 0))) ∧ Drawn0 w w')
  case atStart => exact ⟨(0), (by first | rfl | (simp; done) | (simp [*]; done)), H', ⟨Nat.le_refl _⟩, ⟨by (with_reducible repeat (first | refine blk_drewN ?_ _ | refine blk_drew ?_ | refine blk_alloc ?_ _)); exact BK101.out⟩, by repeat (first | exact Drawn0.refl _ | apply Drawn0.step)⟩
  case round =>
    clear H'
    try clear c1
    try clear p2
    obtain ⟨x8_1, rfl, HA, HK1, BK101, ⟨m1, rfl⟩⟩ := hrel
    cases gk with
    | zero => exact absurd HA.out (by simp [slices_IndexFunc_int_int_of_impl_allOf_1.l0])
    | succ k1 =>
      have H := HA.out
      clear HA
      simp only [slices_IndexFunc_int_int_of_impl_allOf_1.l0] at H
      by_cases c3 : x8_1 < (l0.length : Int)
      · rw [if_pos c3] at H
        have c3b0 : decide (x8_1 < (l0.length : Int)) = true := decide_eq_true c3
        clear c3
        by_cases c4 : 0 ≤ x8_1
        · rw [if_pos c4] at H
          have c4b0 : decide (0 ≤ x8_1) = true := decide_eq_true c4
          clear c4
          by_cases c5 : x8_1 < (l0.length : Int)
          · rw [if_pos c5] at H
            have c5b0 : decide (x8_1 < (l0.length : Int)) = true := decide_eq_true c5
            clear c5
            replace H := Option.bind_eq_some_iff.mp H
            obtain ⟨t103, A60, H⟩ := H
            replace H : (if t103 = true then (some x8_1) else (slices_IndexFunc_int_int_of_impl_allOf_1.l0 k1 l0 (l0.length : Int) (wrap64 (x8_1 + 1)) l1_0_0)) = some r := H
            have A6 := Aside0.mk A60
            clear A60
            by_cases c7 : t103 = true
            · subst c7
              have H1 : (some x8_1) = some r := by rw [if_pos rfl] at H; exact H
              clear H
              have H := H1
              clear H1
              obtain rfl := Option.some.inj H
              have p102 : 0 ≤ (x8_1 : Int) := of_decide_eq_true (by first | (with_reducible assumption) | assumption)
              have q102 : x8_1 < (l0.length : Int) := of_decide_eq_true (by first | (with_reducible assumption) | assumption)
              obtain ⟨ad102, e102, hx102_0⟩ := Kd.at_int HR0.out x8_1 p102 q102
              cases e102
              replace p102 := eq_true p102
              replace q102 := eq_true q102
              go_wp2_with (first | (go_at_call 104; (with_reducible refine (impl_allOf_1.calls k1 (rd l0 x8_1) bx1_0 A1_0_0 c1_0_0 l1_0_0 true _ ?side1 ?side2 ?side3 A6.out).mono ?_); (case side1 => (with_reducible repeat (first | refine blk_drewN ?_ _ | refine blk_drew ?_ | refine blk_alloc ?_ _)); exact BK101.out); (case side2 => repeat (first | exact HR1_0_0.out | (with_reducible refine Kd.C_alloc ?_ _) | (with_reducible refine Kd.C_drewN ?_ _) | (with_reducible refine Kd.C_drew ?_))); (case side3 => exact HC1_0_0.out); rintro e w' ⟨rfl, ⟨nd, rfl⟩⟩))
              go_ret
              exact ⟨by first | rfl | (simp; done) | (simp [*]; done), by repeat (first | exact Drawn0.refl _ | apply Drawn0.step)⟩
            · replace c7 := Bool.eq_false_iff.mpr c7
              subst c7
              have H1 : (slices_IndexFunc_int_int_of_impl_allOf_1.l0 k1 l0 (l0.length : Int) (wrap64 (x8_1 + 1)) l1_0_0) = some r := by rw [if_neg (show ¬ (false = true) by decide)] at H; exact H
              clear H
              have H := H1
              clear H1
              have H' := Aside0.mk H
              clear H
              have p102 : 0 ≤ (x8_1 : Int) := of_decide_eq_true (by first | (with_reducible assumption) | assumption)
              have q102 : x8_1 < (l0.length : Int) := of_decide_eq_true (by first | (with_reducible assumption) | assumption)
              obtain ⟨ad102, e102, hx102_0⟩ := Kd.at_int HR0.out x8_1 p102 q102
              cases e102
              replace p102 := eq_true p102
              replace q102 := eq_true q102
              go_wp2_with (first | (go_at_call 104; (with_reducible refine (impl_allOf_1.calls k1 (rd l0 x8_1) bx1_0 A1_0_0 c1_0_0 l1_0_0 false _ ?side1 ?side2 ?side3 A6.out).mono ?_); (case side1 => (with_reducible repeat (first | refine blk_drewN ?_ _ | refine blk_drew ?_ | refine blk_alloc ?_ _)); exact BK101.out); (case side2 => repeat (first | exact HR1_0_0.out | (with_reducible refine Kd.C_alloc ?_ _) | (with_reducible refine Kd.C_drewN ?_ _) | (with_reducible refine Kd.C_drew ?_))); (case side3 => exact HC1_0_0.out); rintro e w' ⟨rfl, ⟨nd, rfl⟩⟩))
              go_roundg k1
              case measure => have := HK1.out; omega
              case rel => exact ⟨(wrap64 (x8_1 + 1)), (by first | rfl | (simp; done) | (simp [*]; done)), H', ⟨by have := HK1.out; omega⟩, ⟨by (with_reducible repeat (first | refine blk_drewN ?_ _ | refine blk_drew ?_ | refine blk_alloc ?_ _)); exact BK101.out⟩, by repeat (first | exact Drawn0.refl _ | apply Drawn0.step)⟩
          · rw [if_neg c5] at H
            exact absurd H (by simp)
        · rw [if_neg c4] at H
          exact absurd H (by simp)
      · rw [if_neg c3] at H
        have c3b0 : decide (x8_1 < (l0.length : Int)) = false := decide_eq_false c3
        clear c3
        obtain rfl := Option.some.inj H
        go_wp2
        go_ret
        exact ⟨by first | rfl | (simp; done) | (simp [*]; done), by repeat (first | exact Drawn0.refl _ | apply Drawn0.step)⟩
def slices_ContainsFunc_int_int_of_impl_allOf_1.f (k : Nat) (l0 : List Int) (l1_0_0 : List Int) : Option (Bool) := (slices_IndexFunc_int_int_of_impl_allOf_1.f k l0 l1_0_0).bind fun t102 => (some (decide (t102 ≥ 0)))
set_option maxHeartbeats 8000000 in
set_option maxRecDepth 100000 in
theorem slices_ContainsFunc_int_int_of_impl_allOf_1.calls (k : Nat) (A0 : Option Addr) (c0 : Nat) (l0 : List Int) (bx1_0 : Nat) (A1_0_0 : Option Addr) (c1_0_0 : Nat) (l1_0_0 : List Int) (r : Bool) (w : World) (hr0 : Kd.C (Kd.int .i64) w A0 l0.length l0) (hc0 : l0.length ≤ c0) (hb1_0 : w.heap[bx1_0]? = some (.cells #[.slice A1_0_0 l1_0_0.length c1_0_0] 31 (0, 0))) (hr1_0_0 : Kd.C (Kd.int .i64) w A1_0_0 l1_0_0.length l1_0_0) (hc1_0_0 : l1_0_0.length ≤ c1_0_0) (h : slices_ContainsFunc_int_int_of_impl_allOf_1.f k l0 l1_0_0 = some r) :
    Calls Try.prog 103 #[.slice A0 l0.length c0, .func (.func 104) #[] #[.pointer (some ⟨bx1_0, 0, none⟩)]] w fun e w' => e = .returned (.bool r) ∧ Drawn0 w w' := by
  have HR0 := Aside0.mk hr0
  have HC0 := Aside0.mk hc0
  clear hr0 hc0
  have HR1_0_0 := Aside0.mk hr1_0_0
  have HC1_0_0 := Aside0.mk hc1_0_0
  clear hr1_0_0 hc1_0_0
  have BK101 := Aside0.mk hb1_0
  clear hb1_0
  have H : ((slices_IndexFunc_int_int_of_impl_allOf_1.f k l0 l1_0_0).bind fun t102 => (some (decide (t102 ≥ 0)))) = some r := h
  clear h
  replace H := Option.bind_eq_some_iff.mp H
  obtain ⟨t102, A30, H⟩ := H
  replace H : (some (decide (t102 ≥ 0))) = some r := H
  have A3 := Aside0.mk A30
  clear A30
  obtain rfl := Option.some.inj H
  go_enter Try.func103, Try.ntmps103
  go_wp2_with (first | (go_at_call 110; (with_reducible refine (slices_IndexFunc_int_int_of_impl_allOf_1.calls k _ _ l0 bx1_0 A1_0_0 c1_0_0 l1_0_0 t102 _ ?side1 ?side2 ?side3 ?side4 ?side5 A3.out).mono ?_); (case side1 => repeat (first | exact HR0.out | (with_reducible refine Kd.C_alloc ?_ _) | (with_reducible refine Kd.C_drewN ?_ _) | (with_reducible refine Kd.C_drew ?_))); (case side2 => exact HC0.out); (case side3 => (with_reducible repeat (first | refine blk_drewN ?_ _ | refine blk_drew ?_ | refine blk_alloc ?_ _)); exact BK101.out); (case side4 => repeat (first | exact HR1_0_0.out | (with_reducible refine Kd.C_alloc ?_ _) | (with_reducible refine Kd.C_drewN ?_ _) | (with_reducible refine Kd.C_drew ?_))); (case side5 => exact HC1_0_0.out); rintro e w' ⟨rfl, ⟨nd, rfl⟩⟩))
  go_ret
  exact ⟨by first | rfl | (simp; done) | (simp [*]; done), by repeat (first | exact Drawn0.refl _ | apply Drawn0.step)⟩
def impl_allOf.f (k : Nat) (l0 : List Int) (l1 : List Int) : Option (Bool) := (slices_ContainsFunc_int_int_of_impl_allOf_1.f k l0 l1).bind fun t102 => (some (!t102))
set_option maxHeartbeats 8000000 in
set_option maxRecDepth 100000 in
theorem impl_allOf.calls (k : Nat) (A0 : Option Addr) (c0 : Nat) (l0 : List Int) (A1 : Option Addr) (c1 : Nat) (l1 : List Int) (r : Bool) (w : World) (hr0 : Kd.C (Kd.int .i64) w A0 l0.length l0) (hc0 : l0.length ≤ c0) (hr1 : Kd.C (Kd.int .i64) w A1 l1.length l1) (hc1 : l1.length ≤ c1) (h : impl_allOf.f k l0 l1 = some r) :
    Calls Try.prog 93 #[.slice A0 l0.length c0, .slice A1 l1.length c1] w fun e w' => e = .returned (.bool r) ∧ Below w.heap.size w w' := by
  have hu31 := Try.underlying31
  have HR0 := Aside0.mk hr0
  have HC0 := Aside0.mk hc0
  clear hr0 hc0
  have HR1 := Aside0.mk hr1
  have HC1 := Aside0.mk hc1
  clear hr1 hc1
  have HB := Aside0.mk (Below.refl w.heap.size w)
  have H : ((slices_ContainsFunc_int_int_of_impl_allOf_1.f k l0 l1).bind fun t102 => (some (!t102))) = some r := h
  clear h
  replace H := Option.bind_eq_some_iff.mp H
  obtain ⟨t102, A30, H⟩ := H
  replace H : (some (!t102)) = some r := H
  have A3 := Aside0.mk A30
  clear A30
  obtain rfl := Option.some.inj H
  go_enter Try.func93, Try.ntmps93
  go_wp2_with (first | ((with_reducible refine gate_dst (N := 3) rfl ?_); refine box_event ?hg (N := 3) ?hd (cs := #[.slice A1 l1.length c1]) (t := 31) ?hr ?_; (case hd => rfl); (case hg => rfl); (case hr => first | (go_simp; done) | (go_simp; rfl)); intro gb101 hg w4 hbox hb; have n0_ := Aside0.mk (below_step (by repeat (first | (with_reducible first | exact HB.out | apply below_alloc | apply pw_below_drewN | apply below_drew1) | exact HB.out)) hb); have n1_ := Aside0.mk (hbox); have n2_ := Aside0.mk ((by rw [hg]; exact (below_size (by repeat (first | (with_reducible first | exact HB.out | apply below_alloc | apply pw_below_drewN | apply below_drew1) | exact HB.out))) : w.heap.size ≤ gb101)); have n3_ := Aside0.mk ((by rw [hg]; exact (below_size (by repeat (first | (with_reducible first | exact HB.out | apply below_alloc | apply pw_below_drewN | apply below_drew1) | exact HB.out))) : w.heap.size ≤ gb101)); clear HB; have HB := n0_; have BK101 := n1_; have GW101 := n2_; have GE101 := n3_; clear n0_ n1_ n2_ n3_; clear hb hbox hg) | (go_at_call 103; (with_reducible refine (slices_ContainsFunc_int_int_of_impl_allOf_1.calls k _ _ l0 gb101 A1 c1 l1 t102 _ ?side1 ?side2 ?side3 ?side4 ?side5 A3.out).mono ?_); (case side1 => repeat (first | exact (Kd.C_below HR0.out HB.out) | (with_reducible refine Kd.C_alloc ?_ _) | (with_reducible refine Kd.C_drewN ?_ _) | (with_reducible refine Kd.C_drew ?_))); (case side2 => exact HC0.out); (case side3 => (with_reducible repeat (first | refine blk_drewN ?_ _ | refine blk_drew ?_ | refine blk_alloc ?_ _)); exact BK101.out); (case side4 => repeat (first | exact (Kd.C_below HR1.out HB.out) | (with_reducible refine Kd.C_alloc ?_ _) | (with_reducible refine Kd.C_drewN ?_ _) | (with_reducible refine Kd.C_drew ?_))); (case side5 => exact HC1.out); rintro e w' ⟨rfl, ⟨nd, rfl⟩⟩))
  go_ret
  exact ⟨by first | rfl | (simp [errW_none, errW_some] <;> rfl) | (simp [*, errW_none, errW_some] <;> rfl), by repeat (first | (with_reducible first | exact HB.out | apply below_alloc | apply pw_below_drewN | apply below_drew1 | refine below_set ?_ GE101.out) | exact HB.out)⟩
def impl_Control_firstLive.l0 : Nat → List Int → Int → Int → List (S67) → List (S85) → Int → Option (Int)
  | 0, _, _, _, _, _, _ => none
  | k + 1, x7, x8, x9, x102000, x102001, x102002 => if x9 < x8 then (if 0 ≤ x9 then (if x9 < (x7.length : Int) then (if 0 ≤ (rd x7 x9) then (if (rd x7 x9) < (x102000.length : Int) then (if ((rd_T67 x102000 (rd x7 x9)).f2 = true) then (impl_Control_firstLive.l0 k x7 x8 (wrap64 (x9 + 1)) x102000 x102001 x102002) else (some (rd x7 x9))) else (none)) else (none)) else (none)) else (none)) else (some (-1))
def impl_Control_firstLive.f (k : Nat) (l0_0 : List (S67)) (l0_1 : List (S85)) (a0_2 : Int) (l1 : List Int) : Option (Int) := impl_Control_firstLive.l0 k l1 (l1.length : Int) 0 l0_0 l0_1 a0_2
set_option maxHeartbeats 8000000 in
set_option maxRecDepth 100000 in
theorem impl_Control_firstLive.calls (k : Nat) (A0_0 : Option Addr) (c0_0 : Nat) (l0_0 : List (S67)) (A0_1 : Option Addr) (c0_1 : Nat) (l0_1 : List (S85)) (a0_2 : Int) (A1 : Option Addr) (c1 : Nat) (l1 : List Int) (r : Int) (w : World) (hr0_0 : Kd.C k67 w A0_0 l0_0.length l0_0) (hc0_0 : l0_0.length ≤ c0_0) (hr0_1 : Kd.C k85 w A0_1 l0_1.length l0_1) (hc0_1 : l0_1.length ≤ c0_1) (hr1 : Kd.C (Kd.int .i64) w A1 l1.length l1) (hc1 : l1.length ≤ c1) (h : impl_Control_firstLive.f k l0_0 l0_1 a0_2 l1 = some r) :
    Calls Try.prog 94 #[.agg #[.slice A0_0 l0_0.length c0_0, .slice A0_1 l0_1.length c0_1, .int .i64 a0_2], .slice A1 l1.length c1] w fun e w' => e = .returned (.int .i64 r) ∧ Below w.heap.size w w' := by
  have hu25 := Try.underlying25
  have HR0_0 := Aside0.mk hr0_0
  have HC0_0 := Aside0.mk hc0_0
  clear hr0_0 hc0_0
  have HR0_1 := Aside0.mk hr0_1
  have HC0_1 := Aside0.mk hc0_1
  clear hr0_1 hc0_1
  have HR1 := Aside0.mk hr1
  have HC1 := Aside0.mk hc1
  clear hr1 hc1
  have HB := Aside0.mk (Below.refl w.heap.size w)
  have H : (impl_Control_firstLive.l0 k l1 (l1.length : Int) 0 l0_0 l0_1 a0_2) = some r := h
  clear h
  have H' := Aside0.mk H
  clear H
  go_enter Try.func94, Try.ntmps94
  go_wp2_with (first | ((with_reducible refine gate_dst (N := 2) rfl ?_); refine box_event ?hg (N := 2) ?hd (cs := #[.slice A0_0 l0_0.length c0_0, .slice A0_1 l0_1.length c0_1, .int .i64 a0_2]) (t := 25) ?hr ?_; (case hd => rfl); (case hg => rfl); (case hr => first | (go_simp; done) | (go_simp; rfl)); intro gb101 hg w3 hbox hb; have n0_ := Aside0.mk (below_step (by repeat (first | (with_reducible first | exact HB.out | apply below_alloc | apply pw_below_drewN | apply below_drew1) | exact HB.out)) hb); have n1_ := Aside0.mk (hbox); have n2_ := Aside0.mk ((by rw [hg]; exact (below_size (by repeat (first | (with_reducible first | exact HB.out | apply below_alloc | apply pw_below_drewN | apply below_drew1) | exact HB.out))) : w.heap.size ≤ gb101)); have n3_ := Aside0.mk ((by rw [hg]; exact (below_size (by repeat (first | (with_reducible first | exact HB.out | apply below_alloc | apply pw_below_drewN | apply below_drew1) | exact HB.out))) : w.heap.size ≤ gb101)); clear HB; have HB := n0_; have BK101 := n1_; have GW101 := n2_; have GE101 := n3_; clear n0_ n1_ n2_ n3_; clear hb hbox hg))
  go_loopg [9] k (fun kq v9 w' => ∃ (x9_1 : Int), v9 = .int .i64 x9_1 ∧ Aside0 (impl_Control_firstLive.l0 kq l1 (l1.length : Int) x9_1 l0_0 l0_1 a0_2 = some r) ∧ Aside0 (kq ≤ k) ∧ Aside0 (w'.heap[gb101]? = some (.cells #[(.slice A0_0 l0_0.length c0_0), (.slice A0_1 l0_1.length c0_1), .int .i64 a0_2] 25 (0, 0))) ∧ Aside0 (Below w.heap.size w w'))
  case atStart => exact ⟨(0), (by first | rfl | (simp; done) | (simp [*]; done)), H', ⟨Nat.le_refl _⟩, ⟨by (with_reducible repeat (first | refine blk_drewN ?_ _ | refine blk_drew ?_ | refine blk_alloc ?_ _)); exact BK101.out⟩, ⟨by repeat (first | (with_reducible first | exact HB.out | apply below_alloc | apply pw_below_drewN | apply below_drew1 | refine below_set ?_ GE101.out) | exact HB.out)⟩⟩
  case round =>
    clear H'
    try clear c1
    try clear p2
    obtain ⟨x9_1, rfl, HA, HK1, BK101, HB⟩ := hrel
    cases gk with
    | zero => exact absurd HA.out (by simp [impl_Control_firstLive.l0])
    | succ k1 =>
      have H := HA.out
      clear HA
      simp only [impl_Control_firstLive.l0] at H
      by_cases c4 : x9_1 < (l1.length : Int)
      · rw [if_pos c4] at H
        have c4b0 : decide (x9_1 < (l1.length : Int)) = true := decide_eq_true c4
        clear c4
        by_cases c5 : 0 ≤ x9_1
        · rw [if_pos c5] at H
          have c5b0 : decide (0 ≤ x9_1) = true := decide_eq_true c5
          clear c5
          by_cases c6 : x9_1 < (l1.length : Int)
          · rw [if_pos c6] at H
            have c6b0 : decide (x9_1 < (l1.length : Int)) = true := decide_eq_true c6
            clear c6
            by_cases c7 : 0 ≤ (rd l1 x9_1)
            · rw [if_pos c7] at H
              have c7b0 : decide (0 ≤ (rd l1 x9_1)) = true := decide_eq_true c7
              clear c7
              by_cases c8 : (rd l1 x9_1) < (l0_0.length : Int)
              · rw [if_pos c8] at H
                have c8b0 : decide ((rd l1 x9_1) < (l0_0.length : Int)) = true := decide_eq_true c8
                clear c8
                obtain ⟨bq9, hbq9⟩ : ∃ b_ : Bool, b_ = ((rd_T67 l0_0 (rd l1 x9_1)).f2) := ⟨_, rfl⟩
                replace H : (if (bq9 = true) then (impl_Control_firstLive.l0 k1 l1 (l1.length : Int) (wrap64 (x9_1 + 1)) l0_0 l0_1 a0_2) else (some (rd l1 x9_1))) = some r := by rw [← hbq9] at H; exact H
                have Nbq9 := Aside0.mk hbq9
                clear hbq9
                by_cases c10 : (bq9 = true)
                · subst c10
                  have H1 : (impl_Control_firstLive.l0 k1 l1 (l1.length : Int) (wrap64 (x9_1 + 1)) l0_0 l0_1 a0_2) = some r := by rw [if_pos rfl] at H; exact H
                  clear H
                  have H := H1
                  clear H1
                  have H' := Aside0.mk H
                  clear H
                  have p102 : 0 ≤ (x9_1 : Int) := of_decide_eq_true (by first | (with_reducible assumption) | assumption)
                  have q102 : x9_1 < (l1.length : Int) := of_decide_eq_true (by first | (with_reducible assumption) | assumption)
                  obtain ⟨ad102, e102, hx102_0⟩ := Kd.at_int HR1.out x9_1 p102 q102
                  cases e102
                  replace hx102_0 := (HB.out.cell (World.block_lt_of_cell? w _ hx102_0)).trans hx102_0
                  replace p102 := eq_true p102
                  replace q102 := eq_true q102
                  have hcz11_0 : wr.cell? ⟨gb101, 0, none⟩ = some (.slice A0_0 l0_0.length c0_0) := (blk_cell BK101.out 0).trans rfl
                  have hcz11_1 : wr.cell? ⟨gb101, 1, none⟩ = some (.slice A0_1 l0_1.length c0_1) := (blk_cell BK101.out 1).trans rfl
                  have hcz11_2 : wr.cell? ⟨gb101, 2, none⟩ = some (.int .i64 a0_2) := (blk_cell BK101.out 2).trans rfl
                  have hfz11_0 := blk_frozen BK101.out 0
                  have hfz11_1 := blk_frozen BK101.out 1
                  have hfz11_2 := blk_frozen BK101.out 2
                  have p103 : 0 ≤ ((rd l1 x9_1) : Int) := of_decide_eq_true (by first | (with_reducible assumption) | assumption)
                  have q103 : (rd l1 x9_1) < (l0_0.length : Int) := of_decide_eq_true (by first | (with_reducible assumption) | assumption)
                  obtain ⟨ad103, e103, hx103_0, hx103_1, hx103_2⟩ := at_T67 HR0_0.out (rd l1 x9_1) p103 q103
                  (try rw [← Nbq9.out] at hx103_2)
                  cases e103
                  replace hx103_0 := (HB.out.cell (World.block_lt_of_cell? w _ hx103_0)).trans hx103_0
                  replace hx103_1 := (HB.out.cell (World.block_lt_of_cell? w _ hx103_1)).trans hx103_1
                  replace hx103_2 := (HB.out.cell (World.block_lt_of_cell? w _ hx103_2)).trans hx103_2
                  replace p103 := eq_true p103
                  replace q103 := eq_true q103
                  go_wp2
                  go_roundg k1
                  case measure => have := HK1.out; omega
                  case rel => (try simp only [← Nbq9.out]); exact ⟨(wrap64 (x9_1 + 1)), (by first | rfl | (simp; done) | (simp [*]; done)), H', ⟨by have := HK1.out; omega⟩, ⟨by (with_reducible repeat (first | refine blk_drewN ?_ _ | refine blk_drew ?_ | refine blk_alloc ?_ _)); exact BK101.out⟩, ⟨by repeat (first | (with_reducible first | exact HB.out | apply below_alloc | apply pw_below_drewN | apply below_drew1 | refine below_set ?_ GE101.out) | exact HB.out)⟩⟩
                · replace c10 := Bool.eq_false_iff.mpr c10
                  subst c10
                  have H1 : (some (rd l1 x9_1)) = some r := by rw [if_neg (show ¬ (false = true) by decide)] at H; exact H
                  clear H
                  have H := H1
                  clear H1
                  obtain rfl := Option.some.inj H
                  have p102 : 0 ≤ (x9_1 : Int) := of_decide_eq_true (by first | (with_reducible assumption) | assumption)
                  have q102 : x9_1 < (l1.length : Int) := of_decide_eq_true (by first | (with_reducible assumption) | assumption)
                  obtain ⟨ad102, e102, hx102_0⟩ := Kd.at_int HR1.out x9_1 p102 q102
                  cases e102
                  replace hx102_0 := (HB.out.cell (World.block_lt_of_cell? w _ hx102_0)).trans hx102_0
                  replace p102 := eq_true p102
                  replace q102 := eq_true q102
                  have hcz12_0 : wr.cell? ⟨gb101, 0, none⟩ = some (.slice A0_0 l0_0.length c0_0) := (blk_cell BK101.out 0).trans rfl
                  have hcz12_1 : wr.cell? ⟨gb101, 1, none⟩ = some (.slice A0_1 l0_1.length c0_1) := (blk_cell BK101.out 1).trans rfl
                  have hcz12_2 : wr.cell? ⟨gb101, 2, none⟩ = some (.int .i64 a0_2) := (blk_cell BK101.out 2).trans rfl
                  have hfz12_0 := blk_frozen BK101.out 0
                  have hfz12_1 := blk_frozen BK101.out 1
                  have hfz12_2 := blk_frozen BK101.out 2
                  have p103 : 0 ≤ ((rd l1 x9_1) : Int) := of_decide_eq_true (by first | (with_reducible assumption) | assumption)
                  have q103 : (rd l1 x9_1) < (l0_0.length : Int) := of_decide_eq_true (by first | (with_reducible assumption) | assumption)
                  obtain ⟨ad103, e103, hx103_0, hx103_1, hx103_2⟩ := at_T67 HR0_0.out (rd l1 x9_1) p103 q103
                  (try rw [← Nbq9.out] at hx103_2)
                  cases e103
                  replace hx103_0 := (HB.out.cell (World.block_lt_of_cell? w _ hx103_0)).trans hx103_0
                  replace hx103_1 := (HB.out.cell (World.block_lt_of_cell? w _ hx103_1)).trans hx103_1
                  replace hx103_2 := (HB.out.cell (World.block_lt_of_cell? w _ hx103_2)).trans hx103_2
                  replace p103 := eq_true p103
                  replace q103 := eq_true q103
                  go_wp2
                  go_ret
                  exact ⟨by first | rfl | (simp [errW_none, errW_some] <;> rfl) | (simp [*, errW_none, errW_some] <;> rfl), by repeat (first | (with_reducible first | exact HB.out | apply below_alloc | apply pw_below_drewN | apply below_drew1 | refine below_set ?_ GE101.out) | exact HB.out)⟩
              · rw [if_neg c8] at H
                exact absurd H (by simp)
            · rw [if_neg c7] at H
              exact absurd H (by simp)
          · rw [if_neg c6] at H
            exact absurd H (by simp)
        · rw [if_neg c5] at H
          exact absurd H (by simp)
      · rw [if_neg c4] at H
        have c4b0 : decide (x9_1 < (l1.length : Int)) = false := decide_eq_false c4
        clear c4
        obtain rfl := Option.some.inj H
        go_wp2
        go_ret
        exact ⟨by first | rfl | (simp [errW_none, errW_some] <;> rfl) | (simp [*, errW_none, errW_some] <;> rfl), by repeat (first | (with_reducible first | exact HB.out | apply below_alloc | apply pw_below_drewN | apply below_drew1 | refine below_set ?_ GE101.out) | exact HB.out)⟩
mutual
def impl_isControl.j0 : Nat → Int → Bool → List (S67) → List (S85) → Int → Option (Bool)
  | 0, _, _, _, _, _ => none
  | k + 1, x3, x26, x102000, x102001, x102002 => if x26 = true then (some false) else (impl_isControl.l0 k x3 x102000 (x102000.length : Int) 0 x102000 x102001 x102002)
def impl_isControl.l0 : Nat → Int → List (S67) → Int → Int → List (S67) → List (S85) → Int → Option (Bool)
  | 0, _, _, _, _, _, _, _ => none
  | k + 1, x3, x28, x29, x30, x102000, x102001, x102002 => if x30 < x29 then (if 0 ≤ x30 then (if x30 < (x28.length : Int) then ((impl_in.f ((rd_T67 x28 x30).f0) 0 (wrap64 (x102002 - 1))).bind fun t106 => (if t106 = true then ((impl_in.f ((rd_T67 x28 x30).f1) 0 9).bind fun t107 => (if t107 = true then (if ((rd_T67 x28 x30).f0) = 0 then (if ((rd_T67 x28 x30).f1) = 0 then (if (((rd_T67 x28 x30).f2) != (((rd_T67 x28 x30).f1) == 0)) = true then (some false) else (impl_isControl.l0 k x3 x28 x29 (wrap64 (x30 + 1)) x102000 x102001 x102002)) else (some false)) else (if (((rd_T67 x28 x30).f2) != (((rd_T67 x28 x30).f1) == 0)) = true then (some false) else (impl_isControl.l0 k x3 x28 x29 (wrap64 (x30 + 1)) x102000 x102001 x102002))) else (some false))) else (some false))) else (none)) else (none)) else (impl_isControl.l1 k x3 x102001 (x102001.length : Int) 0 x102000 x102001 x102002)
def impl_isControl.l1 : Nat → Int → List (S85) → Int → Int → List (S67) → List (S85) → Int → Option (Bool)
  | 0, _, _, _, _, _, _, _ => none
  | k + 1, x3, x67, x68, x69, x102000, x102001, x102002 => if x69 < x68 then (if 0 ≤ x69 then (if x69 < (x67.length : Int) then (if (((rd_T85 x67 x69).f0).length : Int) = 0 then (impl_isControl.j3 k x3 x67 x68 x69 true x102000 x102001 x102002 ((rd_T85 x67 x69).f0) ((rd_T85 x67 x69).f1) ((rd_T85 x67 x69).f2) ((rd_T85 x67 x69).f3) ((rd_T85 x67 x69).f4)) else ((impl_areMembers.f k ((rd_T85 x67 x69).f0) x3).bind fun t110 => (if t110 = true then (if (((rd_T85 x67 x69).f1).length : Int) = 0 then (impl_isControl.j3 k x3 x67 x68 x69 true x102000 x102001 x102002 ((rd_T85 x67 x69).f0) ((rd_T85 x67 x69).f1) ((rd_T85 x67 x69).f2) ((rd_T85 x67 x69).f3) ((rd_T85 x67 x69).f4)) else ((impl_areMembers.f k ((rd_T85 x67 x69).f1) x3).bind fun t111 => (if t111 = true then ((impl_allOf.f k ((rd_T85 x67 x69).f1) ((rd_T85 x67 x69).f0)).bind fun t112 => (if t112 = true then ((impl_in.f ((rd_T85 x67 x69).f3) 0 1000).bind fun t113 => (if t113 = true then ((impl_in.f ((rd_T85 x67 x69).f4) 0 1000).bind fun t114 => (impl_isControl.j3 k x3 x67 x68 x69 (!t114) x102000 x102001 x102002 ((rd_T85 x67 x69).f0) ((rd_T85 x67 x69).f1) ((rd_T85 x67 x69).f2) ((rd_T85 x67 x69).f3) ((rd_T85 x67 x69).f4))) else (impl_isControl.j3 k x3 x67 x68 x69 true x102000 x102001 x102002 ((rd_T85 x67 x69).f0) ((rd_T85 x67 x69).f1) ((rd_T85 x67 x69).f2) ((rd_T85 x67 x69).f3) ((rd_T85 x67 x69).f4)))) else (impl_isControl.j3 k x3 x67 x68 x69 true x102000 x102001 x102002 ((rd_T85 x67 x69).f0) ((rd_T85 x67 x69).f1) ((rd_T85 x67 x69).f2) ((rd_T85 x67 x69).f3) ((rd_T85 x67 x69).f4)))) else (impl_isControl.j3 k x3 x67 x68 x69 true x102000 x102001 x102002 ((rd_T85 x67 x69).f0) ((rd_T85 x67 x69).f1) ((rd_T85 x67 x69).f2) ((rd_T85 x67 x69).f3) ((rd_T85 x67 x69).f4))))) else (impl_isControl.j3 k x3 x67 x68 x69 true x102000 x102001 x102002 ((rd_T85 x67 x69).f0) ((rd_T85 x67 x69).f1) ((rd_T85 x67 x69).f2) ((rd_T85 x67 x69).f3) ((rd_T85 x67 x69).f4))))) else (none)) else (none)) else (some true)
def impl_isControl.j3 : Nat → Int → List (S85) → Int → Int → Bool → List (S67) → List (S85) → Int → List Int → List Int → Int → Int → Int → Option (Bool)
  | 0, _, _, _, _, _, _, _, _, _, _, _, _, _ => none
  | k + 1, x3, x67, x68, x69, x116, x102000, x102001, x102002, x110000, x110001, x110002, x110003, x110004 => if x116 = true then (some false) else ((impl_Control_firstLive.f k x102000 x102001 x102002 x110001).bind fun t115 => (if x110002 = (-1) then (if t115 = (-1) then (impl_isControl.l1 k x3 x67 x68 (wrap64 (x69 + 1)) x102000 x102001 x102002) else (some false)) else ((slices_Contains_int_int.f k x110001 x110002).bind fun t116 => (if t116 = true then (if 0 ≤ x110002 then (if x110002 < (x102000.length : Int) then (if (rd_T67 x102000 x110002).f2 = true then (some false) else (impl_isControl.l1 k x3 x67 x68 (wrap64 (x69 + 1)) x102000 x102001 x102002)) else (none)) else (none)) else (some false)))))
end
def impl_isControl.f (k : Nat) (l0_0 : List (S67)) (l0_1 : List (S85)) (a0_2 : Int) : Option (Bool) := (impl_in.f (l0_0.length : Int) 1 6).bind fun t102 => (if t102 = true then (if (l0_1.length : Int) > 5 then (impl_isControl.j0 k (l0_0.length : Int) true l0_0 l0_1 a0_2) else ((impl_in.f a0_2 1 1000).bind fun t103 => (impl_isControl.j0 k (l0_0.length : Int) (!t103) l0_0 l0_1 a0_2))) else (impl_isControl.j0 k (l0_0.length : Int) true l0_0 l0_1 a0_2))
set_option maxHeartbeats 8000000 in
set_option maxRecDepth 100000 in
theorem impl_isControl.calls (k : Nat) (A0_0 : Option Addr) (c0_0 : Nat) (l0_0 : List (S67)) (A0_1 : Option Addr) (c0_1 : Nat) (l0_1 : List (S85)) (a0_2 : Int) (r : Bool) (w : World) (hr0_0 : Kd.C k67 w A0_0 l0_0.length l0_0) (hc0_0 : l0_0.length ≤ c0_0) (hr0_1 : Kd.C k85 w A0_1 l0_1.length l0_1) (hc0_1 : l0_1.length ≤ c0_1) (h : impl_isControl.f k l0_0 l0_1 a0_2 = some r) :
    Calls Try.prog 65 #[.agg #[.slice A0_0 l0_0.length c0_0, .slice A0_1 l0_1.length c0_1, .int .i64 a0_2]] w fun e w' => e = .returned (.bool r) ∧ Below w.heap.size w w' := by
  have hu25 := Try.underlying25
  have hu67 := Try.underlying67
  have hu85 := Try.underlying85
  have hu31 := Try.underlying31
  have HR0_0 := Aside0.mk hr0_0
  have HC0_0 := Aside0.mk hc0_0
  clear hr0_0 hc0_0
  have HR0_1 := Aside0.mk hr0_1
  have HC0_1 := Aside0.mk hc0_1
  clear hr0_1 hc0_1
  have HB := Aside0.mk (Below.refl w.heap.size w)
  have H : ((impl_in.f (l0_0.length : Int) 1 6).bind fun t102 => (if t102 = true then (if (l0_1.length : Int) > 5 then (impl_isControl.j0 k (l0_0.length : Int) true l0_0 l0_1 a0_2) else ((impl_in.f a0_2 1 1000).bind fun t103 => (impl_isControl.j0 k (l0_0.length : Int) (!t103) l0_0 l0_1 a0_2))) else (impl_isControl.j0 k (l0_0.length : Int) true l0_0 l0_1 a0_2))) = some r := h
  clear h
  have HC2 := Aside0.mk H
  clear H
  go_enter Try.func65, Try.ntmps65
  go_upto_region 2 with (first | ((with_reducible refine gate_dst (N := 1) rfl ?_); (try (refine gate_guard (by rfl) ?_; dsimp only)); refine box_event ?hg (N := 1) ?hd (cs := #[.slice A0_0 l0_0.length c0_0, .slice A0_1 l0_1.length c0_1, .int .i64 a0_2]) (t := 25) ?hr ?_; (case hd => rfl); (case hg => rfl); (case hr => first | (go_simp; done) | (go_simp; rfl)); intro gb101 hg w3 hbox hb; have n0_ := Aside0.mk (below_step (by repeat (first | (with_reducible first | exact HB.out | apply below_alloc | apply pw_below_drewN | apply below_drew1) | exact HB.out)) hb); have n1_ := Aside0.mk (hbox); have n2_ := Aside0.mk ((by rw [hg]; exact (below_size (by repeat (first | (with_reducible first | exact HB.out | apply below_alloc | apply pw_below_drewN | apply below_drew1) | exact HB.out))) : w.heap.size ≤ gb101)); have n3_ := Aside0.mk ((by rw [hg]; exact (below_size (by repeat (first | (with_reducible first | exact HB.out | apply below_alloc | apply pw_below_drewN | apply below_drew1) | exact HB.out))) : w.heap.size ≤ gb101)); clear HB; have HB := n0_; have BK101 := n1_; have GW101 := n2_; have GE101 := n3_; clear n0_ n1_ n2_ n3_; clear hb hbox hg; have hcz4_0 : w3.cell? ⟨gb101, 0, none⟩ = some (.slice A0_0 l0_0.length c0_0) := (blk_cell BK101.out 0).trans rfl; have hcz4_1 : w3.cell? ⟨gb101, 1, none⟩ = some (.slice A0_1 l0_1.length c0_1) := (blk_cell BK101.out 1).trans rfl; have hcz4_2 : w3.cell? ⟨gb101, 2, none⟩ = some (.int .i64 a0_2) := (blk_cell BK101.out 2).trans rfl; have hfz4_0 := blk_frozen BK101.out 0; have hfz4_1 := blk_frozen BK101.out 1; have hfz4_2 := blk_frozen BK101.out 2))
  (try simp only [Act.put, List.setIfInBounds_toArray, List.set_cons_zero, List.set_cons_succ])
  go_cut [26] (fun v26 wc => ∃ (kq : Nat) (x26_1 : Bool), v26 = .bool x26_1 ∧ Aside0 (impl_isControl.j0 kq (l0_0.length : Int) x26_1 l0_0 l0_1 a0_2 = some r) ∧ Aside0 (kq ≤ k) ∧ Aside0 (wc.heap[gb101]? = some (.cells #[(.slice A0_0 l0_0.length c0_0), (.slice A0_1 l0_1.length c0_1), .int .i64 a0_2] 25 (0, 0))) ∧ Aside0 (Below w.heap.size w wc))
  case first =>
    have H := HC2.out
    clear HC2
    replace H := Option.bind_eq_some_iff.mp H
    obtain ⟨t102, A50, H⟩ := H
    replace H : (if t102 = true then (if (l0_1.length : Int) > 5 then (impl_isControl.j0 k (l0_0.length : Int) true l0_0 l0_1 a0_2) else ((impl_in.f a0_2 1 1000).bind fun t103 => (impl_isControl.j0 k (l0_0.length : Int) (!t103) l0_0 l0_1 a0_2))) else (impl_isControl.j0 k (l0_0.length : Int) true l0_0 l0_1 a0_2)) = some r := H
    have A5 := Aside0.mk A50
    clear A50
    by_cases c6 : t102 = true
    · subst c6
      have H1 : (if (l0_1.length : Int) > 5 then (impl_isControl.j0 k (l0_0.length : Int) true l0_0 l0_1 a0_2) else ((impl_in.f a0_2 1 1000).bind fun t103 => (impl_isControl.j0 k (l0_0.length : Int) (!t103) l0_0 l0_1 a0_2))) = some r := by rw [if_pos rfl] at H; exact H
      clear H
      have H := H1
      clear H1
      by_cases c7 : (l0_1.length : Int) > 5
      · rw [if_pos c7] at H
        have c7b0 : decide (5 < (l0_1.length : Int)) = true := decide_eq_true c7
        have c7b1 : decide (5 < l0_1.length) = true := decide_eq_true (by omega)
        clear c7
        (first | rw [c7b0] | (simp only [i64_w, i32_w]; rw [c7b0]) | skip)
        have H' := Aside0.mk H
        clear H
        go_wp2_with (first | ((with_reducible refine gate_callee (f := 44) rfl ?_); refine goesL_ (some 13) rfl rfl Try.func44 (by kernel_rfl) rfl #[.int .i64 (l0_0.length : Int), .int .i64 1, .int .i64 6] rfl (by (try simp only [List.map_toArray, List.map_cons, List.map_nil]); first | done | rfl | (simp only [List.length_drop, List.length_take]; rfl)) ?_; (with_reducible refine (impl_in.calls (l0_0.length : Int) 1 6 true _ A5.out).mono ?_); rintro e w' ⟨rfl, ⟨nd, rfl⟩⟩; refine ⟨_, rfl, ?_⟩; have hcz8_0 : w3.cell? ⟨gb101, 0, none⟩ = some (.slice A0_0 l0_0.length c0_0) := (blk_cell BK101.out 0).trans rfl; have hcz8_1 : w3.cell? ⟨gb101, 1, none⟩ = some (.slice A0_1 l0_1.length c0_1) := (blk_cell BK101.out 1).trans rfl; have hcz8_2 : w3.cell? ⟨gb101, 2, none⟩ = some (.int .i64 a0_2) := (blk_cell BK101.out 2).trans rfl; have hfz8_0 := blk_frozen BK101.out 0; have hfz8_1 := blk_frozen BK101.out 1; have hfz8_2 := blk_frozen BK101.out 2))
        go_meet
        case rel => exact ⟨_, (true), (by first | rfl | (simp; done) | (simp [*]; done)), H', ⟨by first | omega | exact Nat.le_refl _⟩, ⟨by (with_reducible repeat (first | refine blk_drewN ?_ _ | refine blk_drew ?_ | refine blk_alloc ?_ _)); exact BK101.out⟩, ⟨by repeat (first | (with_reducible first | exact HB.out | apply below_alloc | apply pw_below_drewN | apply below_drew1 | refine below_set ?_ GE101.out) | exact HB.out)⟩⟩
      · rw [if_neg c7] at H
        have c7b0 : decide (5 < (l0_1.length : Int)) = false := decide_eq_false c7
        have c7b1 : decide (5 < l0_1.length) = false := decide_eq_false (by omega)
        clear c7
        (first | rw [c7b0] | (simp only [i64_w, i32_w]; rw [c7b0]) | skip)
        replace H := Option.bind_eq_some_iff.mp H
        obtain ⟨t103, A90, H⟩ := H
        replace H : (impl_isControl.j0 k (l0_0.length : Int) (!t103) l0_0 l0_1 a0_2) = some r := H
        have A9 := Aside0.mk A90
        clear A90
        have H' := Aside0.mk H
        clear H
        go_wp2_with (first | ((with_reducible refine gate_callee (f := 44) rfl ?_); refine goesL_ (some 13) rfl rfl Try.func44 (by kernel_rfl) rfl #[.int .i64 (l0_0.length : Int), .int .i64 1, .int .i64 6] rfl (by (try simp only [List.map_toArray, List.map_cons, List.map_nil]); first | done | rfl | (simp only [List.length_drop, List.length_take]; rfl)) ?_; (with_reducible refine (impl_in.calls (l0_0.length : Int) 1 6 true _ A5.out).mono ?_); rintro e w' ⟨rfl, ⟨nd, rfl⟩⟩; refine ⟨_, rfl, ?_⟩; have hcz10_0 : w3.cell? ⟨gb101, 0, none⟩ = some (.slice A0_0 l0_0.length c0_0) := (blk_cell BK101.out 0).trans rfl; have hcz10_1 : w3.cell? ⟨gb101, 1, none⟩ = some (.slice A0_1 l0_1.length c0_1) := (blk_cell BK101.out 1).trans rfl; have hcz10_2 : w3.cell? ⟨gb101, 2, none⟩ = some (.int .i64 a0_2) := (blk_cell BK101.out 2).trans rfl; have hfz10_0 := blk_frozen BK101.out 0; have hfz10_1 := blk_frozen BK101.out 1; have hfz10_2 := blk_frozen BK101.out 2) | (go_at_call 44; (with_reducible refine (impl_in.calls a0_2 1 1000 t103 _ A9.out).mono ?_); rintro e w' ⟨rfl, ⟨nd, rfl⟩⟩))
        go_meet
        case rel => exact ⟨_, (!t103), (by first | rfl | (simp; done) | (simp [*]; done)), H', ⟨by first | omega | exact Nat.le_refl _⟩, ⟨by (with_reducible repeat (first | refine blk_drewN ?_ _ | refine blk_drew ?_ | refine blk_alloc ?_ _)); exact BK101.out⟩, ⟨by repeat (first | (with_reducible first | exact HB.out | apply below_alloc | apply pw_below_drewN | apply below_drew1 | refine below_set ?_ GE101.out) | exact HB.out)⟩⟩
    · replace c6 := Bool.eq_false_iff.mpr c6
      subst c6
      have H1 : (impl_isControl.j0 k (l0_0.length : Int) true l0_0 l0_1 a0_2) = some r := by rw [if_neg (show ¬ (false = true) by decide)] at H; exact H
      clear H
      have H := H1
      clear H1
      have H' := Aside0.mk H
      clear H
      go_wp2_with (first | ((with_reducible refine gate_callee (f := 44) rfl ?_); refine goesL_ (some 13) rfl rfl Try.func44 (by kernel_rfl) rfl #[.int .i64 (l0_0.length : Int), .int .i64 1, .int .i64 6] rfl (by (try simp only [List.map_toArray, List.map_cons, List.map_nil]); first | done | rfl | (simp only [List.length_drop, List.length_take]; rfl)) ?_; (with_reducible refine (impl_in.calls (l0_0.length : Int) 1 6 false _ A5.out).mono ?_); rintro e w' ⟨rfl, ⟨nd, rfl⟩⟩; refine ⟨_, rfl, ?_⟩))
      go_meet
      case rel => exact ⟨_, (true), (by first | rfl | (simp; done) | (simp [*]; done)), H', ⟨by first | omega | exact Nat.le_refl _⟩, ⟨by (with_reducible repeat (first | refine blk_drewN ?_ _ | refine blk_drew ?_ | refine blk_alloc ?_ _)); exact BK101.out⟩, ⟨by repeat (first | (with_reducible first | exact HB.out | apply below_alloc | apply pw_below_drewN | apply below_drew1 | refine below_set ?_ GE101.out) | exact HB.out)⟩⟩
  case rest =>
    clear HC2
    try clear p2
    try clear c4
    try clear c6
    try clear c7
    try clear c7b0
    try clear c7b1
    try clear hcz10_0
    try clear hcz10_1
    try clear hcz10_2
    try clear hcz4_0
    try clear hcz4_1
    try clear hcz4_2
    try clear hcz8_0
    try clear hcz8_1
    try clear hcz8_2
    try clear hfz10_0
    try clear hfz10_1
    try clear hfz10_2
    try clear hfz4_0
    try clear hfz4_1
    try clear hfz4_2
    try clear hfz8_0
    try clear hfz8_1
    try clear hfz8_2
    obtain ⟨kq, x26_1, rfl, HA, HJ1, BK101, HB⟩ := hcut
    cases kq with
    | zero => exact absurd HA.out (by simp [impl_isControl.j0])
    | succ kj1 =>
      have H := HA.out
      clear HA
      simp only [impl_isControl.j0] at H
      by_cases c11 : x26_1 = true
      · subst c11
        have H1 : (some false) = some r := by rw [if_pos rfl] at H; exact H
        clear H
        have H := H1
        clear H1
        obtain rfl := Option.some.inj H
        go_wp2
        go_ret
        exact ⟨by first | rfl | (simp [errW_none, errW_some] <;> rfl) | (simp [*, errW_none, errW_some] <;> rfl), by repeat (first | (with_reducible first | exact HB.out | apply below_alloc | apply pw_below_drewN | apply below_drew1 | refine below_set ?_ GE101.out) | exact HB.out)⟩
      · replace c11 := Bool.eq_false_iff.mpr c11
        subst c11
        have H1 : (impl_isControl.l0 kj1 (l0_0.length : Int) l0_0 (l0_0.length : Int) 0 l0_0 l0_1 a0_2) = some r := by rw [if_neg (show ¬ (false = true) by decide)] at H; exact H
        clear H
        have H := H1
        clear H1
        have H' := Aside0.mk H
        clear H
        have hcz12_0 : wc.cell? ⟨gb101, 0, none⟩ = some (.slice A0_0 l0_0.length c0_0) := (blk_cell BK101.out 0).trans rfl
        have hcz12_1 : wc.cell? ⟨gb101, 1, none⟩ = some (.slice A0_1 l0_1.length c0_1) := (blk_cell BK101.out 1).trans rfl
        have hcz12_2 : wc.cell? ⟨gb101, 2, none⟩ = some (.int .i64 a0_2) := (blk_cell BK101.out 2).trans rfl
        have hfz12_0 := blk_frozen BK101.out 0
        have hfz12_1 := blk_frozen BK101.out 1
        have hfz12_2 := blk_frozen BK101.out 2
        go_wp2
        go_loopg [30] kj1 (fun kq v30 w' => ∃ (x30_2 : Int), v30 = .int .i64 x30_2 ∧ Aside0 (impl_isControl.l0 kq (l0_0.length : Int) l0_0 (l0_0.length : Int) x30_2 l0_0 l0_1 a0_2 = some r) ∧ Aside0 (kq ≤ kj1) ∧ Aside0 (w'.heap[gb101]? = some (.cells #[(.slice A0_0 l0_0.length c0_0), (.slice A0_1 l0_1.length c0_1), .int .i64 a0_2] 25 (0, 0))) ∧ Aside0 (Below w.heap.size w w'))
        case atStart => exact ⟨(0), (by first | rfl | (simp; done) | (simp [*]; done)), H', ⟨Nat.le_refl _⟩, ⟨by (with_reducible repeat (first | refine blk_drewN ?_ _ | refine blk_drew ?_ | refine blk_alloc ?_ _)); exact BK101.out⟩, ⟨by repeat (first | (with_reducible first | exact HB.out | apply below_alloc | apply pw_below_drewN | apply below_drew1 | refine below_set ?_ GE101.out) | exact HB.out)⟩⟩
        case round =>
          clear H'
          try clear c1
          try clear p2
          try clear c4
          try clear c6
          try clear c7
          try clear c7b0
          try clear c7b1
          try clear c11
          try clear hcz10_0
          try clear hcz10_1
          try clear hcz10_2
          try clear hcz12_0
          try clear hcz12_1
          try clear hcz12_2
          try clear hcz4_0
          try clear hcz4_1
          try clear hcz4_2
          try clear hcz8_0
          try clear hcz8_1
          try clear hcz8_2
          try clear hfz10_0
          try clear hfz10_1
          try clear hfz10_2
          try clear hfz12_0
          try clear hfz12_1
          try clear hfz12_2
          try clear hfz4_0
          try clear hfz4_1
          try clear hfz4_2
          try clear hfz8_0
          try clear hfz8_1
          try clear hfz8_2
          try clear p2
          obtain ⟨x30_2, rfl, HA, HK2, BK101, HB⟩ := hrel
          cases gk with
          | zero => exact absurd HA.out (by simp [impl_isControl.l0])
          | succ k2 =>
            have H := HA.out
            clear HA
            simp only [impl_isControl.l0] at H
            by_cases c13 : x30_2 < (l0_0.length : Int)
            · rw [if_pos c13] at H
              have c13b0 : decide (x30_2 < (l0_0.length : Int)) = true := decide_eq_true c13
              clear c13
              by_cases c14 : 0 ≤ x30_2
              · rw [if_pos c14] at H
                have c14b0 : decide (0 ≤ x30_2) = true := decide_eq_true c14
                clear c14
                by_cases c15 : x30_2 < (l0_0.length : Int)
                · rw [if_pos c15] at H
                  have c15b0 : decide (x30_2 < (l0_0.length : Int)) = true := decide_eq_true c15
                  clear c15
                  replace H := Option.bind_eq_some_iff.mp H
                  obtain ⟨t106, A160, H⟩ := H
                  replace H : (if t106 = true then ((impl_in.f ((rd_T67 l0_0 x30_2).f1) 0 9).bind fun t107 => (if t107 = true then (if ((rd_T67 l0_0 x30_2).f0) = 0 then (if ((rd_T67 l0_0 x30_2).f1) = 0 then (if (((rd_T67 l0_0 x30_2).f2) != (((rd_T67 l0_0 x30_2).f1) == 0)) = true then (some false) else (impl_isControl.l0 k2 (l0_0.length : Int) l0_0 (l0_0.length : Int) (wrap64 (x30_2 + 1)) l0_0 l0_1 a0_2)) else (some false)) else (if (((rd_T67 l0_0 x30_2).f2) != (((rd_T67 l0_0 x30_2).f1) == 0)) = true then (some false) else (impl_isControl.l0 k2 (l0_0.length : Int) l0_0 (l0_0.length : Int) (wrap64 (x30_2 + 1)) l0_0 l0_1 a0_2))) else (some false))) else (some false)) = some r := H
                  have A16 := Aside0.mk A160
                  clear A160
                  by_cases c17 : t106 = true
                  · subst c17
                    have H1 : ((impl_in.f ((rd_T67 l0_0 x30_2).f1) 0 9).bind fun t107 => (if t107 = true then (if ((rd_T67 l0_0 x30_2).f0) = 0 then (if ((rd_T67 l0_0 x30_2).f1) = 0 then (if (((rd_T67 l0_0 x30_2).f2) != (((rd_T67 l0_0 x30_2).f1) == 0)) = true then (some false) else (impl_isControl.l0 k2 (l0_0.length : Int) l0_0 (l0_0.length : Int) (wrap64 (x30_2 + 1)) l0_0 l0_1 a0_2)) else (some false)) else (if (((rd_T67 l0_0 x30_2).f2) != (((rd_T67 l0_0 x30_2).f1) == 0)) = true then (some false) else (impl_isControl.l0 k2 (l0_0.length : Int) l0_0 (l0_0.length : Int) (wrap64 (x30_2 + 1)) l0_0 l0_1 a0_2))) else (some false))) = some r := by rw [if_pos rfl] at H; exact H
                    clear H
                    have H := H1
                    clear H1
                    replace H := Option.bind_eq_some_iff.mp H
                    obtain ⟨t107, A180, H⟩ := H
                    replace H : (if t107 = true then (if ((rd_T67 l0_0 x30_2).f0) = 0 then (if ((rd_T67 l0_0 x30_2).f1) = 0 then (if (((rd_T67 l0_0 x30_2).f2) != (((rd_T67 l0_0 x30_2).f1) == 0)) = true then (some false) else (impl_isControl.l0 k2 (l0_0.length : Int) l0_0 (l0_0.length : Int) (wrap64 (x30_2 + 1)) l0_0 l0_1 a0_2)) else (some false)) else (if (((rd_T67 l0_0 x30_2).f2) != (((rd_T67 l0_0 x30_2).f1) == 0)) = true then (some false) else (impl_isControl.l0 k2 (l0_0.length : Int) l0_0 (l0_0.length : Int) (wrap64 (x30_2 + 1)) l0_0 l0_1 a0_2))) else (some false)) = some r := H
                    have A18 := Aside0.mk A180
                    clear A180
                    by_cases c19 : t107 = true
                    · subst c19
                      have H1 : (if ((rd_T67 l0_0 x30_2).f0) = 0 then (if ((rd_T67 l0_0 x30_2).f1) = 0 then (if (((rd_T67 l0_0 x30_2).f2) != (((rd_T67 l0_0 x30_2).f1) == 0)) = true then (some false) else (impl_isControl.l0 k2 (l0_0.length : Int) l0_0 (l0_0.length : Int) (wrap64 (x30_2 + 1)) l0_0 l0_1 a0_2)) else (some false)) else (if (((rd_T67 l0_0 x30_2).f2) != (((rd_T67 l0_0 x30_2).f1) == 0)) = true then (some false) else (impl_isControl.l0 k2 (l0_0.length : Int) l0_0 (l0_0.length : Int) (wrap64 (x30_2 + 1)) l0_0 l0_1 a0_2))) = some r := by rw [if_pos rfl] at H; exact H
                      clear H
                      have H := H1
                      clear H1
                      by_cases c20 : ((rd_T67 l0_0 x30_2).f0) = 0
                      · rw [if_pos c20] at H
                        have c20b0 : (((rd_T67 l0_0 x30_2).f0) == 0) = true := beq_iff_eq.mpr c20
                        have c20b1 : (((rd_T67 l0_0 x30_2).f0) != 0) = false := bne_eq_false_iff_eq.mpr c20
                        clear c20
                        by_cases c21 : ((rd_T67 l0_0 x30_2).f1) = 0
                        · rw [if_pos c21] at H
                          have c21b0 : (((rd_T67 l0_0 x30_2).f1) == 0) = true := beq_iff_eq.mpr c21
                          have c21b1 : (((rd_T67 l0_0 x30_2).f1) != 0) = false := bne_eq_false_iff_eq.mpr c21
                          clear c21
                          by_cases c22 : (((rd_T67 l0_0 x30_2).f2) != (((rd_T67 l0_0 x30_2).f1) == 0)) = true
                          · rw [if_pos c22] at H
                            have c22b0 : (((rd_T67 l0_0 x30_2).f2) != (((rd_T67 l0_0 x30_2).f1) == 0)) = true := c22
                            (try (have c22bz := c22b0; rw [c21b0] at c22bz)); (try (have c22by := c22b0; rw [c21b0] at c22by; simp at c22by))
                            (try (have c22b1 : decide (((rd_T67 l0_0 x30_2).f2) = (((rd_T67 l0_0 x30_2).f1) == 0)) = false := by simpa using c22))
                            (try (have c22b2 : (((rd_T67 l0_0 x30_2).f2) == (((rd_T67 l0_0 x30_2).f1) == 0)) = false := by simpa using c22))
                            (try (have c22b3 : ¬ (((rd_T67 l0_0 x30_2).f2) = (((rd_T67 l0_0 x30_2).f1) == 0)) := by simpa using c22))
                            clear c22
                            obtain rfl := Option.some.inj H
                            have p104 : 0 ≤ (x30_2 : Int) := of_decide_eq_true (by first | (with_reducible assumption) | assumption)
                            have q104 : x30_2 < (l0_0.length : Int) := of_decide_eq_true (by first | (with_reducible assumption) | assumption)
                            obtain ⟨ad104, e104, hx104_0, hx104_1, hx104_2⟩ := at_T67 HR0_0.out x30_2 p104 q104
                            cases e104
                            replace hx104_0 := (HB.out.cell (World.block_lt_of_cell? w _ hx104_0)).trans hx104_0
                            replace hx104_1 := (HB.out.cell (World.block_lt_of_cell? w _ hx104_1)).trans hx104_1
                            replace hx104_2 := (HB.out.cell (World.block_lt_of_cell? w _ hx104_2)).trans hx104_2
                            replace p104 := eq_true p104
                            replace q104 := eq_true q104
                            go_wp2_with (first | ((with_reducible refine gate_dst (N := 5) rfl ?_); (try (refine gate_guard (by rfl) ?_; dsimp only)); refine box_event ?hg (N := 5) ?hd (cs := #[.int .i64 0, .int .i64 0, .bool false]) (t := 67) ?hr ?_; (case hd => rfl); (case hg => rfl); (case hr => first | (go_simp; done) | (go_simp; rfl)); intro gb105 hg w23 hbox hb; have n0_ := Aside0.mk (blk_below (g := gb101) (o := .cells #[.slice (some ad104) l0_0.length c0_0, .slice A0_1 l0_1.length c0_1, .int .i64 a0_2] 25 (0, 0)) (by (with_reducible repeat (first | refine blk_drewN ?_ _ | refine blk_drew ?_ | refine blk_alloc ?_ _)); exact BK101.out) hb); have n1_ := Aside0.mk (below_step (by repeat (first | (with_reducible first | exact HB.out | apply below_alloc | apply pw_below_drewN | apply below_drew1 | refine below_set ?_ GE101.out) | exact HB.out)) hb); have n2_ := Aside0.mk (hbox); have n3_ := Aside0.mk ((by rw [hg]; exact (below_size (by repeat (first | (with_reducible first | exact HB.out | apply below_alloc | apply pw_below_drewN | apply below_drew1 | refine below_set ?_ GE101.out) | exact HB.out))) : w.heap.size ≤ gb105)); have n4_ := Aside0.mk ((by rw [hg]; exact (below_size (by repeat (first | (with_reducible first | exact HB.out | apply below_alloc | apply pw_below_drewN | apply below_drew1 | refine below_set ?_ GE101.out) | exact HB.out))) : w.heap.size ≤ gb105)); have n5_ := Aside0.mk ((by rw [hg]; exact Nat.ne_of_lt (blk_lt (g := gb101) (o := .cells #[.slice (some ad104) l0_0.length c0_0, .slice A0_1 l0_1.length c0_1, .int .i64 a0_2] 25 (0, 0)) (by (with_reducible repeat (first | refine blk_drewN ?_ _ | refine blk_drew ?_ | refine blk_alloc ?_ _)); exact BK101.out)) : gb101 ≠ gb105)); have n6_ := Aside0.mk ((by rw [hg]; exact Nat.ne_of_gt (blk_lt (g := gb101) (o := .cells #[.slice (some ad104) l0_0.length c0_0, .slice A0_1 l0_1.length c0_1, .int .i64 a0_2] 25 (0, 0)) (by (with_reducible repeat (first | refine blk_drewN ?_ _ | refine blk_drew ?_ | refine blk_alloc ?_ _)); exact BK101.out)) : gb105 ≠ gb101)); clear BK101; clear HB; have BK101 := n0_; have HB := n1_; have BK105 := n2_; have GW105 := n3_; have GE105 := n4_; have NB101_105 := n5_; have NB105_101 := n6_; clear n0_ n1_ n2_ n3_ n4_ n5_ n6_; clear hb hbox hg; have hnb24 := NB105_101.out; have hnc24 := NB101_105.out; have hcz25_0 : w23.cell? ⟨gb105, 0, none⟩ = some (.int .i64 0) := (blk_cell BK105.out 0).trans rfl; have hcz25_1 : w23.cell? ⟨gb105, 1, none⟩ = some (.int .i64 0) := (blk_cell BK105.out 1).trans rfl; have hcz25_2 : w23.cell? ⟨gb105, 2, none⟩ = some (.bool false) := (blk_cell BK105.out 2).trans rfl; have hfz25_0 := blk_frozen BK105.out 0; have hfz25_1 := blk_frozen BK105.out 1; have hfz25_2 := blk_frozen BK105.out 2; have hcz26_0 : w23.cell? ⟨gb101, 0, none⟩ = some (.slice (some ad104) l0_0.length c0_0) := (blk_cell BK101.out 0).trans rfl; have hcz26_1 : w23.cell? ⟨gb101, 1, none⟩ = some (.slice A0_1 l0_1.length c0_1) := (blk_cell BK101.out 1).trans rfl; have hcz26_2 : w23.cell? ⟨gb101, 2, none⟩ = some (.int .i64 a0_2) := (blk_cell BK101.out 2).trans rfl; have hfz26_0 := blk_frozen BK101.out 0; have hfz26_1 := blk_frozen BK101.out 1; have hfz26_2 := blk_frozen BK101.out 2) | ((with_reducible refine gate_callee (f := 44) rfl ?_); refine goesL_ (some 39) rfl rfl Try.func44 (by kernel_rfl) rfl #[.int .i64 ((rd_T67 l0_0 x30_2).f0), .int .i64 0, .int .i64 (wrap64 (a0_2 - 1))] rfl (by (try simp only [List.map_toArray, List.map_cons, List.map_nil]); first | done | rfl | (simp only [List.length_drop, List.length_take]; rfl)) ?_; (with_reducible refine (impl_in.calls ((rd_T67 l0_0 x30_2).f0) 0 (wrap64 (a0_2 - 1)) true _ A16.out).mono ?_); rintro e w' ⟨rfl, ⟨nd, rfl⟩⟩; refine ⟨_, rfl, ?_⟩) | (go_at_call 44; (with_reducible refine (impl_in.calls ((rd_T67 l0_0 x30_2).f1) 0 9 true _ A18.out).mono ?_); rintro e w' ⟨rfl, ⟨nd, rfl⟩⟩))
                            go_ret
                            exact ⟨by first | rfl | (simp [errW_none, errW_some] <;> rfl) | (simp [*, errW_none, errW_some] <;> rfl), by repeat (first | (with_reducible first | exact HB.out | apply below_alloc | apply pw_below_drewN | apply below_drew1 | refine below_set ?_ GE101.out | refine below_set ?_ GE105.out) | exact HB.out)⟩
                          · rw [if_neg c22] at H
                            have c22b0 : (((rd_T67 l0_0 x30_2).f2) != (((rd_T67 l0_0 x30_2).f1) == 0)) = false := by simpa using c22
                            (try (have c22bz := c22b0; rw [c21b0] at c22bz)); (try (have c22by := c22b0; rw [c21b0] at c22by; simp at c22by))
                            (try (have c22b1 : decide (((rd_T67 l0_0 x30_2).f2) = (((rd_T67 l0_0 x30_2).f1) == 0)) = true := by simpa using c22))
                            (try (have c22b2 : (((rd_T67 l0_0 x30_2).f2) == (((rd_T67 l0_0 x30_2).f1) == 0)) = true := by simpa using c22))
                            clear c22
                            have H' := Aside0.mk H
                            clear H
                            have p104 : 0 ≤ (x30_2 : Int) := of_decide_eq_true (by first | (with_reducible assumption) | assumption)
                            have q104 : x30_2 < (l0_0.length : Int) := of_decide_eq_true (by first | (with_reducible assumption) | assumption)
                            obtain ⟨ad104, e104, hx104_0, hx104_1, hx104_2⟩ := at_T67 HR0_0.out x30_2 p104 q104
                            cases e104
                            replace hx104_0 := (HB.out.cell (World.block_lt_of_cell? w _ hx104_0)).trans hx104_0
                            replace hx104_1 := (HB.out.cell (World.block_lt_of_cell? w _ hx104_1)).trans hx104_1
                            replace hx104_2 := (HB.out.cell (World.block_lt_of_cell? w _ hx104_2)).trans hx104_2
                            replace p104 := eq_true p104
                            replace q104 := eq_true q104
                            go_wp2_with (first | ((with_reducible refine gate_dst (N := 5) rfl ?_); (try (refine gate_guard (by rfl) ?_; dsimp only)); refine box_event ?hg (N := 5) ?hd (cs := #[.int .i64 0, .int .i64 0, .bool false]) (t := 67) ?hr ?_; (case hd => rfl); (case hg => rfl); (case hr => first | (go_simp; done) | (go_simp; rfl)); intro gb105 hg w27 hbox hb; have n0_ := Aside0.mk (blk_below (g := gb101) (o := .cells #[.slice (some ad104) l0_0.length c0_0, .slice A0_1 l0_1.length c0_1, .int .i64 a0_2] 25 (0, 0)) (by (with_reducible repeat (first | refine blk_drewN ?_ _ | refine blk_drew ?_ | refine blk_alloc ?_ _)); exact BK101.out) hb); have n1_ := Aside0.mk (below_step (by repeat (first | (with_reducible first | exact HB.out | apply below_alloc | apply pw_below_drewN | apply below_drew1 | refine below_set ?_ GE101.out) | exact HB.out)) hb); have n2_ := Aside0.mk (hbox); have n3_ := Aside0.mk ((by rw [hg]; exact (below_size (by repeat (first | (with_reducible first | exact HB.out | apply below_alloc | apply pw_below_drewN | apply below_drew1 | refine below_set ?_ GE101.out) | exact HB.out))) : w.heap.size ≤ gb105)); have n4_ := Aside0.mk ((by rw [hg]; exact (below_size (by repeat (first | (with_reducible first | exact HB.out | apply below_alloc | apply pw_below_drewN | apply below_drew1 | refine below_set ?_ GE101.out) | exact HB.out))) : w.heap.size ≤ gb105)); have n5_ := Aside0.mk ((by rw [hg]; exact Nat.ne_of_lt (blk_lt (g := gb101) (o := .cells #[.slice (some ad104) l0_0.length c0_0, .slice A0_1 l0_1.length c0_1, .int .i64 a0_2] 25 (0, 0)) (by (with_reducible repeat (first | refine blk_drewN ?_ _ | refine blk_drew ?_ | refine blk_alloc ?_ _)); exact BK101.out)) : gb101 ≠ gb105)); have n6_ := Aside0.mk ((by rw [hg]; exact Nat.ne_of_gt (blk_lt (g := gb101) (o := .cells #[.slice (some ad104) l0_0.length c0_0, .slice A0_1 l0_1.length c0_1, .int .i64 a0_2] 25 (0, 0)) (by (with_reducible repeat (first | refine blk_drewN ?_ _ | refine blk_drew ?_ | refine blk_alloc ?_ _)); exact BK101.out)) : gb105 ≠ gb101)); clear BK101; clear HB; have BK101 := n0_; have HB := n1_; have BK105 := n2_; have GW105 := n3_; have GE105 := n4_; have NB101_105 := n5_; have NB105_101 := n6_; clear n0_ n1_ n2_ n3_ n4_ n5_ n6_; clear hb hbox hg; have hnb28 := NB105_101.out; have hnc28 := NB101_105.out; have hcz29_0 : w27.cell? ⟨gb105, 0, none⟩ = some (.int .i64 0) := (blk_cell BK105.out 0).trans rfl; have hcz29_1 : w27.cell? ⟨gb105, 1, none⟩ = some (.int .i64 0) := (blk_cell BK105.out 1).trans rfl; have hcz29_2 : w27.cell? ⟨gb105, 2, none⟩ = some (.bool false) := (blk_cell BK105.out 2).trans rfl; have hfz29_0 := blk_frozen BK105.out 0; have hfz29_1 := blk_frozen BK105.out 1; have hfz29_2 := blk_frozen BK105.out 2; have hcz30_0 : w27.cell? ⟨gb101, 0, none⟩ = some (.slice (some ad104) l0_0.length c0_0) := (blk_cell BK101.out 0).trans rfl; have hcz30_1 : w27.cell? ⟨gb101, 1, none⟩ = some (.slice A0_1 l0_1.length c0_1) := (blk_cell BK101.out 1).trans rfl; have hcz30_2 : w27.cell? ⟨gb101, 2, none⟩ = some (.int .i64 a0_2) := (blk_cell BK101.out 2).trans rfl; have hfz30_0 := blk_frozen BK101.out 0; have hfz30_1 := blk_frozen BK101.out 1; have hfz30_2 := blk_frozen BK101.out 2) | ((with_reducible refine gate_callee (f := 44) rfl ?_); refine goesL_ (some 39) rfl rfl Try.func44 (by kernel_rfl) rfl #[.int .i64 ((rd_T67 l0_0 x30_2).f0), .int .i64 0, .int .i64 (wrap64 (a0_2 - 1))] rfl (by (try simp only [List.map_toArray, List.map_cons, List.map_nil]); first | done | rfl | (simp only [List.length_drop, List.length_take]; rfl)) ?_; (with_reducible refine (impl_in.calls ((rd_T67 l0_0 x30_2).f0) 0 (wrap64 (a0_2 - 1)) true _ A16.out).mono ?_); rintro e w' ⟨rfl, ⟨nd, rfl⟩⟩; refine ⟨_, rfl, ?_⟩) | (go_at_call 44; (with_reducible refine (impl_in.calls ((rd_T67 l0_0 x30_2).f1) 0 9 true _ A18.out).mono ?_); rintro e w' ⟨rfl, ⟨nd, rfl⟩⟩))
                            go_roundg k2
                            case measure => have := HJ1.out; have := HK2.out; omega
                            case rel => exact ⟨(wrap64 (x30_2 + 1)), (by first | rfl | (simp; done) | (simp [*]; done)), H', ⟨by have := HJ1.out; have := HK2.out; omega⟩, ⟨by (with_reducible repeat (first | refine blk_drewN ?_ _ | refine blk_drew ?_ | refine blk_alloc ?_ _)); refine blk_far ?_ NB101_105.out _; (with_reducible repeat (first | refine blk_drewN ?_ _ | refine blk_drew ?_ | refine blk_alloc ?_ _)); refine blk_far ?_ NB101_105.out _; (with_reducible repeat (first | refine blk_drewN ?_ _ | refine blk_drew ?_ | refine blk_alloc ?_ _)); refine blk_far ?_ NB101_105.out _; (with_reducible repeat (first | refine blk_drewN ?_ _ | refine blk_drew ?_ | refine blk_alloc ?_ _)); exact BK101.out⟩, ⟨by repeat (first | (with_reducible first | exact HB.out | apply below_alloc | apply pw_below_drewN | apply below_drew1 | refine below_set ?_ GE101.out | refine below_set ?_ GE105.out) | exact HB.out)⟩⟩
                        · rw [if_neg c21] at H
                          have c21b0 : (((rd_T67 l0_0 x30_2).f1) == 0) = false := beq_eq_false_iff_ne.mpr c21
                          have c21b1 : (((rd_T67 l0_0 x30_2).f1) != 0) = true := bne_iff_ne.mpr c21
                          obtain rfl := Option.some.inj H
                          have p104 : 0 ≤ (x30_2 : Int) := of_decide_eq_true (by first | (with_reducible assumption) | assumption)
                          have q104 : x30_2 < (l0_0.length : Int) := of_decide_eq_true (by first | (with_reducible assumption) | assumption)
                          obtain ⟨ad104, e104, hx104_0, hx104_1, hx104_2⟩ := at_T67 HR0_0.out x30_2 p104 q104
                          cases e104
                          replace hx104_0 := (HB.out.cell (World.block_lt_of_cell? w _ hx104_0)).trans hx104_0
                          replace hx104_1 := (HB.out.cell (World.block_lt_of_cell? w _ hx104_1)).trans hx104_1
                          replace hx104_2 := (HB.out.cell (World.block_lt_of_cell? w _ hx104_2)).trans hx104_2
                          replace p104 := eq_true p104
                          replace q104 := eq_true q104
                          go_wp2_with (first | ((with_reducible refine gate_dst (N := 5) rfl ?_); (try (refine gate_guard (by rfl) ?_; dsimp only)); refine box_event ?hg (N := 5) ?hd (cs := #[.int .i64 0, .int .i64 0, .bool false]) (t := 67) ?hr ?_; (case hd => rfl); (case hg => rfl); (case hr => first | (go_simp; done) | (go_simp; rfl)); intro gb105 hg w31 hbox hb; have n0_ := Aside0.mk (blk_below (g := gb101) (o := .cells #[.slice (some ad104) l0_0.length c0_0, .slice A0_1 l0_1.length c0_1, .int .i64 a0_2] 25 (0, 0)) (by (with_reducible repeat (first | refine blk_drewN ?_ _ | refine blk_drew ?_ | refine blk_alloc ?_ _)); exact BK101.out) hb); have n1_ := Aside0.mk (below_step (by repeat (first | (with_reducible first | exact HB.out | apply below_alloc | apply pw_below_drewN | apply below_drew1 | refine below_set ?_ GE101.out) | exact HB.out)) hb); have n2_ := Aside0.mk (hbox); have n3_ := Aside0.mk ((by rw [hg]; exact (below_size (by repeat (first | (with_reducible first | exact HB.out | apply below_alloc | apply pw_below_drewN | apply below_drew1 | refine below_set ?_ GE101.out) | exact HB.out))) : w.heap.size ≤ gb105)); have n4_ := Aside0.mk ((by rw [hg]; exact (below_size (by repeat (first | (with_reducible first | exact HB.out | apply below_alloc | apply pw_below_drewN | apply below_drew1 | refine below_set ?_ GE101.out) | exact HB.out))) : w.heap.size ≤ gb105)); have n5_ := Aside0.mk ((by rw [hg]; exact Nat.ne_of_lt (blk_lt (g := gb101) (o := .cells #[.slice (some ad104) l0_0.length c0_0, .slice A0_1 l0_1.length c0_1, .int .i64 a0_2] 25 (0, 0)) (by (with_reducible repeat (first | refine blk_drewN ?_ _ | refine blk_drew ?_ | refine blk_alloc ?_ _)); exact BK101.out)) : gb101 ≠ gb105)); have n6_ := Aside0.mk ((by rw [hg]; exact Nat.ne_of_gt (blk_lt (g := gb101) (o := .cells #[.slice (some ad104) l0_0.length c0_0, .slice A0_1 l0_1.length c0_1, .int .i64 a0_2] 25 (0, 0)) (by (with_reducible repeat (first | refine blk_drewN ?_ _ | refine blk_drew ?_ | refine blk_alloc ?_ _)); exact BK101.out)) : gb105 ≠ gb101)); clear BK101; clear HB; have BK101 := n0_; have HB := n1_; have BK105 := n2_; have GW105 := n3_; have GE105 := n4_; have NB101_105 := n5_; have NB105_101 := n6_; clear n0_ n1_ n2_ n3_ n4_ n5_ n6_; clear hb hbox hg; have hnb32 := NB105_101.out; have hnc32 := NB101_105.out; have hcz33_0 : w31.cell? ⟨gb105, 0, none⟩ = some (.int .i64 0) := (blk_cell BK105.out 0).trans rfl; have hcz33_1 : w31.cell? ⟨gb105, 1, none⟩ = some (.int .i64 0) := (blk_cell BK105.out 1).trans rfl; have hcz33_2 : w31.cell? ⟨gb105, 2, none⟩ = some (.bool false) := (blk_cell BK105.out 2).trans rfl; have hfz33_0 := blk_frozen BK105.out 0; have hfz33_1 := blk_frozen BK105.out 1; have hfz33_2 := blk_frozen BK105.out 2; have hcz34_0 : w31.cell? ⟨gb101, 0, none⟩ = some (.slice (some ad104) l0_0.length c0_0) := (blk_cell BK101.out 0).trans rfl; have hcz34_1 : w31.cell? ⟨gb101, 1, none⟩ = some (.slice A0_1 l0_1.length c0_1) := (blk_cell BK101.out 1).trans rfl; have hcz34_2 : w31.cell? ⟨gb101, 2, none⟩ = some (.int .i64 a0_2) := (blk_cell BK101.out 2).trans rfl; have hfz34_0 := blk_frozen BK101.out 0; have hfz34_1 := blk_frozen BK101.out 1; have hfz34_2 := blk_frozen BK101.out 2) | ((with_reducible refine gate_callee (f := 44) rfl ?_); refine goesL_ (some 39) rfl rfl Try.func44 (by kernel_rfl) rfl #[.int .i64 ((rd_T67 l0_0 x30_2).f0), .int .i64 0, .int .i64 (wrap64 (a0_2 - 1))] rfl (by (try simp only [List.map_toArray, List.map_cons, List.map_nil]); first | done | rfl | (simp only [List.length_drop, List.length_take]; rfl)) ?_; (with_reducible refine (impl_in.calls ((rd_T67 l0_0 x30_2).f0) 0 (wrap64 (a0_2 - 1)) true _ A16.out).mono ?_); rintro e w' ⟨rfl, ⟨nd, rfl⟩⟩; refine ⟨_, rfl, ?_⟩) | (go_at_call 44; (with_reducible refine (impl_in.calls ((rd_T67 l0_0 x30_2).f1) 0 9 true _ A18.out).mono ?_); rintro e w' ⟨rfl, ⟨nd, rfl⟩⟩))
                          go_ret
                          exact ⟨by first | rfl | (simp [errW_none, errW_some] <;> rfl) | (simp [*, errW_none, errW_some] <;> rfl), by repeat (first | (with_reducible first | exact HB.out | apply below_alloc | apply pw_below_drewN | apply below_drew1 | refine below_set ?_ GE101.out | refine below_set ?_ GE105.out) | exact HB.out)⟩
                      · rw [if_neg c20] at H
                        have c20b0 : (((rd_T67 l0_0 x30_2).f0) == 0) = false := beq_eq_false_iff_ne.mpr c20
                        have c20b1 : (((rd_T67 l0_0 x30_2).f0) != 0) = true := bne_iff_ne.mpr c20
                        by_cases c35 : (((rd_T67 l0_0 x30_2).f2) != (((rd_T67 l0_0 x30_2).f1) == 0)) = true
                        · rw [if_pos c35] at H
                          have c35b0 : (((rd_T67 l0_0 x30_2).f2) != (((rd_T67 l0_0 x30_2).f1) == 0)) = true := c35
                          (try (have c35b1 : decide (((rd_T67 l0_0 x30_2).f2) = (((rd_T67 l0_0 x30_2).f1) == 0)) = false := by simpa using c35))
                          (try (have c35b2 : (((rd_T67 l0_0 x30_2).f2) == (((rd_T67 l0_0 x30_2).f1) == 0)) = false := by simpa using c35))
                          (try (have c35b3 : ¬ (((rd_T67 l0_0 x30_2).f2) = (((rd_T67 l0_0 x30_2).f1) == 0)) := by simpa using c35))
                          clear c35
                          obtain rfl := Option.some.inj H
                          have p104 : 0 ≤ (x30_2 : Int) := of_decide_eq_true (by first | (with_reducible assumption) | assumption)
                          have q104 : x30_2 < (l0_0.length : Int) := of_decide_eq_true (by first | (with_reducible assumption) | assumption)
                          obtain ⟨ad104, e104, hx104_0, hx104_1, hx104_2⟩ := at_T67 HR0_0.out x30_2 p104 q104
                          cases e104
                          replace hx104_0 := (HB.out.cell (World.block_lt_of_cell? w _ hx104_0)).trans hx104_0
                          replace hx104_1 := (HB.out.cell (World.block_lt_of_cell? w _ hx104_1)).trans hx104_1
                          replace hx104_2 := (HB.out.cell (World.block_lt_of_cell? w _ hx104_2)).trans hx104_2
                          replace p104 := eq_true p104
                          replace q104 := eq_true q104
                          go_wp2_with (first | ((with_reducible refine gate_dst (N := 5) rfl ?_); (try (refine gate_guard (by rfl) ?_; dsimp only)); refine box_event ?hg (N := 5) ?hd (cs := #[.int .i64 0, .int .i64 0, .bool false]) (t := 67) ?hr ?_; (case hd => rfl); (case hg => rfl); (case hr => first | (go_simp; done) | (go_simp; rfl)); intro gb105 hg w36 hbox hb; have n0_ := Aside0.mk (blk_below (g := gb101) (o := .cells #[.slice (some ad104) l0_0.length c0_0, .slice A0_1 l0_1.length c0_1, .int .i64 a0_2] 25 (0, 0)) (by (with_reducible repeat (first | refine blk_drewN ?_ _ | refine blk_drew ?_ | refine blk_alloc ?_ _)); exact BK101.out) hb); have n1_ := Aside0.mk (below_step (by repeat (first | (with_reducible first | exact HB.out | apply below_alloc | apply pw_below_drewN | apply below_drew1 | refine below_set ?_ GE101.out) | exact HB.out)) hb); have n2_ := Aside0.mk (hbox); have n3_ := Aside0.mk ((by rw [hg]; exact (below_size (by repeat (first | (with_reducible first | exact HB.out | apply below_alloc | apply pw_below_drewN | apply below_drew1 | refine below_set ?_ GE101.out) | exact HB.out))) : w.heap.size ≤ gb105)); have n4_ := Aside0.mk ((by rw [hg]; exact (below_size (by repeat (first | (with_reducible first | exact HB.out | apply below_alloc | apply pw_below_drewN | apply below_drew1 | refine below_set ?_ GE101.out) | exact HB.out))) : w.heap.size ≤ gb105)); have n5_ := Aside0.mk ((by rw [hg]; exact Nat.ne_of_lt (blk_lt (g := gb101) (o := .cells #[.slice (some ad104) l0_0.length c0_0, .slice A0_1 l0_1.length c0_1, .int .i64 a0_2] 25 (0, 0)) (by (with_reducible repeat (first | refine blk_drewN ?_ _ | refine blk_drew ?_ | refine blk_alloc ?_ _)); exact BK101.out)) : gb101 ≠ gb105)); have n6_ := Aside0.mk ((by rw [hg]; exact Nat.ne_of_gt (blk_lt (g := gb101) (o := .cells #[.slice (some ad104) l0_0.length c0_0, .slice A0_1 l0_1.length c0_1, .int .i64 a0_2] 25 (0, 0)) (by (with_reducible repeat (first | refine blk_drewN ?_ _ | refine blk_drew ?_ | refine blk_alloc ?_ _)); exact BK101.out)) : gb105 ≠ gb101)); clear BK101; clear HB; have BK101 := n0_; have HB := n1_; have BK105 := n2_; have GW105 := n3_; have GE105 := n4_; have NB101_105 := n5_; have NB105_101 := n6_; clear n0_ n1_ n2_ n3_ n4_ n5_ n6_; clear hb hbox hg; have hnb37 := NB105_101.out; have hnc37 := NB101_105.out; have hcz38_0 : w36.cell? ⟨gb105, 0, none⟩ = some (.int .i64 0) := (blk_cell BK105.out 0).trans rfl; have hcz38_1 : w36.cell? ⟨gb105, 1, none⟩ = some (.int .i64 0) := (blk_cell BK105.out 1).trans rfl; have hcz38_2 : w36.cell? ⟨gb105, 2, none⟩ = some (.bool false) := (blk_cell BK105.out 2).trans rfl; have hfz38_0 := blk_frozen BK105.out 0; have hfz38_1 := blk_frozen BK105.out 1; have hfz38_2 := blk_frozen BK105.out 2; have hcz39_0 : w36.cell? ⟨gb101, 0, none⟩ = some (.slice (some ad104) l0_0.length c0_0) := (blk_cell BK101.out 0).trans rfl; have hcz39_1 : w36.cell? ⟨gb101, 1, none⟩ = some (.slice A0_1 l0_1.length c0_1) := (blk_cell BK101.out 1).trans rfl; have hcz39_2 : w36.cell? ⟨gb101, 2, none⟩ = some (.int .i64 a0_2) := (blk_cell BK101.out 2).trans rfl; have hfz39_0 := blk_frozen BK101.out 0; have hfz39_1 := blk_frozen BK101.out 1; have hfz39_2 := blk_frozen BK101.out 2) | ((with_reducible refine gate_callee (f := 44) rfl ?_); refine goesL_ (some 39) rfl rfl Try.func44 (by kernel_rfl) rfl #[.int .i64 ((rd_T67 l0_0 x30_2).f0), .int .i64 0, .int .i64 (wrap64 (a0_2 - 1))] rfl (by (try simp only [List.map_toArray, List.map_cons, List.map_nil]); first | done | rfl | (simp only [List.length_drop, List.length_take]; rfl)) ?_; (with_reducible refine (impl_in.calls ((rd_T67 l0_0 x30_2).f0) 0 (wrap64 (a0_2 - 1)) true _ A16.out).mono ?_); rintro e w' ⟨rfl, ⟨nd, rfl⟩⟩; refine ⟨_, rfl, ?_⟩) | (go_at_call 44; (with_reducible refine (impl_in.calls ((rd_T67 l0_0 x30_2).f1) 0 9 true _ A18.out).mono ?_); rintro e w' ⟨rfl, ⟨nd, rfl⟩⟩))
                          go_ret
                          exact ⟨by first | rfl | (simp [errW_none, errW_some] <;> rfl) | (simp [*, errW_none, errW_some] <;> rfl), by repeat (first | (with_reducible first | exact HB.out | apply below_alloc | apply pw_below_drewN | apply below_drew1 | refine below_set ?_ GE101.out | refine below_set ?_ GE105.out) | exact HB.out)⟩
                        · rw [if_neg c35] at H
                          have c35b0 : (((rd_T67 l0_0 x30_2).f2) != (((rd_T67 l0_0 x30_2).f1) == 0)) = false := by simpa using c35
                          (try (have c35b1 : decide (((rd_T67 l0_0 x30_2).f2) = (((rd_T67 l0_0 x30_2).f1) == 0)) = true := by simpa using c35))
                          (try (have c35b2 : (((rd_T67 l0_0 x30_2).f2) == (((rd_T67 l0_0 x30_2).f1) == 0)) = true := by simpa using c35))
                          clear c35
                          have H' := Aside0.mk H
                          clear H
                          have p104 : 0 ≤ (x30_2 : Int) := of_decide_eq_true (by first | (with_reducible assumption) | assumption)
                          have q104 : x30_2 < (l0_0.length : Int) := of_decide_eq_true (by first | (with_reducible assumption) | assumption)
                          obtain ⟨ad104, e104, hx104_0, hx104_1, hx104_2⟩ := at_T67 HR0_0.out x30_2 p104 q104
                          cases e104
                          replace hx104_0 := (HB.out.cell (World.block_lt_of_cell? w _ hx104_0)).trans hx104_0
                          replace hx104_1 := (HB.out.cell (World.block_lt_of_cell? w _ hx104_1)).trans hx104_1
                          replace hx104_2 := (HB.out.cell (World.block_lt_of_cell? w _ hx104_2)).trans hx104_2
                          replace p104 := eq_true p104
                          replace q104 := eq_true q104
                          go_wp2_with (first | ((with_reducible refine gate_dst (N := 5) rfl ?_); (try (refine gate_guard (by rfl) ?_; dsimp only)); refine box_event ?hg (N := 5) ?hd (cs := #[.int .i64 0, .int .i64 0, .bool false]) (t := 67) ?hr ?_; (case hd => rfl); (case hg => rfl); (case hr => first | (go_simp; done) | (go_simp; rfl)); intro gb105 hg w40 hbox hb; have n0_ := Aside0.mk (blk_below (g := gb101) (o := .cells #[.slice (some ad104) l0_0.length c0_0, .slice A0_1 l0_1.length c0_1, .int .i64 a0_2] 25 (0, 0)) (by (with_reducible repeat (first | refine blk_drewN ?_ _ | refine blk_drew ?_ | refine blk_alloc ?_ _)); exact BK101.out) hb); have n1_ := Aside0.mk (below_step (by repeat (first | (with_reducible first | exact HB.out | apply below_alloc | apply pw_below_drewN | apply below_drew1 | refine below_set ?_ GE101.out) | exact HB.out)) hb); have n2_ := Aside0.mk (hbox); have n3_ := Aside0.mk ((by rw [hg]; exact (below_size (by repeat (first | (with_reducible first | exact HB.out | apply below_alloc | apply pw_below_drewN | apply below_drew1 | refine below_set ?_ GE101.out) | exact HB.out))) : w.heap.size ≤ gb105)); have n4_ := Aside0.mk ((by rw [hg]; exact (below_size (by repeat (first | (with_reducible first | exact HB.out | apply below_alloc | apply pw_below_drewN | apply below_drew1 | refine below_set ?_ GE101.out) | exact HB.out))) : w.heap.size ≤ gb105)); have n5_ := Aside0.mk ((by rw [hg]; exact Nat.ne_of_lt (blk_lt (g := gb101) (o := .cells #[.slice (some ad104) l0_0.length c0_0, .slice A0_1 l0_1.length c0_1, .int .i64 a0_2] 25 (0, 0)) (by (with_reducible repeat (first | refine blk_drewN ?_ _ | refine blk_drew ?_ | refine blk_alloc ?_ _)); exact BK101.out)) : gb101 ≠ gb105)); have n6_ := Aside0.mk ((by rw [hg]; exact Nat.ne_of_gt (blk_lt (g := gb101) (o := .cells #[.slice (some ad104) l0_0.length c0_0, .slice A0_1 l0_1.length c0_1, .int .i64 a0_2] 25 (0, 0)) (by (with_reducible repeat (first | refine blk_drewN ?_ _ | refine blk_drew ?_ | refine blk_alloc ?_ _)); exact BK101.out)) : gb105 ≠ gb101)); clear BK101; clear HB; have BK101 := n0_; have HB := n1_; have BK105 := n2_; have GW105 := n3_; have GE105 := n4_; have NB101_105 := n5_; have NB105_101 := n6_; clear n0_ n1_ n2_ n3_ n4_ n5_ n6_; clear hb hbox hg; have hnb41 := NB105_101.out; have hnc41 := NB101_105.out; have hcz42_0 : w40.cell? ⟨gb105, 0, none⟩ = some (.int .i64 0) := (blk_cell BK105.out 0).trans rfl; have hcz42_1 : w40.cell? ⟨gb105, 1, none⟩ = some (.int .i64 0) := (blk_cell BK105.out 1).trans rfl; have hcz42_2 : w40.cell? ⟨gb105, 2, none⟩ = some (.bool false) := (blk_cell BK105.out 2).trans rfl; have hfz42_0 := blk_frozen BK105.out 0; have hfz42_1 := blk_frozen BK105.out 1; have hfz42_2 := blk_frozen BK105.out 2; have hcz43_0 : w40.cell? ⟨gb101, 0, none⟩ = some (.slice (some ad104) l0_0.length c0_0) := (blk_cell BK101.out 0).trans rfl; have hcz43_1 : w40.cell? ⟨gb101, 1, none⟩ = some (.slice A0_1 l0_1.length c0_1) := (blk_cell BK101.out 1).trans rfl; have hcz43_2 : w40.cell? ⟨gb101, 2, none⟩ = some (.int .i64 a0_2) := (blk_cell BK101.out 2).trans rfl; have hfz43_0 := blk_frozen BK101.out 0; have hfz43_1 := blk_frozen BK101.out 1; have hfz43_2 := blk_frozen BK101.out 2) | ((with_reducible refine gate_callee (f := 44) rfl ?_); refine goesL_ (some 39) rfl rfl Try.func44 (by kernel_rfl) rfl #[.int .i64 ((rd_T67 l0_0 x30_2).f0), .int .i64 0, .int .i64 (wrap64 (a0_2 - 1))] rfl (by (try simp only [List.map_toArray, List.map_cons, List.map_nil]); first | done | rfl | (simp only [List.length_drop, List.length_take]; rfl)) ?_; (with_reducible refine (impl_in.calls ((rd_T67 l0_0 x30_2).f0) 0 (wrap64 (a0_2 - 1)) true _ A16.out).mono ?_); rintro e w' ⟨rfl, ⟨nd, rfl⟩⟩; refine ⟨_, rfl, ?_⟩) | (go_at_call 44; (with_reducible refine (impl_in.calls ((rd_T67 l0_0 x30_2).f1) 0 9 true _ A18.out).mono ?_); rintro e w' ⟨rfl, ⟨nd, rfl⟩⟩))
                          go_roundg k2
                          case measure => have := HJ1.out; have := HK2.out; omega
                          case rel => exact ⟨(wrap64 (x30_2 + 1)), (by first | rfl | (simp; done) | (simp [*]; done)), H', ⟨by have := HJ1.out; have := HK2.out; omega⟩, ⟨by (with_reducible repeat (first | refine blk_drewN ?_ _ | refine blk_drew ?_ | refine blk_alloc ?_ _)); refine blk_far ?_ NB101_105.out _; (with_reducible repeat (first | refine blk_drewN ?_ _ | refine blk_drew ?_ | refine blk_alloc ?_ _)); refine blk_far ?_ NB101_105.out _; (with_reducible repeat (first | refine blk_drewN ?_ _ | refine blk_drew ?_ | refine blk_alloc ?_ _)); refine blk_far ?_ NB101_105.out _; (with_reducible repeat (first | refine blk_drewN ?_ _ | refine blk_drew ?_ | refine blk_alloc ?_ _)); exact BK101.out⟩, ⟨by repeat (first | (with_reducible first | exact HB.out | apply below_alloc | apply pw_below_drewN | apply below_drew1 | refine below_set ?_ GE101.out | refine below_set ?_ GE105.out) | exact HB.out)⟩⟩
                    · replace c19 := Bool.eq_false_iff.mpr c19
                      subst c19
                      have H1 : (some false) = some r := by rw [if_neg (show ¬ (false = true) by decide)] at H; exact H
                      clear H
                      have H := H1
                      clear H1
                      obtain rfl := Option.some.inj H
                      have p104 : 0 ≤ (x30_2 : Int) := of_decide_eq_true (by first | (with_reducible assumption) | assumption)
                      have q104 : x30_2 < (l0_0.length : Int) := of_decide_eq_true (by first | (with_reducible assumption) | assumption)
                      obtain ⟨ad104, e104, hx104_0, hx104_1, hx104_2⟩ := at_T67 HR0_0.out x30_2 p104 q104
                      cases e104
                      replace hx104_0 := (HB.out.cell (World.block_lt_of_cell? w _ hx104_0)).trans hx104_0
                      replace hx104_1 := (HB.out.cell (World.block_lt_of_cell? w _ hx104_1)).trans hx104_1
                      replace hx104_2 := (HB.out.cell (World.block_lt_of_cell? w _ hx104_2)).trans hx104_2
                      replace p104 := eq_true p104
                      replace q104 := eq_true q104
                      go_wp2_with (first | ((with_reducible refine gate_dst (N := 5) rfl ?_); (try (refine gate_guard (by rfl) ?_; dsimp only)); refine box_event ?hg (N := 5) ?hd (cs := #[.int .i64 0, .int .i64 0, .bool false]) (t := 67) ?hr ?_; (case hd => rfl); (case hg => rfl); (case hr => first | (go_simp; done) | (go_simp; rfl)); intro gb105 hg w44 hbox hb; have n0_ := Aside0.mk (blk_below (g := gb101) (o := .cells #[.slice (some ad104) l0_0.length c0_0, .slice A0_1 l0_1.length c0_1, .int .i64 a0_2] 25 (0, 0)) (by (with_reducible repeat (first | refine blk_drewN ?_ _ | refine blk_drew ?_ | refine blk_alloc ?_ _)); exact BK101.out) hb); have n1_ := Aside0.mk (below_step (by repeat (first | (with_reducible first | exact HB.out | apply below_alloc | apply pw_below_drewN | apply below_drew1 | refine below_set ?_ GE101.out) | exact HB.out)) hb); have n2_ := Aside0.mk (hbox); have n3_ := Aside0.mk ((by rw [hg]; exact (below_size (by repeat (first | (with_reducible first | exact HB.out | apply below_alloc | apply pw_below_drewN | apply below_drew1 | refine below_set ?_ GE101.out) | exact HB.out))) : w.heap.size ≤ gb105)); have n4_ := Aside0.mk ((by rw [hg]; exact (below_size (by repeat (first | (with_reducible first | exact HB.out | apply below_alloc | apply pw_below_drewN | apply below_drew1 | refine below_set ?_ GE101.out) | exact HB.out))) : w.heap.size ≤ gb105)); have n5_ := Aside0.mk ((by rw [hg]; exact Nat.ne_of_lt (blk_lt (g := gb101) (o := .cells #[.slice (some ad104) l0_0.length c0_0, .slice A0_1 l0_1.length c0_1, .int .i64 a0_2] 25 (0, 0)) (by (with_reducible repeat (first | refine blk_drewN ?_ _ | refine blk_drew ?_ | refine blk_alloc ?_ _)); exact BK101.out)) : gb101 ≠ gb105)); have n6_ := Aside0.mk ((by rw [hg]; exact Nat.ne_of_gt (blk_lt (g := gb101) (o := .cells #[.slice (some ad104) l0_0.length c0_0, .slice A0_1 l0_1.length c0_1, .int .i64 a0_2] 25 (0, 0)) (by (with_reducible repeat (first | refine blk_drewN ?_ _ | refine blk_drew ?_ | refine blk_alloc ?_ _)); exact BK101.out)) : gb105 ≠ gb101)); clear BK101; clear HB; have BK101 := n0_; have HB := n1_; have BK105 := n2_; have GW105 := n3_; have GE105 := n4_; have NB101_105 := n5_; have NB105_101 := n6_; clear n0_ n1_ n2_ n3_ n4_ n5_ n6_; clear hb hbox hg; have hnb45 := NB105_101.out; have hnc45 := NB101_105.out; have hcz46_0 : w44.cell? ⟨gb105, 0, none⟩ = some (.int .i64 0) := (blk_cell BK105.out 0).trans rfl; have hcz46_1 : w44.cell? ⟨gb105, 1, none⟩ = some (.int .i64 0) := (blk_cell BK105.out 1).trans rfl; have hcz46_2 : w44.cell? ⟨gb105, 2, none⟩ = some (.bool false) := (blk_cell BK105.out 2).trans rfl; have hfz46_0 := blk_frozen BK105.out 0; have hfz46_1 := blk_frozen BK105.out 1; have hfz46_2 := blk_frozen BK105.out 2; have hcz47_0 : w44.cell? ⟨gb101, 0, none⟩ = some (.slice (some ad104) l0_0.length c0_0) := (blk_cell BK101.out 0).trans rfl; have hcz47_1 : w44.cell? ⟨gb101, 1, none⟩ = some (.slice A0_1 l0_1.length c0_1) := (blk_cell BK101.out 1).trans rfl; have hcz47_2 : w44.cell? ⟨gb101, 2, none⟩ = some (.int .i64 a0_2) := (blk_cell BK101.out 2).trans rfl; have hfz47_0 := blk_frozen BK101.out 0; have hfz47_1 := blk_frozen BK101.out 1; have hfz47_2 := blk_frozen BK101.out 2) | ((with_reducible refine gate_callee (f := 44) rfl ?_); refine goesL_ (some 39) rfl rfl Try.func44 (by kernel_rfl) rfl #[.int .i64 ((rd_T67 l0_0 x30_2).f0), .int .i64 0, .int .i64 (wrap64 (a0_2 - 1))] rfl (by (try simp only [List.map_toArray, List.map_cons, List.map_nil]); first | done | rfl | (simp only [List.length_drop, List.length_take]; rfl)) ?_; (with_reducible refine (impl_in.calls ((rd_T67 l0_0 x30_2).f0) 0 (wrap64 (a0_2 - 1)) true _ A16.out).mono ?_); rintro e w' ⟨rfl, ⟨nd, rfl⟩⟩; refine ⟨_, rfl, ?_⟩) | (go_at_call 44; (with_reducible refine (impl_in.calls ((rd_T67 l0_0 x30_2).f1) 0 9 false _ A18.out).mono ?_); rintro e w' ⟨rfl, ⟨nd, rfl⟩⟩))
                      go_ret
                      exact ⟨by first | rfl | (simp [errW_none, errW_some] <;> rfl) | (simp [*, errW_none, errW_some] <;> rfl), by repeat (first | (with_reducible first | exact HB.out | apply below_alloc | apply pw_below_drewN | apply below_drew1 | refine below_set ?_ GE101.out | refine below_set ?_ GE105.out) | exact HB.out)⟩
                  · replace c17 := Bool.eq_false_iff.mpr c17
                    subst c17
                    have H1 : (some false) = some r := by rw [if_neg (show ¬ (false = true) by decide)] at H; exact H
                    clear H
                    have H := H1
                    clear H1
                    obtain rfl := Option.some.inj H
                    have p104 : 0 ≤ (x30_2 : Int) := of_decide_eq_true (by first | (with_reducible assumption) | assumption)
                    have q104 : x30_2 < (l0_0.length : Int) := of_decide_eq_true (by first | (with_reducible assumption) | assumption)
                    obtain ⟨ad104, e104, hx104_0, hx104_1, hx104_2⟩ := at_T67 HR0_0.out x30_2 p104 q104
                    cases e104
                    replace hx104_0 := (HB.out.cell (World.block_lt_of_cell? w _ hx104_0)).trans hx104_0
                    replace hx104_1 := (HB.out.cell (World.block_lt_of_cell? w _ hx104_1)).trans hx104_1
                    replace hx104_2 := (HB.out.cell (World.block_lt_of_cell? w _ hx104_2)).trans hx104_2
                    replace p104 := eq_true p104
                    replace q104 := eq_true q104
                    go_wp2_with (first | ((with_reducible refine gate_dst (N := 5) rfl ?_); (try (refine gate_guard (by rfl) ?_; dsimp only)); refine box_event ?hg (N := 5) ?hd (cs := #[.int .i64 0, .int .i64 0, .bool false]) (t := 67) ?hr ?_; (case hd => rfl); (case hg => rfl); (case hr => first | (go_simp; done) | (go_simp; rfl)); intro gb105 hg w48 hbox hb; have n0_ := Aside0.mk (blk_below (g := gb101) (o := .cells #[.slice (some ad104) l0_0.length c0_0, .slice A0_1 l0_1.length c0_1, .int .i64 a0_2] 25 (0, 0)) (by (with_reducible repeat (first | refine blk_drewN ?_ _ | refine blk_drew ?_ | refine blk_alloc ?_ _)); exact BK101.out) hb); have n1_ := Aside0.mk (below_step (by repeat (first | (with_reducible first | exact HB.out | apply below_alloc | apply pw_below_drewN | apply below_drew1 | refine below_set ?_ GE101.out) | exact HB.out)) hb); have n2_ := Aside0.mk (hbox); have n3_ := Aside0.mk ((by rw [hg]; exact (below_size (by repeat (first | (with_reducible first | exact HB.out | apply below_alloc | apply pw_below_drewN | apply below_drew1 | refine below_set ?_ GE101.out) | exact HB.out))) : w.heap.size ≤ gb105)); have n4_ := Aside0.mk ((by rw [hg]; exact (below_size (by repeat (first | (with_reducible first | exact HB.out | apply below_alloc | apply pw_below_drewN | apply below_drew1 | refine below_set ?_ GE101.out) | exact HB.out))) : w.heap.size ≤ gb105)); have n5_ := Aside0.mk ((by rw [hg]; exact Nat.ne_of_lt (blk_lt (g := gb101) (o := .cells #[.slice (some ad104) l0_0.length c0_0, .slice A0_1 l0_1.length c0_1, .int .i64 a0_2] 25 (0, 0)) (by (with_reducible repeat (first | refine blk_drewN ?_ _ | refine blk_drew ?_ | refine blk_alloc ?_ _)); exact BK101.out)) : gb101 ≠ gb105)); have n6_ := Aside0.mk ((by rw [hg]; exact Nat.ne_of_gt (blk_lt (g := gb101) (o := .cells #[.slice (some ad104) l0_0.length c0_0, .slice A0_1 l0_1.length c0_1, .int .i64 a0_2] 25 (0, 0)) (by (with_reducible repeat (first | refine blk_drewN ?_ _ | refine blk_drew ?_ | refine blk_alloc ?_ _)); exact BK101.out)) : gb105 ≠ gb101)); clear BK101; clear HB; have BK101 := n0_; have HB := n1_; have BK105 := n2_; have GW105 := n3_; have GE105 := n4_; have NB101_105 := n5_; have NB105_101 := n6_; clear n0_ n1_ n2_ n3_ n4_ n5_ n6_; clear hb hbox hg; have hnb49 := NB105_101.out; have hnc49 := NB101_105.out; have hcz50_0 : w48.cell? ⟨gb105, 0, none⟩ = some (.int .i64 0) := (blk_cell BK105.out 0).trans rfl; have hcz50_1 : w48.cell? ⟨gb105, 1, none⟩ = some (.int .i64 0) := (blk_cell BK105.out 1).trans rfl; have hcz50_2 : w48.cell? ⟨gb105, 2, none⟩ = some (.bool false) := (blk_cell BK105.out 2).trans rfl; have hfz50_0 := blk_frozen BK105.out 0; have hfz50_1 := blk_frozen BK105.out 1; have hfz50_2 := blk_frozen BK105.out 2; have hcz51_0 : w48.cell? ⟨gb101, 0, none⟩ = some (.slice (some ad104) l0_0.length c0_0) := (blk_cell BK101.out 0).trans rfl; have hcz51_1 : w48.cell? ⟨gb101, 1, none⟩ = some (.slice A0_1 l0_1.length c0_1) := (blk_cell BK101.out 1).trans rfl; have hcz51_2 : w48.cell? ⟨gb101, 2, none⟩ = some (.int .i64 a0_2) := (blk_cell BK101.out 2).trans rfl; have hfz51_0 := blk_frozen BK101.out 0; have hfz51_1 := blk_frozen BK101.out 1; have hfz51_2 := blk_frozen BK101.out 2) | ((with_reducible refine gate_callee (f := 44) rfl ?_); refine goesL_ (some 39) rfl rfl Try.func44 (by kernel_rfl) rfl #[.int .i64 ((rd_T67 l0_0 x30_2).f0), .int .i64 0, .int .i64 (wrap64 (a0_2 - 1))] rfl (by (try simp only [List.map_toArray, List.map_cons, List.map_nil]); first | done | rfl | (simp only [List.length_drop, List.length_take]; rfl)) ?_; (with_reducible refine (impl_in.calls ((rd_T67 l0_0 x30_2).f0) 0 (wrap64 (a0_2 - 1)) false _ A16.out).mono ?_); rintro e w' ⟨rfl, ⟨nd, rfl⟩⟩; refine ⟨_, rfl, ?_⟩))
                    go_ret
                    exact ⟨by first | rfl | (simp [errW_none, errW_some] <;> rfl) | (simp [*, errW_none, errW_some] <;> rfl), by repeat (first | (with_reducible first | exact HB.out | apply below_alloc | apply pw_below_drewN | apply below_drew1 | refine below_set ?_ GE101.out | refine below_set ?_ GE105.out) | exact HB.out)⟩
                · rw [if_neg c15] at H
                  exact absurd H (by simp)
              · rw [if_neg c14] at H
                exact absurd H (by simp)
            · rw [if_neg c13] at H
              have c13b0 : decide (x30_2 < (l0_0.length : Int)) = false := decide_eq_false c13
              clear c13
              have H' := Aside0.mk H
              clear H
              have hcz52_0 : wr.cell? ⟨gb101, 0, none⟩ = some (.slice A0_0 l0_0.length c0_0) := (blk_cell BK101.out 0).trans rfl
              have hcz52_1 : wr.cell? ⟨gb101, 1, none⟩ = some (.slice A0_1 l0_1.length c0_1) := (blk_cell BK101.out 1).trans rfl
              have hcz52_2 : wr.cell? ⟨gb101, 2, none⟩ = some (.int .i64 a0_2) := (blk_cell BK101.out 2).trans rfl
              have hfz52_0 := blk_frozen BK101.out 0
              have hfz52_1 := blk_frozen BK101.out 1
              have hfz52_2 := blk_frozen BK101.out 2
              go_wp2
              go_loopg [69] k2 (fun kq v69 w' => ∃ (x69_3 : Int), v69 = .int .i64 x69_3 ∧ Aside0 (impl_isControl.l1 kq (l0_0.length : Int) l0_1 (l0_1.length : Int) x69_3 l0_0 l0_1 a0_2 = some r) ∧ Aside0 (kq ≤ k2) ∧ Aside0 (w'.heap[gb101]? = some (.cells #[(.slice A0_0 l0_0.length c0_0), (.slice A0_1 l0_1.length c0_1), .int .i64 a0_2] 25 (0, 0))) ∧ Aside0 (Below w.heap.size w w'))
              case atStart => exact ⟨(0), (by first | rfl | (simp; done) | (simp [*]; done)), H', ⟨Nat.le_refl _⟩, ⟨by (with_reducible repeat (first | refine blk_drewN ?_ _ | refine blk_drew ?_ | refine blk_alloc ?_ _)); exact BK101.out⟩, ⟨by repeat (first | (with_reducible first | exact HB.out | apply below_alloc | apply pw_below_drewN | apply below_drew1 | refine below_set ?_ GE101.out) | exact HB.out)⟩⟩
              case round =>
                clear H'
                try clear c1
                try clear p1
                try clear q1
                try clear hx1
                try clear c2
                try clear p2
                try clear c3
                try clear c4
                try clear c6
                try clear p6
                try clear c7
                try clear c7b0
                try clear c7b1
                try clear p10
                try clear q10
                try clear hx10
                try clear c11
                try clear c13
                try clear c13b0
                try clear c14
                try clear c14b0
                try clear c15
                try clear c15b0
                try clear c17
                try clear c19
                try clear c20
                try clear c20b0
                try clear c20b1
                try clear c21
                try clear c21b0
                try clear c21b1
                try clear c22
                try clear c22b0
                try clear c22b1
                try clear c22b2
                try clear c24
                try clear c28
                try clear c32
                try clear c35
                try clear c35b0
                try clear c35b1
                try clear c35b2
                try clear c37
                try clear c41
                try clear c44
                try clear c45
                try clear c49
                try clear hcz10_0
                try clear hcz10_1
                try clear hcz10_2
                try clear hcz12_0
                try clear hcz12_1
                try clear hcz12_2
                try clear hcz25_0
                try clear hcz25_1
                try clear hcz25_2
                try clear hcz26_0
                try clear hcz26_1
                try clear hcz26_2
                try clear hcz29_0
                try clear hcz29_1
                try clear hcz29_2
                try clear hcz30_0
                try clear hcz30_1
                try clear hcz30_2
                try clear hcz33_0
                try clear hcz33_1
                try clear hcz33_2
                try clear hcz34_0
                try clear hcz34_1
                try clear hcz34_2
                try clear hcz38_0
                try clear hcz38_1
                try clear hcz38_2
                try clear hcz39_0
                try clear hcz39_1
                try clear hcz39_2
                try clear hcz42_0
                try clear hcz42_1
                try clear hcz42_2
                try clear hcz43_0
                try clear hcz43_1
                try clear hcz43_2
                try clear hcz46_0
                try clear hcz46_1
                try clear hcz46_2
                try clear hcz47_0
                try clear hcz47_1
                try clear hcz47_2
                try clear hcz4_0
                try clear hcz4_1
                try clear hcz4_2
                try clear hcz50_0
                try clear hcz50_1
                try clear hcz50_2
                try clear hcz51_0
                try clear hcz51_1
                try clear hcz51_2
                try clear hcz52_0
                try clear hcz52_1
                try clear hcz52_2
                try clear hcz8_0
                try clear hcz8_1
                try clear hcz8_2
                try clear hfz10_0
                try clear hfz10_1
                try clear hfz10_2
                try clear hfz12_0
                try clear hfz12_1
                try clear hfz12_2
                try clear hfz25_0
                try clear hfz25_1
                try clear hfz25_2
                try clear hfz26_0
                try clear hfz26_1
                try clear hfz26_2
                try clear hfz29_0
                try clear hfz29_1
                try clear hfz29_2
                try clear hfz30_0
                try clear hfz30_1
                try clear hfz30_2
                try clear hfz33_0
                try clear hfz33_1
                try clear hfz33_2
                try clear hfz34_0
                try clear hfz34_1
                try clear hfz34_2
                try clear hfz38_0
                try clear hfz38_1
                try clear hfz38_2
                try clear hfz39_0
                try clear hfz39_1
                try clear hfz39_2
                try clear hfz42_0
                try clear hfz42_1
                try clear hfz42_2
                try clear hfz43_0
                try clear hfz43_1
                try clear hfz43_2
                try clear hfz46_0
                try clear hfz46_1
                try clear hfz46_2
                try clear hfz47_0
                try clear hfz47_1
                try clear hfz47_2
                try clear hfz4_0
                try clear hfz4_1
                try clear hfz4_2
                try clear hfz50_0
                try clear hfz50_1
                try clear hfz50_2
                try clear hfz51_0
                try clear hfz51_1
                try clear hfz51_2
                try clear hfz52_0
                try clear hfz52_1
                try clear hfz52_2
                try clear hfz8_0
                try clear hfz8_1
                try clear hfz8_2
                try clear hx104_0
                try clear hx104_1
                try clear hx104_2
                try clear p104
                try clear p2
                try clear q104
                obtain ⟨x69_3, rfl, HA, HK3, BK101, HB⟩ := hrel
                cases gk with
                | zero => exact absurd HA.out (by simp [impl_isControl.l1])
                | succ k3 =>
                  have H := HA.out
                  clear HA
                  simp only [impl_isControl.l1] at H
                  by_cases c53 : x69_3 < (l0_1.length : Int)
                  · rw [if_pos c53] at H
                    have c53b0 : decide (x69_3 < (l0_1.length : Int)) = true := decide_eq_true c53
                    clear c53
                    by_cases c54 : 0 ≤ x69_3
                    · rw [if_pos c54] at H
                      have c54b0 : decide (0 ≤ x69_3) = true := decide_eq_true c54
                      clear c54
                      by_cases c55 : x69_3 < (l0_1.length : Int)
                      · rw [if_pos c55] at H
                        have c55b0 : decide (x69_3 < (l0_1.length : Int)) = true := decide_eq_true c55
                        clear c55
                        have HC56 := Aside0.mk H
                        clear H
                        have p108 : 0 ≤ (x69_3 : Int) := of_decide_eq_true (by first | (with_reducible assumption) | assumption)
                        have q108 : x69_3 < (l0_1.length : Int) := of_decide_eq_true (by first | (with_reducible assumption) | assumption)
                        obtain ⟨ad108, A108_0, c108_0, A108_1, c108_1, e108, hx108_0, hx108_1, hx108_2, hx108_3, hx108_4, hl108_0, hi108_0, hl108_1, hi108_1⟩ := at_T85 HR0_1.out x69_3 p108 q108
                        cases e108
                        replace hx108_0 := (HB.out.cell (World.block_lt_of_cell? w _ hx108_0)).trans hx108_0
                        replace hx108_1 := (HB.out.cell (World.block_lt_of_cell? w _ hx108_1)).trans hx108_1
                        replace hx108_2 := (HB.out.cell (World.block_lt_of_cell? w _ hx108_2)).trans hx108_2
                        replace hx108_3 := (HB.out.cell (World.block_lt_of_cell? w _ hx108_3)).trans hx108_3
                        replace hx108_4 := (HB.out.cell (World.block_lt_of_cell? w _ hx108_4)).trans hx108_4
                        have HR108_0 := Aside0.mk hi108_0
                        have HC108_0 := Aside0.mk hl108_0
                        clear hi108_0 hl108_0
                        have HR108_1 := Aside0.mk hi108_1
                        have HC108_1 := Aside0.mk hl108_1
                        clear hi108_1 hl108_1
                        replace p108 := eq_true p108
                        replace q108 := eq_true q108
                        go_upto_region 13 with (first | ((with_reducible refine gate_dst (N := 7) rfl ?_); (try (refine gate_guard (by rfl) ?_; dsimp only)); refine box_event ?hg (N := 7) ?hd (cs := #[.slice none 0 0, .slice none 0 0, .int .i64 0, .int .i64 0, .int .i64 0]) (t := 85) ?hr ?_; (case hd => rfl); (case hg => rfl); (case hr => first | (go_simp; done) | (go_simp; rfl)); intro gb109 hg w57 hbox hb; have n0_ := Aside0.mk (blk_below (g := gb101) (o := .cells #[.slice A0_0 l0_0.length c0_0, .slice (some ad108) l0_1.length c0_1, .int .i64 a0_2] 25 (0, 0)) (by (with_reducible repeat (first | refine blk_drewN ?_ _ | refine blk_drew ?_ | refine blk_alloc ?_ _)); exact BK101.out) hb); have n1_ := Aside0.mk (below_step (by repeat (first | (with_reducible first | exact HB.out | apply below_alloc | apply pw_below_drewN | apply below_drew1 | refine below_set ?_ GE101.out) | exact HB.out)) hb); have n2_ := Aside0.mk (hbox); have n3_ := Aside0.mk ((by rw [hg]; exact (below_size (by repeat (first | (with_reducible first | exact HB.out | apply below_alloc | apply pw_below_drewN | apply below_drew1 | refine below_set ?_ GE101.out) | exact HB.out))) : w.heap.size ≤ gb109)); have n4_ := Aside0.mk ((by rw [hg]; exact (below_size (by repeat (first | (with_reducible first | exact HB.out | apply below_alloc | apply pw_below_drewN | apply below_drew1 | refine below_set ?_ GE101.out) | exact HB.out))) : w.heap.size ≤ gb109)); have n5_ := Aside0.mk ((by rw [hg]; exact Nat.ne_of_lt (blk_lt (g := gb101) (o := .cells #[.slice A0_0 l0_0.length c0_0, .slice (some ad108) l0_1.length c0_1, .int .i64 a0_2] 25 (0, 0)) (by (with_reducible repeat (first | refine blk_drewN ?_ _ | refine blk_drew ?_ | refine blk_alloc ?_ _)); exact BK101.out)) : gb101 ≠ gb109)); have n6_ := Aside0.mk ((by rw [hg]; exact Nat.ne_of_gt (blk_lt (g := gb101) (o := .cells #[.slice A0_0 l0_0.length c0_0, .slice (some ad108) l0_1.length c0_1, .int .i64 a0_2] 25 (0, 0)) (by (with_reducible repeat (first | refine blk_drewN ?_ _ | refine blk_drew ?_ | refine blk_alloc ?_ _)); exact BK101.out)) : gb109 ≠ gb101)); clear BK101; clear HB; have BK101 := n0_; have HB := n1_; have BK109 := n2_; have GW109 := n3_; have GE109 := n4_; have NB101_109 := n5_; have NB109_101 := n6_; clear n0_ n1_ n2_ n3_ n4_ n5_ n6_; clear hb hbox hg; have hnb58 := NB109_101.out; have hnc58 := NB101_109.out; have hcz59_0 : w57.cell? ⟨gb109, 0, none⟩ = some (.slice none 0 0) := (blk_cell BK109.out 0).trans rfl; have hcz59_1 : w57.cell? ⟨gb109, 1, none⟩ = some (.slice none 0 0) := (blk_cell BK109.out 1).trans rfl; have hcz59_2 : w57.cell? ⟨gb109, 2, none⟩ = some (.int .i64 0) := (blk_cell BK109.out 2).trans rfl; have hcz59_3 : w57.cell? ⟨gb109, 3, none⟩ = some (.int .i64 0) := (blk_cell BK109.out 3).trans rfl; have hcz59_4 : w57.cell? ⟨gb109, 4, none⟩ = some (.int .i64 0) := (blk_cell BK109.out 4).trans rfl; have hfz59_0 := blk_frozen BK109.out 0; have hfz59_1 := blk_frozen BK109.out 1; have hfz59_2 := blk_frozen BK109.out 2; have hfz59_3 := blk_frozen BK109.out 3; have hfz59_4 := blk_frozen BK109.out 4))
                        (try simp only [Act.put, List.setIfInBounds_toArray, List.set_cons_zero, List.set_cons_succ])
                        go_cut [116] (fun v116 wc => ∃ (kq : Nat) (x116_55 : Bool), v116 = .bool x116_55 ∧ Aside0 (impl_isControl.j3 kq (l0_0.length : Int) l0_1 (l0_1.length : Int) x69_3 x116_55 l0_0 l0_1 a0_2 ((rd_T85 l0_1 x69_3).f0) ((rd_T85 l0_1 x69_3).f1) ((rd_T85 l0_1 x69_3).f2) ((rd_T85 l0_1 x69_3).f3) ((rd_T85 l0_1 x69_3).f4) = some r) ∧ Aside0 (kq ≤ k3) ∧ Aside0 (wc.heap[gb101]? = some (.cells #[(.slice A0_0 l0_0.length c0_0), (.slice (some ad108) l0_1.length c0_1), .int .i64 a0_2] 25 (0, 0))) ∧ Aside0 (wc.heap[gb109]? = some (.cells #[(.slice A108_0 ((rd_T85 l0_1 x69_3).f0).length c108_0), (.slice A108_1 ((rd_T85 l0_1 x69_3).f1).length c108_1), .int .i64 ((rd_T85 l0_1 x69_3).f2), .int .i64 ((rd_T85 l0_1 x69_3).f3), .int .i64 ((rd_T85 l0_1 x69_3).f4)] 85 (0, 0))) ∧ Aside0 (Below w.heap.size w wc))
                        case first =>
                          have H := HC56.out
                          clear HC56
                          by_cases c60 : (((rd_T85 l0_1 x69_3).f0).length : Int) = 0
                          · rw [if_pos c60] at H
                            have c60b0 : ((((rd_T85 l0_1 x69_3).f0).length : Int) == 0) = true := beq_iff_eq.mpr c60
                            have c60b1 : ((((rd_T85 l0_1 x69_3).f0).length : Int) != 0) = false := bne_eq_false_iff_eq.mpr c60
                            clear c60
                            (first | rw [c60b0] | (simp only [i64_w, i32_w]; rw [c60b0]) | skip)
                            have H' := Aside0.mk H
                            clear H
                            have hnb61 := NB109_101.out
                            have hnc61 := NB101_109.out
                            have hcz62_0 : w57.cell? ⟨gb109, 0, none⟩ = some (.slice none 0 0) := (blk_cell BK109.out 0).trans rfl
                            have hcz62_1 : w57.cell? ⟨gb109, 1, none⟩ = some (.slice none 0 0) := (blk_cell BK109.out 1).trans rfl
                            have hcz62_2 : w57.cell? ⟨gb109, 2, none⟩ = some (.int .i64 0) := (blk_cell BK109.out 2).trans rfl
                            have hcz62_3 : w57.cell? ⟨gb109, 3, none⟩ = some (.int .i64 0) := (blk_cell BK109.out 3).trans rfl
                            have hcz62_4 : w57.cell? ⟨gb109, 4, none⟩ = some (.int .i64 0) := (blk_cell BK109.out 4).trans rfl
                            have hfz62_0 := blk_frozen BK109.out 0
                            have hfz62_1 := blk_frozen BK109.out 1
                            have hfz62_2 := blk_frozen BK109.out 2
                            have hfz62_3 := blk_frozen BK109.out 3
                            have hfz62_4 := blk_frozen BK109.out 4
                            go_wp2
                            go_meet
                            case rel => exact ⟨_, (true), (by first | rfl | (simp; done) | (simp [*]; done)), H', ⟨by have := HJ1.out; have := HK2.out; have := HK3.out; first | omega | exact Nat.le_refl _⟩, ⟨by (with_reducible repeat (first | refine blk_drewN ?_ _ | refine blk_drew ?_ | refine blk_alloc ?_ _)); refine blk_far ?_ NB101_109.out _; (with_reducible repeat (first | refine blk_drewN ?_ _ | refine blk_drew ?_ | refine blk_alloc ?_ _)); refine blk_far ?_ NB101_109.out _; (with_reducible repeat (first | refine blk_drewN ?_ _ | refine blk_drew ?_ | refine blk_alloc ?_ _)); refine blk_far ?_ NB101_109.out _; (with_reducible repeat (first | refine blk_drewN ?_ _ | refine blk_drew ?_ | refine blk_alloc ?_ _)); refine blk_far ?_ NB101_109.out _; (with_reducible repeat (first | refine blk_drewN ?_ _ | refine blk_drew ?_ | refine blk_alloc ?_ _)); refine blk_far ?_ NB101_109.out _; (with_reducible repeat (first | refine blk_drewN ?_ _ | refine blk_drew ?_ | refine blk_alloc ?_ _)); exact BK101.out⟩, ⟨by (with_reducible repeat (first | refine blk_drewN ?_ _ | refine blk_drew ?_ | refine blk_alloc ?_ _)); refine blk_put (cs := #[.slice A108_0 ((rd_T85 l0_1 x69_3).f0).length c108_0, .slice A108_1 ((rd_T85 l0_1 x69_3).f1).length c108_1, .int .i64 ((rd_T85 l0_1 x69_3).f2), .int .i64 ((rd_T85 l0_1 x69_3).f3), .int .i64 0]) ?_ 4 _ rfl; (with_reducible repeat (first | refine blk_drewN ?_ _ | refine blk_drew ?_ | refine blk_alloc ?_ _)); refine blk_put (cs := #[.slice A108_0 ((rd_T85 l0_1 x69_3).f0).length c108_0, .slice A108_1 ((rd_T85 l0_1 x69_3).f1).length c108_1, .int .i64 ((rd_T85 l0_1 x69_3).f2), .int .i64 0, .int .i64 0]) ?_ 3 _ rfl; (with_reducible repeat (first | refine blk_drewN ?_ _ | refine blk_drew ?_ | refine blk_alloc ?_ _)); refine blk_put (cs := #[.slice A108_0 ((rd_T85 l0_1 x69_3).f0).length c108_0, .slice A108_1 ((rd_T85 l0_1 x69_3).f1).length c108_1, .int .i64 0, .int .i64 0, .int .i64 0]) ?_ 2 _ rfl; (with_reducible repeat (first | refine blk_drewN ?_ _ | refine blk_drew ?_ | refine blk_alloc ?_ _)); refine blk_put (cs := #[.slice A108_0 ((rd_T85 l0_1 x69_3).f0).length c108_0, .slice none 0 0, .int .i64 0, .int .i64 0, .int .i64 0]) ?_ 1 _ rfl; (with_reducible repeat (first | refine blk_drewN ?_ _ | refine blk_drew ?_ | refine blk_alloc ?_ _)); refine blk_put (cs := #[.slice none 0 0, .slice none 0 0, .int .i64 0, .int .i64 0, .int .i64 0]) ?_ 0 _ rfl; (with_reducible repeat (first | refine blk_drewN ?_ _ | refine blk_drew ?_ | refine blk_alloc ?_ _)); exact BK109.out⟩, ⟨by repeat (first | (with_reducible first | exact HB.out | apply below_alloc | apply pw_below_drewN | apply below_drew1 | refine below_set ?_ GE101.out | refine below_set ?_ GE109.out) | exact HB.out)⟩⟩
                          · rw [if_neg c60] at H
                            have c60b0 : ((((rd_T85 l0_1 x69_3).f0).length : Int) == 0) = false := beq_eq_false_iff_ne.mpr c60
                            have c60b1 : ((((rd_T85 l0_1 x69_3).f0).length : Int) != 0) = true := bne_iff_ne.mpr c60
                            have c60b2 : ¬ (((rd_T85 l0_1 x69_3).f0) = []) := fun h_ => c60 (by rw [h_]; rfl)
                            (first | rw [c60b0] | (simp only [i64_w, i32_w]; rw [c60b0]) | skip)
                            replace H := Option.bind_eq_some_iff.mp H
                            obtain ⟨t110, A630, H⟩ := H
                            replace H : (if t110 = true then (if (((rd_T85 l0_1 x69_3).f1).length : Int) = 0 then (impl_isControl.j3 k3 (l0_0.length : Int) l0_1 (l0_1.length : Int) x69_3 true l0_0 l0_1 a0_2 ((rd_T85 l0_1 x69_3).f0) ((rd_T85 l0_1 x69_3).f1) ((rd_T85 l0_1 x69_3).f2) ((rd_T85 l0_1 x69_3).f3) ((rd_T85 l0_1 x69_3).f4)) else ((impl_areMembers.f k3 ((rd_T85 l0_1 x69_3).f1) (l0_0.length : Int)).bind fun t111 => (if t111 = true then ((impl_allOf.f k3 ((rd_T85 l0_1 x69_3).f1) ((rd_T85 l0_1 x69_3).f0)).bind fun t112 => (if t112 = true then ((impl_in.f ((rd_T85 l0_1 x69_3).f3) 0 1000).bind fun t113 => (if t113 = true then ((impl_in.f ((rd_T85 l0_1 x69_3).f4) 0 1000).bind fun t114 => (impl_isControl.j3 k3 (l0_0.length : Int) l0_1 (l0_1.length : Int) x69_3 (!t114) l0_0 l0_1 a0_2 ((rd_T85 l0_1 x69_3).f0) ((rd_T85 l0_1 x69_3).f1) ((rd_T85 l0_1 x69_3).f2) ((rd_T85 l0_1 x69_3).f3) ((rd_T85 l0_1 x69_3).f4))) else (impl_isControl.j3 k3 (l0_0.length : Int) l0_1 (l0_1.length : Int) x69_3 true l0_0 l0_1 a0_2 ((rd_T85 l0_1 x69_3).f0) ((rd_T85 l0_1 x69_3).f1) ((rd_T85 l0_1 x69_3).f2) ((rd_T85 l0_1 x69_3).f3) ((rd_T85 l0_1 x69_3).f4)))) else (impl_isControl.j3 k3 (l0_0.length : Int) l0_1 (l0_1.length : Int) x69_3 true l0_0 l0_1 a0_2 ((rd_T85 l0_1 x69_3).f0) ((rd_T85 l0_1 x69_3).f1) ((rd_T85 l0_1 x69_3).f2) ((rd_T85 l0_1 x69_3).f3) ((rd_T85 l0_1 x69_3).f4)))) else (impl_isControl.j3 k3 (l0_0.length : Int) l0_1 (l0_1.length : Int) x69_3 true l0_0 l0_1 a0_2 ((rd_T85 l0_1 x69_3).f0) ((rd_T85 l0_1 x69_3).f1) ((rd_T85 l0_1 x69_3).f2) ((rd_T85 l0_1 x69_3).f3) ((rd_T85 l0_1 x69_3).f4))))) else (impl_isControl.j3 k3 (l0_0.length : Int) l0_1 (l0_1.length : Int) x69_3 true l0_0 l0_1 a0_2 ((rd_T85 l0_1 x69_3).f0) ((rd_T85 l0_1 x69_3).f1) ((rd_T85 l0_1 x69_3).f2) ((rd_T85 l0_1 x69_3).f3) ((rd_T85 l0_1 x69_3).f4))) = some r := H
                            have A63 := Aside0.mk A630
                            clear A630
                            by_cases c64 : t110 = true
                            · subst c64
                              have H1 : (if (((rd_T85 l0_1 x69_3).f1).length : Int) = 0 then (impl_isControl.j3 k3 (l0_0.length : Int) l0_1 (l0_1.length : Int) x69_3 true l0_0 l0_1 a0_2 ((rd_T85 l0_1 x69_3).f0) ((rd_T85 l0_1 x69_3).f1) ((rd_T85 l0_1 x69_3).f2) ((rd_T85 l0_1 x69_3).f3) ((rd_T85 l0_1 x69_3).f4)) else ((impl_areMembers.f k3 ((rd_T85 l0_1 x69_3).f1) (l0_0.length : Int)).bind fun t111 => (if t111 = true then ((impl_allOf.f k3 ((rd_T85 l0_1 x69_3).f1) ((rd_T85 l0_1 x69_3).f0)).bind fun t112 => (if t112 = true then ((impl_in.f ((rd_T85 l0_1 x69_3).f3) 0 1000).bind fun t113 => (if t113 = true then ((impl_in.f ((rd_T85 l0_1 x69_3).f4) 0 1000).bind fun t114 => (impl_isControl.j3 k3 (l0_0.length : Int) l0_1 (l0_1.length : Int) x69_3 (!t114) l0_0 l0_1 a0_2 ((rd_T85 l0_1 x69_3).f0) ((rd_T85 l0_1 x69_3).f1) ((rd_T85 l0_1 x69_3).f2) ((rd_T85 l0_1 x69_3).f3) ((rd_T85 l0_1 x69_3).f4))) else (impl_isControl.j3 k3 (l0_0.length : Int) l0_1 (l0_1.length : Int) x69_3 true l0_0 l0_1 a0_2 ((rd_T85 l0_1 x69_3).f0) ((rd_T85 l0_1 x69_3).f1) ((rd_T85 l0_1 x69_3).f2) ((rd_T85 l0_1 x69_3).f3) ((rd_T85 l0_1 x69_3).f4)))) else (impl_isControl.j3 k3 (l0_0.length : Int) l0_1 (l0_1.length : Int) x69_3 true l0_0 l0_1 a0_2 ((rd_T85 l0_1 x69_3).f0) ((rd_T85 l0_1 x69_3).f1) ((rd_T85 l0_1 x69_3).f2) ((rd_T85 l0_1 x69_3).f3) ((rd_T85 l0_1 x69_3).f4)))) else (impl_isControl.j3 k3 (l0_0.length : Int) l0_1 (l0_1.length : Int) x69_3 true l0_0 l0_1 a0_2 ((rd_T85 l0_1 x69_3).f0) ((rd_T85 l0_1 x69_3).f1) ((rd_T85 l0_1 x69_3).f2) ((rd_T85 l0_1 x69_3).f3) ((rd_T85 l0_1 x69_3).f4))))) = some r := by rw [if_pos rfl] at H; exact H
                              clear H
                              have H := H1
                              clear H1
                              by_cases c65 : (((rd_T85 l0_1 x69_3).f1).length : Int) = 0
                              · rw [if_pos c65] at H
                                have c65b0 : ((((rd_T85 l0_1 x69_3).f1).length : Int) == 0) = true := beq_iff_eq.mpr c65
                                have c65b1 : ((((rd_T85 l0_1 x69_3).f1).length : Int) != 0) = false := bne_eq_false_iff_eq.mpr c65
                                clear c65
                                have H' := Aside0.mk H
                                clear H
                                have hnb66 := NB109_101.out
                                have hnc66 := NB101_109.out
                                have hcz67_0 : w57.cell? ⟨gb109, 0, none⟩ = some (.slice none 0 0) := (blk_cell BK109.out 0).trans rfl
                                have hcz67_1 : w57.cell? ⟨gb109, 1, none⟩ = some (.slice none 0 0) := (blk_cell BK109.out 1).trans rfl
                                have hcz67_2 : w57.cell? ⟨gb109, 2, none⟩ = some (.int .i64 0) := (blk_cell BK109.out 2).trans rfl
                                have hcz67_3 : w57.cell? ⟨gb109, 3, none⟩ = some (.int .i64 0) := (blk_cell BK109.out 3).trans rfl
                                have hcz67_4 : w57.cell? ⟨gb109, 4, none⟩ = some (.int .i64 0) := (blk_cell BK109.out 4).trans rfl
                                have hfz67_0 := blk_frozen BK109.out 0
                                have hfz67_1 := blk_frozen BK109.out 1
                                have hfz67_2 := blk_frozen BK109.out 2
                                have hfz67_3 := blk_frozen BK109.out 3
                                have hfz67_4 := blk_frozen BK109.out 4
                                go_wp2_with (first | (go_at_call 92; (with_reducible refine (impl_areMembers.calls k3 _ _ ((rd_T85 l0_1 x69_3).f0) (l0_0.length : Int) true _ ?side1 ?side2 A63.out).mono ?_); (case side1 => exact Kd.C_below HR108_0.out (by repeat (first | (with_reducible first | exact HB.out | apply below_alloc | apply pw_below_drewN | apply below_drew1 | refine below_set ?_ GE101.out | refine below_set ?_ GE109.out) | exact HB.out))); (case side2 => exact HC108_0.out); rintro e w' ⟨rfl, ⟨nd, rfl⟩⟩))
                                go_meet
                                case rel => exact ⟨_, (true), (by first | rfl | (simp; done) | (simp [*]; done)), H', ⟨by have := HJ1.out; have := HK2.out; have := HK3.out; first | omega | exact Nat.le_refl _⟩, ⟨by (with_reducible repeat (first | refine blk_drewN ?_ _ | refine blk_drew ?_ | refine blk_alloc ?_ _)); refine blk_far ?_ NB101_109.out _; (with_reducible repeat (first | refine blk_drewN ?_ _ | refine blk_drew ?_ | refine blk_alloc ?_ _)); refine blk_far ?_ NB101_109.out _; (with_reducible repeat (first | refine blk_drewN ?_ _ | refine blk_drew ?_ | refine blk_alloc ?_ _)); refine blk_far ?_ NB101_109.out _; (with_reducible repeat (first | refine blk_drewN ?_ _ | refine blk_drew ?_ | refine blk_alloc ?_ _)); refine blk_far ?_ NB101_109.out _; (with_reducible repeat (first | refine blk_drewN ?_ _ | refine blk_drew ?_ | refine blk_alloc ?_ _)); refine blk_far ?_ NB101_109.out _; (with_reducible repeat (first | refine blk_drewN ?_ _ | refine blk_drew ?_ | refine blk_alloc ?_ _)); exact BK101.out⟩, ⟨by (with_reducible repeat (first | refine blk_drewN ?_ _ | refine blk_drew ?_ | refine blk_alloc ?_ _)); refine blk_put (cs := #[.slice A108_0 ((rd_T85 l0_1 x69_3).f0).length c108_0, .slice A108_1 ((rd_T85 l0_1 x69_3).f1).length c108_1, .int .i64 ((rd_T85 l0_1 x69_3).f2), .int .i64 ((rd_T85 l0_1 x69_3).f3), .int .i64 0]) ?_ 4 _ rfl; (with_reducible repeat (first | refine blk_drewN ?_ _ | refine blk_drew ?_ | refine blk_alloc ?_ _)); refine blk_put (cs := #[.slice A108_0 ((rd_T85 l0_1 x69_3).f0).length c108_0, .slice A108_1 ((rd_T85 l0_1 x69_3).f1).length c108_1, .int .i64 ((rd_T85 l0_1 x69_3).f2), .int .i64 0, .int .i64 0]) ?_ 3 _ rfl; (with_reducible repeat (first | refine blk_drewN ?_ _ | refine blk_drew ?_ | refine blk_alloc ?_ _)); refine blk_put (cs := #[.slice A108_0 ((rd_T85 l0_1 x69_3).f0).length c108_0, .slice A108_1 ((rd_T85 l0_1 x69_3).f1).length c108_1, .int .i64 0, .int .i64 0, .int .i64 0]) ?_ 2 _ rfl; (with_reducible repeat (first | refine blk_drewN ?_ _ | refine blk_drew ?_ | refine blk_alloc ?_ _)); refine blk_put (cs := #[.slice A108_0 ((rd_T85 l0_1 x69_3).f0).length c108_0, .slice none 0 0, .int .i64 0, .int .i64 0, .int .i64 0]) ?_ 1 _ rfl; (with_reducible repeat (first | refine blk_drewN ?_ _ | refine blk_drew ?_ | refine blk_alloc ?_ _)); refine blk_put (cs := #[.slice none 0 0, .slice none 0 0, .int .i64 0, .int .i64 0, .int .i64 0]) ?_ 0 _ rfl; (with_reducible repeat (first | refine blk_drewN ?_ _ | refine blk_drew ?_ | refine blk_alloc ?_ _)); exact BK109.out⟩, ⟨by repeat (first | (with_reducible first | exact HB.out | apply below_alloc | apply pw_below_drewN | apply below_drew1 | refine below_set ?_ GE101.out | refine below_set ?_ GE109.out) | exact HB.out)⟩⟩
                              · rw [if_neg c65] at H
                                have c65b0 : ((((rd_T85 l0_1 x69_3).f1).length : Int) == 0) = false := beq_eq_false_iff_ne.mpr c65
                                have c65b1 : ((((rd_T85 l0_1 x69_3).f1).length : Int) != 0) = true := bne_iff_ne.mpr c65
                                have c65b2 : ¬ (((rd_T85 l0_1 x69_3).f1) = []) := fun h_ => c65 (by rw [h_]; rfl)
                                replace H := Option.bind_eq_some_iff.mp H
                                obtain ⟨t111, A680, H⟩ := H
                                replace H : (if t111 = true then ((impl_allOf.f k3 ((rd_T85 l0_1 x69_3).f1) ((rd_T85 l0_1 x69_3).f0)).bind fun t112 => (if t112 = true then ((impl_in.f ((rd_T85 l0_1 x69_3).f3) 0 1000).bind fun t113 => (if t113 = true then ((impl_in.f ((rd_T85 l0_1 x69_3).f4) 0 1000).bind fun t114 => (impl_isControl.j3 k3 (l0_0.length : Int) l0_1 (l0_1.length : Int) x69_3 (!t114) l0_0 l0_1 a0_2 ((rd_T85 l0_1 x69_3).f0) ((rd_T85 l0_1 x69_3).f1) ((rd_T85 l0_1 x69_3).f2) ((rd_T85 l0_1 x69_3).f3) ((rd_T85 l0_1 x69_3).f4))) else (impl_isControl.j3 k3 (l0_0.length : Int) l0_1 (l0_1.length : Int) x69_3 true l0_0 l0_1 a0_2 ((rd_T85 l0_1 x69_3).f0) ((rd_T85 l0_1 x69_3).f1) ((rd_T85 l0_1 x69_3).f2) ((rd_T85 l0_1 x69_3).f3) ((rd_T85 l0_1 x69_3).f4)))) else (impl_isControl.j3 k3 (l0_0.length : Int) l0_1 (l0_1.length : Int) x69_3 true l0_0 l0_1 a0_2 ((rd_T85 l0_1 x69_3).f0) ((rd_T85 l0_1 x69_3).f1) ((rd_T85 l0_1 x69_3).f2) ((rd_T85 l0_1 x69_3).f3) ((rd_T85 l0_1 x69_3).f4)))) else (impl_isControl.j3 k3 (l0_0.length : Int) l0_1 (l0_1.length : Int) x69_3 true l0_0 l0_1 a0_2 ((rd_T85 l0_1 x69_3).f0) ((rd_T85 l0_1 x69_3).f1) ((rd_T85 l0_1 x69_3).f2) ((rd_T85 l0_1 x69_3).f3) ((rd_T85 l0_1 x69_3).f4))) = some r := H
                                have A68 := Aside0.mk A680
                                clear A680
                                by_cases c69 : t111 = true
                                · subst c69
                                  have H1 : ((impl_allOf.f k3 ((rd_T85 l0_1 x69_3).f1) ((rd_T85 l0_1 x69_3).f0)).bind fun t112 => (if t112 = true then ((impl_in.f ((rd_T85 l0_1 x69_3).f3) 0 1000).bind fun t113 => (if t113 = true then ((impl_in.f ((rd_T85 l0_1 x69_3).f4) 0 1000).bind fun t114 => (impl_isControl.j3 k3 (l0_0.length : Int) l0_1 (l0_1.length : Int) x69_3 (!t114) l0_0 l0_1 a0_2 ((rd_T85 l0_1 x69_3).f0) ((rd_T85 l0_1 x69_3).f1) ((rd_T85 l0_1 x69_3).f2) ((rd_T85 l0_1 x69_3).f3) ((rd_T85 l0_1 x69_3).f4))) else (impl_isControl.j3 k3 (l0_0.length : Int) l0_1 (l0_1.length : Int) x69_3 true l0_0 l0_1 a0_2 ((rd_T85 l0_1 x69_3).f0) ((rd_T85 l0_1 x69_3).f1) ((rd_T85 l0_1 x69_3).f2) ((rd_T85 l0_1 x69_3).f3) ((rd_T85 l0_1 x69_3).f4)))) else (impl_isControl.j3 k3 (l0_0.length : Int) l0_1 (l0_1.length : Int) x69_3 true l0_0 l0_1 a0_2 ((rd_T85 l0_1 x69_3).f0) ((rd_T85 l0_1 x69_3).f1) ((rd_T85 l0_1 x69_3).f2) ((rd_T85 l0_1 x69_3).f3) ((rd_T85 l0_1 x69_3).f4)))) = some r := by rw [if_pos rfl] at H; exact H
                                  clear H
                                  have H := H1
                                  clear H1
                                  replace H := Option.bind_eq_some_iff.mp H
                                  obtain ⟨t112, A700, H⟩ := H
                                  replace H : (if t112 = true then ((impl_in.f ((rd_T85 l0_1 x69_3).f3) 0 1000).bind fun t113 => (if t113 = true then ((impl_in.f ((rd_T85 l0_1 x69_3).f4) 0 1000).bind fun t114 => (impl_isControl.j3 k3 (l0_0.length : Int) l0_1 (l0_1.length : Int) x69_3 (!t114) l0_0 l0_1 a0_2 ((rd_T85 l0_1 x69_3).f0) ((rd_T85 l0_1 x69_3).f1) ((rd_T85 l0_1 x69_3).f2) ((rd_T85 l0_1 x69_3).f3) ((rd_T85 l0_1 x69_3).f4))) else (impl_isControl.j3 k3 (l0_0.length : Int) l0_1 (l0_1.length : Int) x69_3 true l0_0 l0_1 a0_2 ((rd_T85 l0_1 x69_3).f0) ((rd_T85 l0_1 x69_3).f1) ((rd_T85 l0_1 x69_3).f2) ((rd_T85 l0_1 x69_3).f3) ((rd_T85 l0_1 x69_3).f4)))) else (impl_isControl.j3 k3 (l0_0.length : Int) l0_1 (l0_1.length : Int) x69_3 true l0_0 l0_1 a0_2 ((rd_T85 l0_1 x69_3).f0) ((rd_T85 l0_1 x69_3).f1) ((rd_T85 l0_1 x69_3).f2) ((rd_T85 l0_1 x69_3).f3) ((rd_T85 l0_1 x69_3).f4))) = some r := H
                                  have A70 := Aside0.mk A700
                                  clear A700
                                  by_cases c71 : t112 = true
                                  · subst c71
                                    have H1 : ((impl_in.f ((rd_T85 l0_1 x69_3).f3) 0 1000).bind fun t113 => (if t113 = true then ((impl_in.f ((rd_T85 l0_1 x69_3).f4) 0 1000).bind fun t114 => (impl_isControl.j3 k3 (l0_0.length : Int) l0_1 (l0_1.length : Int) x69_3 (!t114) l0_0 l0_1 a0_2 ((rd_T85 l0_1 x69_3).f0) ((rd_T85 l0_1 x69_3).f1) ((rd_T85 l0_1 x69_3).f2) ((rd_T85 l0_1 x69_3).f3) ((rd_T85 l0_1 x69_3).f4))) else (impl_isControl.j3 k3 (l0_0.length : Int) l0_1 (l0_1.length : Int) x69_3 true l0_0 l0_1 a0_2 ((rd_T85 l0_1 x69_3).f0) ((rd_T85 l0_1 x69_3).f1) ((rd_T85 l0_1 x69_3).f2) ((rd_T85 l0_1 x69_3).f3) ((rd_T85 l0_1 x69_3).f4)))) = some r := by rw [if_pos rfl] at H; exact H
                                    clear H
                                    have H := H1
                                    clear H1
                                    replace H := Option.bind_eq_some_iff.mp H
                                    obtain ⟨t113, A720, H⟩ := H
                                    replace H : (if t113 = true then ((impl_in.f ((rd_T85 l0_1 x69_3).f4) 0 1000).bind fun t114 => (impl_isControl.j3 k3 (l0_0.length : Int) l0_1 (l0_1.length : Int) x69_3 (!t114) l0_0 l0_1 a0_2 ((rd_T85 l0_1 x69_3).f0) ((rd_T85 l0_1 x69_3).f1) ((rd_T85 l0_1 x69_3).f2) ((rd_T85 l0_1 x69_3).f3) ((rd_T85 l0_1 x69_3).f4))) else (impl_isControl.j3 k3 (l0_0.length : Int) l0_1 (l0_1.length : Int) x69_3 true l0_0 l0_1 a0_2 ((rd_T85 l0_1 x69_3).f0) ((rd_T85 l0_1 x69_3).f1) ((rd_T85 l0_1 x69_3).f2) ((rd_T85 l0_1 x69_3).f3) ((rd_T85 l0_1 x69_3).f4))) = some r := H
                                    have A72 := Aside0.mk A720
                                    clear A720
                                    by_cases c73 : t113 = true
                                    · subst c73
                                      have H1 : ((impl_in.f ((rd_T85 l0_1 x69_3).f4) 0 1000).bind fun t114 => (impl_isControl.j3 k3 (l0_0.length : Int) l0_1 (l0_1.length : Int) x69_3 (!t114) l0_0 l0_1 a0_2 ((rd_T85 l0_1 x69_3).f0) ((rd_T85 l0_1 x69_3).f1) ((rd_T85 l0_1 x69_3).f2) ((rd_T85 l0_1 x69_3).f3) ((rd_T85 l0_1 x69_3).f4))) = some r := by rw [if_pos rfl] at H; exact H
                                      clear H
                                      have H := H1
                                      clear H1
                                      replace H := Option.bind_eq_some_iff.mp H
                                      obtain ⟨t114, A740, H⟩ := H
                                      replace H : (impl_isControl.j3 k3 (l0_0.length : Int) l0_1 (l0_1.length : Int) x69_3 (!t114) l0_0 l0_1 a0_2 ((rd_T85 l0_1 x69_3).f0) ((rd_T85 l0_1 x69_3).f1) ((rd_T85 l0_1 x69_3).f2) ((rd_T85 l0_1 x69_3).f3) ((rd_T85 l0_1 x69_3).f4)) = some r := H
                                      have A74 := Aside0.mk A740
                                      clear A740
                                      have H' := Aside0.mk H
                                      clear H
                                      have hnb75 := NB109_101.out
                                      have hnc75 := NB101_109.out
                                      have hcz76_0 : w57.cell? ⟨gb109, 0, none⟩ = some (.slice none 0 0) := (blk_cell BK109.out 0).trans rfl
                                      have hcz76_1 : w57.cell? ⟨gb109, 1, none⟩ = some (.slice none 0 0) := (blk_cell BK109.out 1).trans rfl
                                      have hcz76_2 : w57.cell? ⟨gb109, 2, none⟩ = some (.int .i64 0) := (blk_cell BK109.out 2).trans rfl
                                      have hcz76_3 : w57.cell? ⟨gb109, 3, none⟩ = some (.int .i64 0) := (blk_cell BK109.out 3).trans rfl
                                      have hcz76_4 : w57.cell? ⟨gb109, 4, none⟩ = some (.int .i64 0) := (blk_cell BK109.out 4).trans rfl
                                      have hfz76_0 := blk_frozen BK109.out 0
                                      have hfz76_1 := blk_frozen BK109.out 1
                                      have hfz76_2 := blk_frozen BK109.out 2
                                      have hfz76_3 := blk_frozen BK109.out 3
                                      have hfz76_4 := blk_frozen BK109.out 4
                                      go_wp2_with (first | (go_at_call 92; (with_reducible refine (impl_areMembers.calls k3 _ _ ((rd_T85 l0_1 x69_3).f0) (l0_0.length : Int) true _ ?side1 ?side2 A63.out).mono ?_); (case side1 => exact Kd.C_below HR108_0.out (by repeat (first | (with_reducible first | exact HB.out | apply below_alloc | apply pw_below_drewN | apply below_drew1 | refine below_set ?_ GE101.out | refine below_set ?_ GE109.out) | exact HB.out))); (case side2 => exact HC108_0.out); rintro e w' ⟨rfl, ⟨nd, rfl⟩⟩) | (go_at_call 92; (with_reducible refine (impl_areMembers.calls k3 _ _ ((rd_T85 l0_1 x69_3).f1) (l0_0.length : Int) true _ ?side1 ?side2 A68.out).mono ?_); (case side1 => exact Kd.C_below HR108_1.out (by repeat (first | (with_reducible first | exact HB.out | apply below_alloc | apply pw_below_drewN | apply below_drew1 | refine below_set ?_ GE101.out | refine below_set ?_ GE109.out) | exact HB.out))); (case side2 => exact HC108_1.out); rintro e w' ⟨rfl, ⟨nd, rfl⟩⟩) | (go_at_call 93; (with_reducible refine (impl_allOf.calls k3 _ _ ((rd_T85 l0_1 x69_3).f1) _ _ ((rd_T85 l0_1 x69_3).f0) true _ ?side1 ?side2 ?side3 ?side4 A70.out).mono ?_); (case side1 => exact Kd.C_below HR108_1.out (by repeat (first | (with_reducible first | exact HB.out | apply below_alloc | apply pw_below_drewN | apply below_drew1 | refine below_set ?_ GE101.out | refine below_set ?_ GE109.out) | exact HB.out))); (case side2 => exact HC108_1.out); (case side3 => exact Kd.C_below HR108_0.out (by repeat (first | (with_reducible first | exact HB.out | apply below_alloc | apply pw_below_drewN | apply below_drew1 | refine below_set ?_ GE101.out | refine below_set ?_ GE109.out) | exact HB.out))); (case side4 => exact HC108_0.out); rintro e w77 ⟨rfl, hb⟩; have n0_ := Aside0.mk (blk_below (g := gb101) (o := .cells #[.slice A0_0 l0_0.length c0_0, .slice (some ad108) l0_1.length c0_1, .int .i64 a0_2] 25 (0, 0)) (by (with_reducible repeat (first | refine blk_drewN ?_ _ | refine blk_drew ?_ | refine blk_alloc ?_ _)); refine blk_far ?_ NB101_109.out _; (with_reducible repeat (first | refine blk_drewN ?_ _ | refine blk_drew ?_ | refine blk_alloc ?_ _)); refine blk_far ?_ NB101_109.out _; (with_reducible repeat (first | refine blk_drewN ?_ _ | refine blk_drew ?_ | refine blk_alloc ?_ _)); refine blk_far ?_ NB101_109.out _; (with_reducible repeat (first | refine blk_drewN ?_ _ | refine blk_drew ?_ | refine blk_alloc ?_ _)); refine blk_far ?_ NB101_109.out _; (with_reducible repeat (first | refine blk_drewN ?_ _ | refine blk_drew ?_ | refine blk_alloc ?_ _)); refine blk_far ?_ NB101_109.out _; (with_reducible repeat (first | refine blk_drewN ?_ _ | refine blk_drew ?_ | refine blk_alloc ?_ _)); exact BK101.out) hb); have n1_ := Aside0.mk (blk_below (g := gb109) (o := .cells #[.slice A108_0 ((rd_T85 l0_1 x69_3).f0).length c108_0, .slice A108_1 ((rd_T85 l0_1 x69_3).f1).length c108_1, .int .i64 ((rd_T85 l0_1 x69_3).f2), .int .i64 ((rd_T85 l0_1 x69_3).f3), .int .i64 ((rd_T85 l0_1 x69_3).f4)] 85 (0, 0)) (by (with_reducible repeat (first | refine blk_drewN ?_ _ | refine blk_drew ?_ | refine blk_alloc ?_ _)); refine blk_put (cs := #[.slice A108_0 ((rd_T85 l0_1 x69_3).f0).length c108_0, .slice A108_1 ((rd_T85 l0_1 x69_3).f1).length c108_1, .int .i64 ((rd_T85 l0_1 x69_3).f2), .int .i64 ((rd_T85 l0_1 x69_3).f3), .int .i64 0]) ?_ 4 _ rfl; (with_reducible repeat (first | refine blk_drewN ?_ _ | refine blk_drew ?_ | refine blk_alloc ?_ _)); refine blk_put (cs := #[.slice A108_0 ((rd_T85 l0_1 x69_3).f0).length c108_0, .slice A108_1 ((rd_T85 l0_1 x69_3).f1).length c108_1, .int .i64 ((rd_T85 l0_1 x69_3).f2), .int .i64 0, .int .i64 0]) ?_ 3 _ rfl; (with_reducible repeat (first | refine blk_drewN ?_ _ | refine blk_drew ?_ | refine blk_alloc ?_ _)); refine blk_put (cs := #[.slice A108_0 ((rd_T85 l0_1 x69_3).f0).length c108_0, .slice A108_1 ((rd_T85 l0_1 x69_3).f1).length c108_1, .int .i64 0, .int .i64 0, .int .i64 0]) ?_ 2 _ rfl; (with_reducible repeat (first | refine blk_drewN ?_ _ | refine blk_drew ?_ | refine blk_alloc ?_ _)); refine blk_put (cs := #[.slice A108_0 ((rd_T85 l0_1 x69_3).f0).length c108_0, .slice none 0 0, .int .i64 0, .int .i64 0, .int .i64 0]) ?_ 1 _ rfl; (with_reducible repeat (first | refine blk_drewN ?_ _ | refine blk_drew ?_ | refine blk_alloc ?_ _)); refine blk_put (cs := #[.slice none 0 0, .slice none 0 0, .int .i64 0, .int .i64 0, .int .i64 0]) ?_ 0 _ rfl; (with_reducible repeat (first | refine blk_drewN ?_ _ | refine blk_drew ?_ | refine blk_alloc ?_ _)); exact BK109.out) hb); have n2_ := Aside0.mk (below_step (by repeat (first | (with_reducible first | exact HB.out | apply below_alloc | apply pw_below_drewN | apply below_drew1 | refine below_set ?_ GE101.out | refine below_set ?_ GE109.out) | exact HB.out)) hb); clear BK101; clear BK109; clear HB; have BK101 := n0_; have BK109 := n1_; have HB := n2_; clear n0_ n1_ n2_; (try clear hb); (try clear hb2); (try clear hk); (try clear hi); have hcz78_0 : w77.cell? ⟨gb109, 0, none⟩ = some (.slice A108_0 ((rd_T85 l0_1 x69_3).f0).length c108_0) := (blk_cell BK109.out 0).trans rfl; have hcz78_1 : w77.cell? ⟨gb109, 1, none⟩ = some (.slice A108_1 ((rd_T85 l0_1 x69_3).f1).length c108_1) := (blk_cell BK109.out 1).trans rfl; have hcz78_2 : w77.cell? ⟨gb109, 2, none⟩ = some (.int .i64 ((rd_T85 l0_1 x69_3).f2)) := (blk_cell BK109.out 2).trans rfl; have hcz78_3 : w77.cell? ⟨gb109, 3, none⟩ = some (.int .i64 ((rd_T85 l0_1 x69_3).f3)) := (blk_cell BK109.out 3).trans rfl; have hcz78_4 : w77.cell? ⟨gb109, 4, none⟩ = some (.int .i64 ((rd_T85 l0_1 x69_3).f4)) := (blk_cell BK109.out 4).trans rfl; have hfz78_0 := blk_frozen BK109.out 0; have hfz78_1 := blk_frozen BK109.out 1; have hfz78_2 := blk_frozen BK109.out 2; have hfz78_3 := blk_frozen BK109.out 3; have hfz78_4 := blk_frozen BK109.out 4) | (go_at_call 44; (with_reducible refine (impl_in.calls ((rd_T85 l0_1 x69_3).f3) 0 1000 true _ A72.out).mono ?_); rintro e w' ⟨rfl, ⟨nd, rfl⟩⟩) | (go_at_call 44; (with_reducible refine (impl_in.calls ((rd_T85 l0_1 x69_3).f4) 0 1000 t114 _ A74.out).mono ?_); rintro e w' ⟨rfl, ⟨nd, rfl⟩⟩))
                                      go_meet
                                      case rel => exact ⟨_, (!t114), (by first | rfl | (simp; done) | (simp [*]; done)), H', ⟨by have := HJ1.out; have := HK2.out; have := HK3.out; first | omega | exact Nat.le_refl _⟩, ⟨by (with_reducible repeat (first | refine blk_drewN ?_ _ | refine blk_drew ?_ | refine blk_alloc ?_ _)); exact BK101.out⟩, ⟨by (with_reducible repeat (first | refine blk_drewN ?_ _ | refine blk_drew ?_ | refine blk_alloc ?_ _)); exact BK109.out⟩, ⟨by repeat (first | (with_reducible first | exact HB.out | apply below_alloc | apply pw_below_drewN | apply below_drew1 | refine below_set ?_ GE101.out | refine below_set ?_ GE109.out) | exact HB.out)⟩⟩
                                    · replace c73 := Bool.eq_false_iff.mpr c73
                                      subst c73
                                      have H1 : (impl_isControl.j3 k3 (l0_0.length : Int) l0_1 (l0_1.length : Int) x69_3 true l0_0 l0_1 a0_2 ((rd_T85 l0_1 x69_3).f0) ((rd_T85 l0_1 x69_3).f1) ((rd_T85 l0_1 x69_3).f2) ((rd_T85 l0_1 x69_3).f3) ((rd_T85 l0_1 x69_3).f4)) = some r := by rw [if_neg (show ¬ (false = true) by decide)] at H; exact H
                                      clear H
                                      have H := H1
                                      clear H1
                                      have H' := Aside0.mk H
                                      clear H
                                      have hnb79 := NB109_101.out
                                      have hnc79 := NB101_109.out
                                      have hcz80_0 : w57.cell? ⟨gb109, 0, none⟩ = some (.slice none 0 0) := (blk_cell BK109.out 0).trans rfl
                                      have hcz80_1 : w57.cell? ⟨gb109, 1, none⟩ = some (.slice none 0 0) := (blk_cell BK109.out 1).trans rfl
                                      have hcz80_2 : w57.cell? ⟨gb109, 2, none⟩ = some (.int .i64 0) := (blk_cell BK109.out 2).trans rfl
                                      have hcz80_3 : w57.cell? ⟨gb109, 3, none⟩ = some (.int .i64 0) := (blk_cell BK109.out 3).trans rfl
                                      have hcz80_4 : w57.cell? ⟨gb109, 4, none⟩ = some (.int .i64 0) := (blk_cell BK109.out 4).trans rfl
                                      have hfz80_0 := blk_frozen BK109.out 0
                                      have hfz80_1 := blk_frozen BK109.out 1
                                      have hfz80_2 := blk_frozen BK109.out 2
                                      have hfz80_3 := blk_frozen BK109.out 3
                                      have hfz80_4 := blk_frozen BK109.out 4
                                      go_wp2_with (first | (go_at_call 92; (with_reducible refine (impl_areMembers.calls k3 _ _ ((rd_T85 l0_1 x69_3).f0) (l0_0.length : Int) true _ ?side1 ?side2 A63.out).mono ?_); (case side1 => exact Kd.C_below HR108_0.out (by repeat (first | (with_reducible first | exact HB.out | apply below_alloc | apply pw_below_drewN | apply below_drew1 | refine below_set ?_ GE101.out | refine below_set ?_ GE109.out) | exact HB.out))); (case side2 => exact HC108_0.out); rintro e w' ⟨rfl, ⟨nd, rfl⟩⟩) | (go_at_call 92; (with_reducible refine (impl_areMembers.calls k3 _ _ ((rd_T85 l0_1 x69_3).f1) (l0_0.length : Int) true _ ?side1 ?side2 A68.out).mono ?_); (case side1 => exact Kd.C_below HR108_1.out (by repeat (first | (with_reducible first | exact HB.out | apply below_alloc | apply pw_below_drewN | apply below_drew1 | refine below_set ?_ GE101.out | refine below_set ?_ GE109.out) | exact HB.out))); (case side2 => exact HC108_1.out); rintro e w' ⟨rfl, ⟨nd, rfl⟩⟩) | (go_at_call 93; (with_reducible refine (impl_allOf.calls k3 _ _ ((rd_T85 l0_1 x69_3).f1) _ _ ((rd_T85 l0_1 x69_3).f0) true _ ?side1 ?side2 ?side3 ?side4 A70.out).mono ?_); (case side1 => exact Kd.C_below HR108_1.out (by repeat (first | (with_reducible first | exact HB.out | apply below_alloc | apply pw_below_drewN | apply below_drew1 | refine below_set ?_ GE101.out | refine below_set ?_ GE109.out) | exact HB.out))); (case side2 => exact HC108_1.out); (case side3 => exact Kd.C_below HR108_0.out (by repeat (first | (with_reducible first | exact HB.out | apply below_alloc | apply pw_below_drewN | apply below_drew1 | refine below_set ?_ GE101.out | refine below_set ?_ GE109.out) | exact HB.out))); (case side4 => exact HC108_0.out); rintro e w81 ⟨rfl, hb⟩; have n0_ := Aside0.mk (blk_below (g := gb101) (o := .cells #[.slice A0_0 l0_0.length c0_0, .slice (some ad108) l0_1.length c0_1, .int .i64 a0_2] 25 (0, 0)) (by (with_reducible repeat (first | refine blk_drewN ?_ _ | refine blk_drew ?_ | refine blk_alloc ?_ _)); refine blk_far ?_ NB101_109.out _; (with_reducible repeat (first | refine blk_drewN ?_ _ | refine blk_drew ?_ | refine blk_alloc ?_ _)); refine blk_far ?_ NB101_109.out _; (with_reducible repeat (first | refine blk_drewN ?_ _ | refine blk_drew ?_ | refine blk_alloc ?_ _)); refine blk_far ?_ NB101_109.out _; (with_reducible repeat (first | refine blk_drewN ?_ _ | refine blk_drew ?_ | refine blk_alloc ?_ _)); refine blk_far ?_ NB101_109.out _; (with_reducible repeat (first | refine blk_drewN ?_ _ | refine blk_drew ?_ | refine blk_alloc ?_ _)); refine blk_far ?_ NB101_109.out _; (with_reducible repeat (first | refine blk_drewN ?_ _ | refine blk_drew ?_ | refine blk_alloc ?_ _)); exact BK101.out) hb); have n1_ := Aside0.mk (blk_below (g := gb109) (o := .cells #[.slice A108_0 ((rd_T85 l0_1 x69_3).f0).length c108_0, .slice A108_1 ((rd_T85 l0_1 x69_3).f1).length c108_1, .int .i64 ((rd_T85 l0_1 x69_3).f2), .int .i64 ((rd_T85 l0_1 x69_3).f3), .int .i64 ((rd_T85 l0_1 x69_3).f4)] 85 (0, 0)) (by (with_reducible repeat (first | refine blk_drewN ?_ _ | refine blk_drew ?_ | refine blk_alloc ?_ _)); refine blk_put (cs := #[.slice A108_0 ((rd_T85 l0_1 x69_3).f0).length c108_0, .slice A108_1 ((rd_T85 l0_1 x69_3).f1).length c108_1, .int .i64 ((rd_T85 l0_1 x69_3).f2), .int .i64 ((rd_T85 l0_1 x69_3).f3), .int .i64 0]) ?_ 4 _ rfl; (with_reducible repeat (first | refine blk_drewN ?_ _ | refine blk_drew ?_ | refine blk_alloc ?_ _)); refine blk_put (cs := #[.slice A108_0 ((rd_T85 l0_1 x69_3).f0).length c108_0, .slice A108_1 ((rd_T85 l0_1 x69_3).f1).length c108_1, .int .i64 ((rd_T85 l0_1 x69_3).f2), .int .i64 0, .int .i64 0]) ?_ 3 _ rfl; (with_reducible repeat (first | refine blk_drewN ?_ _ | refine blk_drew ?_ | refine blk_alloc ?_ _)); refine blk_put (cs := #[.slice A108_0 ((rd_T85 l0_1 x69_3).f0).length c108_0, .slice A108_1 ((rd_T85 l0_1 x69_3).f1).length c108_1, .int .i64 0, .int .i64 0, .int .i64 0]) ?_ 2 _ rfl; (with_reducible repeat (first | refine blk_drewN ?_ _ | refine blk_drew ?_ | refine blk_alloc ?_ _)); refine blk_put (cs := #[.slice A108_0 ((rd_T85 l0_1 x69_3).f0).length c108_0, .slice none 0 0, .int .i64 0, .int .i64 0, .int .i64 0]) ?_ 1 _ rfl; (with_reducible repeat (first | refine blk_drewN ?_ _ | refine blk_drew ?_ | refine blk_alloc ?_ _)); refine blk_put (cs := #[.slice none 0 0, .slice none 0 0, .int .i64 0, .int .i64 0, .int .i64 0]) ?_ 0 _ rfl; (with_reducible repeat (first | refine blk_drewN ?_ _ | refine blk_drew ?_ | refine blk_alloc ?_ _)); exact BK109.out) hb); have n2_ := Aside0.mk (below_step (by repeat (first | (with_reducible first | exact HB.out | apply below_alloc | apply pw_below_drewN | apply below_drew1 | refine below_set ?_ GE101.out | refine below_set ?_ GE109.out) | exact HB.out)) hb); clear BK101; clear BK109; clear HB; have BK101 := n0_; have BK109 := n1_; have HB := n2_; clear n0_ n1_ n2_; (try clear hb); (try clear hb2); (try clear hk); (try clear hi); have hcz82_0 : w81.cell? ⟨gb109, 0, none⟩ = some (.slice A108_0 ((rd_T85 l0_1 x69_3).f0).length c108_0) := (blk_cell BK109.out 0).trans rfl; have hcz82_1 : w81.cell? ⟨gb109, 1, none⟩ = some (.slice A108_1 ((rd_T85 l0_1 x69_3).f1).length c108_1) := (blk_cell BK109.out 1).trans rfl; have hcz82_2 : w81.cell? ⟨gb109, 2, none⟩ = some (.int .i64 ((rd_T85 l0_1 x69_3).f2)) := (blk_cell BK109.out 2).trans rfl; have hcz82_3 : w81.cell? ⟨gb109, 3, none⟩ = some (.int .i64 ((rd_T85 l0_1 x69_3).f3)) := (blk_cell BK109.out 3).trans rfl; have hcz82_4 : w81.cell? ⟨gb109, 4, none⟩ = some (.int .i64 ((rd_T85 l0_1 x69_3).f4)) := (blk_cell BK109.out 4).trans rfl; have hfz82_0 := blk_frozen BK109.out 0; have hfz82_1 := blk_frozen BK109.out 1; have hfz82_2 := blk_frozen BK109.out 2; have hfz82_3 := blk_frozen BK109.out 3; have hfz82_4 := blk_frozen BK109.out 4) | (go_at_call 44; (with_reducible refine (impl_in.calls ((rd_T85 l0_1 x69_3).f3) 0 1000 false _ A72.out).mono ?_); rintro e w' ⟨rfl, ⟨nd, rfl⟩⟩))
                                      go_meet
                                      case rel => exact ⟨_, (true), (by first | rfl | (simp; done) | (simp [*]; done)), H', ⟨by have := HJ1.out; have := HK2.out; have := HK3.out; first | omega | exact Nat.le_refl _⟩, ⟨by (with_reducible repeat (first | refine blk_drewN ?_ _ | refine blk_drew ?_ | refine blk_alloc ?_ _)); exact BK101.out⟩, ⟨by (with_reducible repeat (first | refine blk_drewN ?_ _ | refine blk_drew ?_ | refine blk_alloc ?_ _)); exact BK109.out⟩, ⟨by repeat (first | (with_reducible first | exact HB.out | apply below_alloc | apply pw_below_drewN | apply below_drew1 | refine below_set ?_ GE101.out | refine below_set ?_ GE109.out) | exact HB.out)⟩⟩
                                  · replace c71 := Bool.eq_false_iff.mpr c71
                                    subst c71
                                    have H1 : (impl_isControl.j3 k3 (l0_0.length : Int) l0_1 (l0_1.length : Int) x69_3 true l0_0 l0_1 a0_2 ((rd_T85 l0_1 x69_3).f0) ((rd_T85 l0_1 x69_3).f1) ((rd_T85 l0_1 x69_3).f2) ((rd_T85 l0_1 x69_3).f3) ((rd_T85 l0_1 x69_3).f4)) = some r := by rw [if_neg (show ¬ (false = true) by decide)] at H; exact H
                                    clear H
                                    have H := H1
                                    clear H1
                                    have H' := Aside0.mk H
                                    clear H
                                    have hnb83 := NB109_101.out
                                    have hnc83 := NB101_109.out
                                    have hcz84_0 : w57.cell? ⟨gb109, 0, none⟩ = some (.slice none 0 0) := (blk_cell BK109.out 0).trans rfl
                                    have hcz84_1 : w57.cell? ⟨gb109, 1, none⟩ = some (.slice none 0 0) := (blk_cell BK109.out 1).trans rfl
                                    have hcz84_2 : w57.cell? ⟨gb109, 2, none⟩ = some (.int .i64 0) := (blk_cell BK109.out 2).trans rfl
                                    have hcz84_3 : w57.cell? ⟨gb109, 3, none⟩ = some (.int .i64 0) := (blk_cell BK109.out 3).trans rfl
                                    have hcz84_4 : w57.cell? ⟨gb109, 4, none⟩ = some (.int .i64 0) := (blk_cell BK109.out 4).trans rfl
                                    have hfz84_0 := blk_frozen BK109.out 0
                                    have hfz84_1 := blk_frozen BK109.out 1
                                    have hfz84_2 := blk_frozen BK109.out 2
                                    have hfz84_3 := blk_frozen BK109.out 3
                                    have hfz84_4 := blk_frozen BK109.out 4
                                    go_wp2_with (first | (go_at_call 92; (with_reducible refine (impl_areMembers.calls k3 _ _ ((rd_T85 l0_1 x69_3).f0) (l0_0.length : Int) true _ ?side1 ?side2 A63.out).mono ?_); (case side1 => exact Kd.C_below HR108_0.out (by repeat (first | (with_reducible first | exact HB.out | apply below_alloc | apply pw_below_drewN | apply below_drew1 | refine below_set ?_ GE101.out | refine below_set ?_ GE109.out) | exact HB.out))); (case side2 => exact HC108_0.out); rintro e w' ⟨rfl, ⟨nd, rfl⟩⟩) | (go_at_call 92; (with_reducible refine (impl_areMembers.calls k3 _ _ ((rd_T85 l0_1 x69_3).f1) (l0_0.length : Int) true _ ?side1 ?side2 A68.out).mono ?_); (case side1 => exact Kd.C_below HR108_1.out (by repeat (first | (with_reducible first | exact HB.out | apply below_alloc | apply pw_below_drewN | apply below_drew1 | refine below_set ?_ GE101.out | refine below_set ?_ GE109.out) | exact HB.out))); (case side2 => exact HC108_1.out); rintro e w' ⟨rfl, ⟨nd, rfl⟩⟩) | (go_at_call 93; (with_reducible refine (impl_allOf.calls k3 _ _ ((rd_T85 l0_1 x69_3).f1) _ _ ((rd_T85 l0_1 x69_3).f0) false _ ?side1 ?side2 ?side3 ?side4 A70.out).mono ?_); (case side1 => exact Kd.C_below HR108_1.out (by repeat (first | (with_reducible first | exact HB.out | apply below_alloc | apply pw_below_drewN | apply below_drew1 | refine below_set ?_ GE101.out | refine below_set ?_ GE109.out) | exact HB.out))); (case side2 => exact HC108_1.out); (case side3 => exact Kd.C_below HR108_0.out (by repeat (first | (with_reducible first | exact HB.out | apply below_alloc | apply pw_below_drewN | apply below_drew1 | refine below_set ?_ GE101.out | refine below_set ?_ GE109.out) | exact HB.out))); (case side4 => exact HC108_0.out); rintro e w85 ⟨rfl, hb⟩; have n0_ := Aside0.mk (blk_below (g := gb101) (o := .cells #[.slice A0_0 l0_0.length c0_0, .slice (some ad108) l0_1.length c0_1, .int .i64 a0_2] 25 (0, 0)) (by (with_reducible repeat (first | refine blk_drewN ?_ _ | refine blk_drew ?_ | refine blk_alloc ?_ _)); refine blk_far ?_ NB101_109.out _; (with_reducible repeat (first | refine blk_drewN ?_ _ | refine blk_drew ?_ | refine blk_alloc ?_ _)); refine blk_far ?_ NB101_109.out _; (with_reducible repeat (first | refine blk_drewN ?_ _ | refine blk_drew ?_ | refine blk_alloc ?_ _)); refine blk_far ?_ NB101_109.out _; (with_reducible repeat (first | refine blk_drewN ?_ _ | refine blk_drew ?_ | refine blk_alloc ?_ _)); refine blk_far ?_ NB101_109.out _; (with_reducible repeat (first | refine blk_drewN ?_ _ | refine blk_drew ?_ | refine blk_alloc ?_ _)); refine blk_far ?_ NB101_109.out _; (with_reducible repeat (first | refine blk_drewN ?_ _ | refine blk_drew ?_ | refine blk_alloc ?_ _)); exact BK101.out) hb); have n1_ := Aside0.mk (blk_below (g := gb109) (o := .cells #[.slice A108_0 ((rd_T85 l0_1 x69_3).f0).length c108_0, .slice A108_1 ((rd_T85 l0_1 x69_3).f1).length c108_1, .int .i64 ((rd_T85 l0_1 x69_3).f2), .int .i64 ((rd_T85 l0_1 x69_3).f3), .int .i64 ((rd_T85 l0_1 x69_3).f4)] 85 (0, 0)) (by (with_reducible repeat (first | refine blk_drewN ?_ _ | refine blk_drew ?_ | refine blk_alloc ?_ _)); refine blk_put (cs := #[.slice A108_0 ((rd_T85 l0_1 x69_3).f0).length c108_0, .slice A108_1 ((rd_T85 l0_1 x69_3).f1).length c108_1, .int .i64 ((rd_T85 l0_1 x69_3).f2), .int .i64 ((rd_T85 l0_1 x69_3).f3), .int .i64 0]) ?_ 4 _ rfl; (with_reducible repeat (first | refine blk_drewN ?_ _ | refine blk_drew ?_ | refine blk_alloc ?_ _)); refine blk_put (cs := #[.slice A108_0 ((rd_T85 l0_1 x69_3).f0).length c108_0, .slice A108_1 ((rd_T85 l0_1 x69_3).f1).length c108_1, .int .i64 ((rd_T85 l0_1 x69_3).f2), .int .i64 0, .int .i64 0]) ?_ 3 _ rfl; (with_reducible repeat (first | refine blk_drewN ?_ _ | refine blk_drew ?_ | refine blk_alloc ?_ _)); refine blk_put (cs := #[.slice A108_0 ((rd_T85 l0_1 x69_3).f0).length c108_0, .slice A108_1 ((rd_T85 l0_1 x69_3).f1).length c108_1, .int .i64 0, .int .i64 0, .int .i64 0]) ?_ 2 _ rfl; (with_reducible repeat (first | refine blk_drewN ?_ _ | refine blk_drew ?_ | refine blk_alloc ?_ _)); refine blk_put (cs := #[.slice A108_0 ((rd_T85 l0_1 x69_3).f0).length c108_0, .slice none 0 0, .int .i64 0, .int .i64 0, .int .i64 0]) ?_ 1 _ rfl; (with_reducible repeat (first | refine blk_drewN ?_ _ | refine blk_drew ?_ | refine blk_alloc ?_ _)); refine blk_put (cs := #[.slice none 0 0, .slice none 0 0, .int .i64 0, .int .i64 0, .int .i64 0]) ?_ 0 _ rfl; (with_reducible repeat (first | refine blk_drewN ?_ _ | refine blk_drew ?_ | refine blk_alloc ?_ _)); exact BK109.out) hb); have n2_ := Aside0.mk (below_step (by repeat (first | (with_reducible first | exact HB.out | apply below_alloc | apply pw_below_drewN | apply below_drew1 | refine below_set ?_ GE101.out | refine below_set ?_ GE109.out) | exact HB.out)) hb); clear BK101; clear BK109; clear HB; have BK101 := n0_; have BK109 := n1_; have HB := n2_; clear n0_ n1_ n2_; (try clear hb); (try clear hb2); (try clear hk); (try clear hi)))
                                    go_meet
                                    case rel => exact ⟨_, (true), (by first | rfl | (simp; done) | (simp [*]; done)), H', ⟨by have := HJ1.out; have := HK2.out; have := HK3.out; first | omega | exact Nat.le_refl _⟩, ⟨by (with_reducible repeat (first | refine blk_drewN ?_ _ | refine blk_drew ?_ | refine blk_alloc ?_ _)); exact BK101.out⟩, ⟨by (with_reducible repeat (first | refine blk_drewN ?_ _ | refine blk_drew ?_ | refine blk_alloc ?_ _)); exact BK109.out⟩, ⟨by repeat (first | (with_reducible first | exact HB.out | apply below_alloc | apply pw_below_drewN | apply below_drew1 | refine below_set ?_ GE101.out | refine below_set ?_ GE109.out) | exact HB.out)⟩⟩
                                · replace c69 := Bool.eq_false_iff.mpr c69
                                  subst c69
                                  have H1 : (impl_isControl.j3 k3 (l0_0.length : Int) l0_1 (l0_1.length : Int) x69_3 true l0_0 l0_1 a0_2 ((rd_T85 l0_1 x69_3).f0) ((rd_T85 l0_1 x69_3).f1) ((rd_T85 l0_1 x69_3).f2) ((rd_T85 l0_1 x69_3).f3) ((rd_T85 l0_1 x69_3).f4)) = some r := by rw [if_neg (show ¬ (false = true) by decide)] at H; exact H
                                  clear H
                                  have H := H1
                                  clear H1
                                  have H' := Aside0.mk H
                                  clear H
                                  have hnb86 := NB109_101.out
                                  have hnc86 := NB101_109.out
                                  have hcz87_0 : w57.cell? ⟨gb109, 0, none⟩ = some (.slice none 0 0) := (blk_cell BK109.out 0).trans rfl
                                  have hcz87_1 : w57.cell? ⟨gb109, 1, none⟩ = some (.slice none 0 0) := (blk_cell BK109.out 1).trans rfl
                                  have hcz87_2 : w57.cell? ⟨gb109, 2, none⟩ = some (.int .i64 0) := (blk_cell BK109.out 2).trans rfl
                                  have hcz87_3 : w57.cell? ⟨gb109, 3, none⟩ = some (.int .i64 0) := (blk_cell BK109.out 3).trans rfl
                                  have hcz87_4 : w57.cell? ⟨gb109, 4, none⟩ = some (.int .i64 0) := (blk_cell BK109.out 4).trans rfl
                                  have hfz87_0 := blk_frozen BK109.out 0
                                  have hfz87_1 := blk_frozen BK109.out 1
                                  have hfz87_2 := blk_frozen BK109.out 2
                                  have hfz87_3 := blk_frozen BK109.out 3
                                  have hfz87_4 := blk_frozen BK109.out 4
                                  go_wp2_with (first | (go_at_call 92; (with_reducible refine (impl_areMembers.calls k3 _ _ ((rd_T85 l0_1 x69_3).f0) (l0_0.length : Int) true _ ?side1 ?side2 A63.out).mono ?_); (case side1 => exact Kd.C_below HR108_0.out (by repeat (first | (with_reducible first | exact HB.out | apply below_alloc | apply pw_below_drewN | apply below_drew1 | refine below_set ?_ GE101.out | refine below_set ?_ GE109.out) | exact HB.out))); (case side2 => exact HC108_0.out); rintro e w' ⟨rfl, ⟨nd, rfl⟩⟩) | (go_at_call 92; (with_reducible refine (impl_areMembers.calls k3 _ _ ((rd_T85 l0_1 x69_3).f1) (l0_0.length : Int) false _ ?side1 ?side2 A68.out).mono ?_); (case side1 => exact Kd.C_below HR108_1.out (by repeat (first | (with_reducible first | exact HB.out | apply below_alloc | apply pw_below_drewN | apply below_drew1 | refine below_set ?_ GE101.out | refine below_set ?_ GE109.out) | exact HB.out))); (case side2 => exact HC108_1.out); rintro e w' ⟨rfl, ⟨nd, rfl⟩⟩))
                                  go_meet
                                  case rel => exact ⟨_, (true), (by first | rfl | (simp; done) | (simp [*]; done)), H', ⟨by have := HJ1.out; have := HK2.out; have := HK3.out; first | omega | exact Nat.le_refl _⟩, ⟨by (with_reducible repeat (first | refine blk_drewN ?_ _ | refine blk_drew ?_ | refine blk_alloc ?_ _)); refine blk_far ?_ NB101_109.out _; (with_reducible repeat (first | refine blk_drewN ?_ _ | refine blk_drew ?_ | refine blk_alloc ?_ _)); refine blk_far ?_ NB101_109.out _; (with_reducible repeat (first | refine blk_drewN ?_ _ | refine blk_drew ?_ | refine blk_alloc ?_ _)); refine blk_far ?_ NB101_109.out _; (with_reducible repeat (first | refine blk_drewN ?_ _ | refine blk_drew ?_ | refine blk_alloc ?_ _)); refine blk_far ?_ NB101_109.out _; (with_reducible repeat (first | refine blk_drewN ?_ _ | refine blk_drew ?_ | refine blk_alloc ?_ _)); refine blk_far ?_ NB101_109.out _; (with_reducible repeat (first | refine blk_drewN ?_ _ | refine blk_drew ?_ | refine blk_alloc ?_ _)); exact BK101.out⟩, ⟨by (with_reducible repeat (first | refine blk_drewN ?_ _ | refine blk_drew ?_ | refine blk_alloc ?_ _)); refine blk_put (cs := #[.slice A108_0 ((rd_T85 l0_1 x69_3).f0).length c108_0, .slice A108_1 ((rd_T85 l0_1 x69_3).f1).length c108_1, .int .i64 ((rd_T85 l0_1 x69_3).f2), .int .i64 ((rd_T85 l0_1 x69_3).f3), .int .i64 0]) ?_ 4 _ rfl; (with_reducible repeat (first | refine blk_drewN ?_ _ | refine blk_drew ?_ | refine blk_alloc ?_ _)); refine blk_put (cs := #[.slice A108_0 ((rd_T85 l0_1 x69_3).f0).length c108_0, .slice A108_1 ((rd_T85 l0_1 x69_3).f1).length c108_1, .int .i64 ((rd_T85 l0_1 x69_3).f2), .int .i64 0, .int .i64 0]) ?_ 3 _ rfl; (with_reducible repeat (first | refine blk_drewN ?_ _ | refine blk_drew ?_ | refine blk_alloc ?_ _)); refine blk_put (cs := #[.slice A108_0 ((rd_T85 l0_1 x69_3).f0).length c108_0, .slice A108_1 ((rd_T85 l0_1 x69_3).f1).length c108_1, .int .i64 0, .int .i64 0, .int .i64 0]) ?_ 2 _ rfl; (with_reducible repeat (first | refine blk_drewN ?_ _ | refine blk_drew ?_ | refine blk_alloc ?_ _)); refine blk_put (cs := #[.slice A108_0 ((rd_T85 l0_1 x69_3).f0).length c108_0, .slice none 0 0, .int .i64 0, .int .i64 0, .int .i64 0]) ?_ 1 _ rfl; (with_reducible repeat (first | refine blk_drewN ?_ _ | refine blk_drew ?_ | refine blk_alloc ?_ _)); refine blk_put (cs := #[.slice none 0 0, .slice none 0 0, .int .i64 0, .int .i64 0, .int .i64 0]) ?_ 0 _ rfl; (with_reducible repeat (first | refine blk_drewN ?_ _ | refine blk_drew ?_ | refine blk_alloc ?_ _)); exact BK109.out⟩, ⟨by repeat (first | (with_reducible first | exact HB.out | apply below_alloc | apply pw_below_drewN | apply below_drew1 | refine below_set ?_ GE101.out | refine below_set ?_ GE109.out) | exact HB.out)⟩⟩
                            · replace c64 := Bool.eq_false_iff.mpr c64
                              subst c64
                              have H1 : (impl_isControl.j3 k3 (l0_0.length : Int) l0_1 (l0_1.length : Int) x69_3 true l0_0 l0_1 a0_2 ((rd_T85 l0_1 x69_3).f0) ((rd_T85 l0_1 x69_3).f1) ((rd_T85 l0_1 x69_3).f2) ((rd_T85 l0_1 x69_3).f3) ((rd_T85 l0_1 x69_3).f4)) = some r := by rw [if_neg (show ¬ (false = true) by decide)] at H; exact H
                              clear H
                              have H := H1
                              clear H1
                              have H' := Aside0.mk H
                              clear H
                              have hnb88 := NB109_101.out
                              have hnc88 := NB101_109.out
                              have hcz89_0 : w57.cell? ⟨gb109, 0, none⟩ = some (.slice none 0 0) := (blk_cell BK109.out 0).trans rfl
                              have hcz89_1 : w57.cell? ⟨gb109, 1, none⟩ = some (.slice none 0 0) := (blk_cell BK109.out 1).trans rfl
                              have hcz89_2 : w57.cell? ⟨gb109, 2, none⟩ = some (.int .i64 0) := (blk_cell BK109.out 2).trans rfl
                              have hcz89_3 : w57.cell? ⟨gb109, 3, none⟩ = some (.int .i64 0) := (blk_cell BK109.out 3).trans rfl
                              have hcz89_4 : w57.cell? ⟨gb109, 4, none⟩ = some (.int .i64 0) := (blk_cell BK109.out 4).trans rfl
                              have hfz89_0 := blk_frozen BK109.out 0
                              have hfz89_1 := blk_frozen BK109.out 1
                              have hfz89_2 := blk_frozen BK109.out 2
                              have hfz89_3 := blk_frozen BK109.out 3
                              have hfz89_4 := blk_frozen BK109.out 4
                              go_wp2_with (first | (go_at_call 92; (with_reducible refine (impl_areMembers.calls k3 _ _ ((rd_T85 l0_1 x69_3).f0) (l0_0.length : Int) false _ ?side1 ?side2 A63.out).mono ?_); (case side1 => exact Kd.C_below HR108_0.out (by repeat (first | (with_reducible first | exact HB.out | apply below_alloc | apply pw_below_drewN | apply below_drew1 | refine below_set ?_ GE101.out | refine below_set ?_ GE109.out) | exact HB.out))); (case side2 => exact HC108_0.out); rintro e w' ⟨rfl, ⟨nd, rfl⟩⟩))
                              go_meet
                              case rel => exact ⟨_, (true), (by first | rfl | (simp; done) | (simp [*]; done)), H', ⟨by have := HJ1.out; have := HK2.out; have := HK3.out; first | omega | exact Nat.le_refl _⟩, ⟨by (with_reducible repeat (first | refine blk_drewN ?_ _ | refine blk_drew ?_ | refine blk_alloc ?_ _)); refine blk_far ?_ NB101_109.out _; (with_reducible repeat (first | refine blk_drewN ?_ _ | refine blk_drew ?_ | refine blk_alloc ?_ _)); refine blk_far ?_ NB101_109.out _; (with_reducible repeat (first | refine blk_drewN ?_ _ | refine blk_drew ?_ | refine blk_alloc ?_ _)); refine blk_far ?_ NB101_109.out _; (with_reducible repeat (first | refine blk_drewN ?_ _ | refine blk_drew ?_ | refine blk_alloc ?_ _)); refine blk_far ?_ NB101_109.out _; (with_reducible repeat (first | refine blk_drewN ?_ _ | refine blk_drew ?_ | refine blk_alloc ?_ _)); refine blk_far ?_ NB101_109.out _; (with_reducible repeat (first | refine blk_drewN ?_ _ | refine blk_drew ?_ | refine blk_alloc ?_ _)); exact BK101.out⟩, ⟨by (with_reducible repeat (first | refine blk_drewN ?_ _ | refine blk_drew ?_ | refine blk_alloc ?_ _)); refine blk_put (cs := #[.slice A108_0 ((rd_T85 l0_1 x69_3).f0).length c108_0, .slice A108_1 ((rd_T85 l0_1 x69_3).f1).length c108_1, .int .i64 ((rd_T85 l0_1 x69_3).f2), .int .i64 ((rd_T85 l0_1 x69_3).f3), .int .i64 0]) ?_ 4 _ rfl; (with_reducible repeat (first | refine blk_drewN ?_ _ | refine blk_drew ?_ | refine blk_alloc ?_ _)); refine blk_put (cs := #[.slice A108_0 ((rd_T85 l0_1 x69_3).f0).length c108_0, .slice A108_1 ((rd_T85 l0_1 x69_3).f1).length c108_1, .int .i64 ((rd_T85 l0_1 x69_3).f2), .int .i64 0, .int .i64 0]) ?_ 3 _ rfl; (with_reducible repeat (first | refine blk_drewN ?_ _ | refine blk_drew ?_ | refine blk_alloc ?_ _)); refine blk_put (cs := #[.slice A108_0 ((rd_T85 l0_1 x69_3).f0).length c108_0, .slice A108_1 ((rd_T85 l0_1 x69_3).f1).length c108_1, .int .i64 0, .int .i64 0, .int .i64 0]) ?_ 2 _ rfl; (with_reducible repeat (first | refine blk_drewN ?_ _ | refine blk_drew ?_ | refine blk_alloc ?_ _)); refine blk_put (cs := #[.slice A108_0 ((rd_T85 l0_1 x69_3).f0).length c108_0, .slice none 0 0, .int .i64 0, .int .i64 0, .int .i64 0]) ?_ 1 _ rfl; (with_reducible repeat (first | refine blk_drewN ?_ _ | refine blk_drew ?_ | refine blk_alloc ?_ _)); refine blk_put (cs := #[.slice none 0 0, .slice none 0 0, .int .i64 0, .int .i64 0, .int .i64 0]) ?_ 0 _ rfl; (with_reducible repeat (first | refine blk_drewN ?_ _ | refine blk_drew ?_ | refine blk_alloc ?_ _)); exact BK109.out⟩, ⟨by repeat (first | (with_reducible first | exact HB.out | apply below_alloc | apply pw_below_drewN | apply below_drew1 | refine below_set ?_ GE101.out | refine below_set ?_ GE109.out) | exact HB.out)⟩⟩
                        case rest =>
                          clear HC56
                          try clear c1
                          try clear p1
                          try clear q1
                          try clear hx1
                          try clear c2
                          try clear p2
                          try clear c3
                          try clear c4
                          try clear c5
                          try clear c6
                          try clear p6
                          try clear c7
                          try clear c7b0
                          try clear c7b1
                          try clear c8
                          try clear c10
                          try clear p10
                          try clear q10
                          try clear hx10
                          try clear c11
                          try clear c13
                          try clear c13b0
                          try clear c14
                          try clear c14b0
                          try clear c15
                          try clear c15b0
                          try clear c17
                          try clear c19
                          try clear c20
                          try clear c20b0
                          try clear c20b1
                          try clear c21
                          try clear c21b0
                          try clear c21b1
                          try clear c22
                          try clear c22b0
                          try clear c22b1
                          try clear c22b2
                          try clear c24
                          try clear c28
                          try clear c32
                          try clear c35
                          try clear c35b0
                          try clear c35b1
                          try clear c35b2
                          try clear c37
                          try clear c41
                          try clear c44
                          try clear c45
                          try clear c49
                          try clear c53
                          try clear c53b0
                          try clear c54
                          try clear c54b0
                          try clear c55
                          try clear c55b0
                          try clear c58
                          try clear c60
                          try clear c60b0
                          try clear c60b1
                          try clear c60b2
                          try clear c61
                          try clear c64
                          try clear p64
                          try clear c65
                          try clear c65b0
                          try clear c65b1
                          try clear c65b2
                          try clear c66
                          try clear c69
                          try clear c71
                          try clear c73
                          try clear c75
                          try clear c79
                          try clear c83
                          try clear c86
                          try clear c88
                          try clear hcz10_0
                          try clear hcz10_1
                          try clear hcz10_2
                          try clear hcz12_0
                          try clear hcz12_1
                          try clear hcz12_2
                          try clear hcz25_0
                          try clear hcz25_1
                          try clear hcz25_2
                          try clear hcz26_0
                          try clear hcz26_1
                          try clear hcz26_2
                          try clear hcz29_0
                          try clear hcz29_1
                          try clear hcz29_2
                          try clear hcz30_0
                          try clear hcz30_1
                          try clear hcz30_2
                          try clear hcz33_0
                          try clear hcz33_1
                          try clear hcz33_2
                          try clear hcz34_0
                          try clear hcz34_1
                          try clear hcz34_2
                          try clear hcz38_0
                          try clear hcz38_1
                          try clear hcz38_2
                          try clear hcz39_0
                          try clear hcz39_1
                          try clear hcz39_2
                          try clear hcz42_0
                          try clear hcz42_1
                          try clear hcz42_2
                          try clear hcz43_0
                          try clear hcz43_1
                          try clear hcz43_2
                          try clear hcz46_0
                          try clear hcz46_1
                          try clear hcz46_2
                          try clear hcz47_0
                          try clear hcz47_1
                          try clear hcz47_2
                          try clear hcz4_0
                          try clear hcz4_1
                          try clear hcz4_2
                          try clear hcz50_0
                          try clear hcz50_1
                          try clear hcz50_2
                          try clear hcz51_0
                          try clear hcz51_1
                          try clear hcz51_2
                          try clear hcz52_0
                          try clear hcz52_1
                          try clear hcz52_2
                          try clear hcz59_0
                          try clear hcz59_1
                          try clear hcz59_2
                          try clear hcz59_3
                          try clear hcz59_4
                          try clear hcz62_0
                          try clear hcz62_1
                          try clear hcz62_2
                          try clear hcz62_3
                          try clear hcz62_4
                          try clear hcz67_0
                          try clear hcz67_1
                          try clear hcz67_2
                          try clear hcz67_3
                          try clear hcz67_4
                          try clear hcz76_0
                          try clear hcz76_1
                          try clear hcz76_2
                          try clear hcz76_3
                          try clear hcz76_4
                          try clear hcz78_0
                          try clear hcz78_1
                          try clear hcz78_2
                          try clear hcz78_3
                          try clear hcz78_4
                          try clear hcz80_0
                          try clear hcz80_1
                          try clear hcz80_2
                          try clear hcz80_3
                          try clear hcz80_4
                          try clear hcz82_0
                          try clear hcz82_1
                          try clear hcz82_2
                          try clear hcz82_3
                          try clear hcz82_4
                          try clear hcz84_0
                          try clear hcz84_1
                          try clear hcz84_2
                          try clear hcz84_3
                          try clear hcz84_4
                          try clear hcz87_0
                          try clear hcz87_1
                          try clear hcz87_2
                          try clear hcz87_3
                          try clear hcz87_4
                          try clear hcz89_0
                          try clear hcz89_1
                          try clear hcz89_2
                          try clear hcz89_3
                          try clear hcz89_4
                          try clear hcz8_0
                          try clear hcz8_1
                          try clear hcz8_2
                          try clear hfz10_0
                          try clear hfz10_1
                          try clear hfz10_2
                          try clear hfz12_0
                          try clear hfz12_1
                          try clear hfz12_2
                          try clear hfz25_0
                          try clear hfz25_1
                          try clear hfz25_2
                          try clear hfz26_0
                          try clear hfz26_1
                          try clear hfz26_2
                          try clear hfz29_0
                          try clear hfz29_1
                          try clear hfz29_2
                          try clear hfz30_0
                          try clear hfz30_1
                          try clear hfz30_2
                          try clear hfz33_0
                          try clear hfz33_1
                          try clear hfz33_2
                          try clear hfz34_0
                          try clear hfz34_1
                          try clear hfz34_2
                          try clear hfz38_0
                          try clear hfz38_1
                          try clear hfz38_2
                          try clear hfz39_0
                          try clear hfz39_1
                          try clear hfz39_2
                          try clear hfz42_0
                          try clear hfz42_1
                          try clear hfz42_2
                          try clear hfz43_0
                          try clear hfz43_1
                          try clear hfz43_2
                          try clear hfz46_0
                          try clear hfz46_1
                          try clear hfz46_2
                          try clear hfz47_0
                          try clear hfz47_1
                          try clear hfz47_2
                          try clear hfz4_0
                          try clear hfz4_1
                          try clear hfz4_2
                          try clear hfz50_0
                          try clear hfz50_1
                          try clear hfz50_2
                          try clear hfz51_0
                          try clear hfz51_1
                          try clear hfz51_2
                          try clear hfz52_0
                          try clear hfz52_1
                          try clear hfz52_2
                          try clear hfz59_0
                          try clear hfz59_1
                          try clear hfz59_2
                          try clear hfz59_3
                          try clear hfz59_4
                          try clear hfz62_0
                          try clear hfz62_1
                          try clear hfz62_2
                          try clear hfz62_3
                          try clear hfz62_4
                          try clear hfz67_0
                          try clear hfz67_1
                          try clear hfz67_2
                          try clear hfz67_3
                          try clear hfz67_4
                          try clear hfz76_0
                          try clear hfz76_1
                          try clear hfz76_2
                          try clear hfz76_3
                          try clear hfz76_4
                          try clear hfz78_0
                          try clear hfz78_1
                          try clear hfz78_2
                          try clear hfz78_3
                          try clear hfz78_4
                          try clear hfz80_0
                          try clear hfz80_1
                          try clear hfz80_2
                          try clear hfz80_3
                          try clear hfz80_4
                          try clear hfz82_0
                          try clear hfz82_1
                          try clear hfz82_2
                          try clear hfz82_3
                          try clear hfz82_4
                          try clear hfz84_0
                          try clear hfz84_1
                          try clear hfz84_2
                          try clear hfz84_3
                          try clear hfz84_4
                          try clear hfz87_0
                          try clear hfz87_1
                          try clear hfz87_2
                          try clear hfz87_3
                          try clear hfz87_4
                          try clear hfz89_0
                          try clear hfz89_1
                          try clear hfz89_2
                          try clear hfz89_3
                          try clear hfz89_4
                          try clear hfz8_0
                          try clear hfz8_1
                          try clear hfz8_2
                          try clear hx104_0
                          try clear hx104_1
                          try clear hx104_2
                          try clear hx108_0
                          try clear hx108_1
                          try clear hx108_2
                          try clear hx108_3
                          try clear hx108_4
                          try clear p1
                          try clear p10
                          try clear p104
                          try clear p108
                          try clear p2
                          try clear p6
                          try clear q1
                          try clear q10
                          try clear q104
                          try clear q108
                          obtain ⟨kq, x116_55, rfl, HA, HJ55, BK101, BK109, HB⟩ := hcut
                          cases kq with
                          | zero => exact absurd HA.out (by simp [impl_isControl.j3])
                          | succ kj55 =>
                            have H := HA.out
                            clear HA
                            simp only [impl_isControl.j3] at H
                            by_cases c90 : x116_55 = true
                            · subst c90
                              have H1 : (some false) = some r := by rw [if_pos rfl] at H; exact H
                              clear H
                              have H := H1
                              clear H1
                              obtain rfl := Option.some.inj H
                              go_wp2
                              go_ret
                              exact ⟨by first | rfl | (simp [errW_none, errW_some] <;> rfl) | (simp [*, errW_none, errW_some] <;> rfl), by repeat (first | (with_reducible first | exact HB.out | apply below_alloc | apply pw_below_drewN | apply below_drew1 | refine below_set ?_ GE101.out | refine below_set ?_ GE109.out) | exact HB.out)⟩
                            · replace c90 := Bool.eq_false_iff.mpr c90
                              subst c90
                              have H1 : ((impl_Control_firstLive.f kj55 l0_0 l0_1 a0_2 ((rd_T85 l0_1 x69_3).f1)).bind fun t115 => (if ((rd_T85 l0_1 x69_3).f2) = (-1) then (if t115 = (-1) then (impl_isControl.l1 kj55 (l0_0.length : Int) l0_1 (l0_1.length : Int) (wrap64 (x69_3 + 1)) l0_0 l0_1 a0_2) else (some false)) else ((slices_Contains_int_int.f kj55 ((rd_T85 l0_1 x69_3).f1) ((rd_T85 l0_1 x69_3).f2)).bind fun t116 => (if t116 = true then (if 0 ≤ ((rd_T85 l0_1 x69_3).f2) then (if ((rd_T85 l0_1 x69_3).f2) < (l0_0.length : Int) then (if (rd_T67 l0_0 ((rd_T85 l0_1 x69_3).f2)).f2 = true then (some false) else (impl_isControl.l1 kj55 (l0_0.length : Int) l0_1 (l0_1.length : Int) (wrap64 (x69_3 + 1)) l0_0 l0_1 a0_2)) else (none)) else (none)) else (some false))))) = some r := by rw [if_neg (show ¬ (false = true) by decide)] at H; exact H
                              clear H
                              have H := H1
                              clear H1
                              replace H := Option.bind_eq_some_iff.mp H
                              obtain ⟨t115, A910, H⟩ := H
                              replace H : (if ((rd_T85 l0_1 x69_3).f2) = (-1) then (if t115 = (-1) then (impl_isControl.l1 kj55 (l0_0.length : Int) l0_1 (l0_1.length : Int) (wrap64 (x69_3 + 1)) l0_0 l0_1 a0_2) else (some false)) else ((slices_Contains_int_int.f kj55 ((rd_T85 l0_1 x69_3).f1) ((rd_T85 l0_1 x69_3).f2)).bind fun t116 => (if t116 = true then (if 0 ≤ ((rd_T85 l0_1 x69_3).f2) then (if ((rd_T85 l0_1 x69_3).f2) < (l0_0.length : Int) then (if (rd_T67 l0_0 ((rd_T85 l0_1 x69_3).f2)).f2 = true then (some false) else (impl_isControl.l1 kj55 (l0_0.length : Int) l0_1 (l0_1.length : Int) (wrap64 (x69_3 + 1)) l0_0 l0_1 a0_2)) else (none)) else (none)) else (some false)))) = some r := H
                              have A91 := Aside0.mk A910
                              clear A910
                              by_cases c92 : ((rd_T85 l0_1 x69_3).f2) = (-1)
                              · rw [if_pos c92] at H
                                have c92b0 : (((rd_T85 l0_1 x69_3).f2) == (-1)) = true := beq_iff_eq.mpr c92
                                have c92b1 : (((rd_T85 l0_1 x69_3).f2) != (-1)) = false := bne_eq_false_iff_eq.mpr c92
                                clear c92
                                by_cases c93 : t115 = (-1)
                                · rw [if_pos c93] at H
                                  have c93b0 : (t115 == (-1)) = true := beq_iff_eq.mpr c93
                                  have c93b1 : (t115 != (-1)) = false := bne_eq_false_iff_eq.mpr c93
                                  clear c93
                                  have H' := Aside0.mk H
                                  clear H
                                  have hnb94 := NB101_109.out
                                  have hnc94 := NB109_101.out
                                  have hcz95_0 : wc.cell? ⟨gb101, 0, none⟩ = some (.slice A0_0 l0_0.length c0_0) := (blk_cell BK101.out 0).trans rfl
                                  have hcz95_1 : wc.cell? ⟨gb101, 1, none⟩ = some (.slice (some ad108) l0_1.length c0_1) := (blk_cell BK101.out 1).trans rfl
                                  have hcz95_2 : wc.cell? ⟨gb101, 2, none⟩ = some (.int .i64 a0_2) := (blk_cell BK101.out 2).trans rfl
                                  have hfz95_0 := blk_frozen BK101.out 0
                                  have hfz95_1 := blk_frozen BK101.out 1
                                  have hfz95_2 := blk_frozen BK101.out 2
                                  have hcz96_0 : wc.cell? ⟨gb109, 0, none⟩ = some (.slice A108_0 ((rd_T85 l0_1 x69_3).f0).length c108_0) := (blk_cell BK109.out 0).trans rfl
                                  have hcz96_1 : wc.cell? ⟨gb109, 1, none⟩ = some (.slice A108_1 ((rd_T85 l0_1 x69_3).f1).length c108_1) := (blk_cell BK109.out 1).trans rfl
                                  have hcz96_2 : wc.cell? ⟨gb109, 2, none⟩ = some (.int .i64 ((rd_T85 l0_1 x69_3).f2)) := (blk_cell BK109.out 2).trans rfl
                                  have hcz96_3 : wc.cell? ⟨gb109, 3, none⟩ = some (.int .i64 ((rd_T85 l0_1 x69_3).f3)) := (blk_cell BK109.out 3).trans rfl
                                  have hcz96_4 : wc.cell? ⟨gb109, 4, none⟩ = some (.int .i64 ((rd_T85 l0_1 x69_3).f4)) := (blk_cell BK109.out 4).trans rfl
                                  have hfz96_0 := blk_frozen BK109.out 0
                                  have hfz96_1 := blk_frozen BK109.out 1
                                  have hfz96_2 := blk_frozen BK109.out 2
                                  have hfz96_3 := blk_frozen BK109.out 3
                                  have hfz96_4 := blk_frozen BK109.out 4
                                  go_wp2_with (first | ((with_reducible refine gate_callee (f := 94) rfl ?_); refine goesL_ (some 120) rfl rfl Try.func94 (by kernel_rfl) rfl #[.agg #[.slice A0_0 l0_0.length c0_0, .slice (some ad108) l0_1.length c0_1, .int .i64 a0_2], .slice A108_1 ((rd_T85 l0_1 x69_3).f1).length c108_1] rfl (by (try simp only [List.map_toArray, List.map_cons, List.map_nil]); first | done | rfl | (simp only [List.length_drop, List.length_take]; rfl)) ?_; (with_reducible refine (impl_Control_firstLive.calls kj55 _ _ l0_0 _ _ l0_1 a0_2 _ _ ((rd_T85 l0_1 x69_3).f1) t115 _ ?side1 ?side2 ?side3 ?side4 ?side5 ?side6 A91.out).mono ?_); (case side1 => repeat (first | exact (Kd.C_below HR0_0.out HB.out) | (with_reducible refine Kd.C_alloc ?_ _) | (with_reducible refine Kd.C_drewN ?_ _) | (with_reducible refine Kd.C_drew ?_))); (case side2 => exact HC0_0.out); (case side3 => repeat (first | exact (Kd.C_below HR0_1.out HB.out) | (with_reducible refine Kd.C_alloc ?_ _) | (with_reducible refine Kd.C_drewN ?_ _) | (with_reducible refine Kd.C_drew ?_))); (case side4 => exact HC0_1.out); (case side5 => repeat (first | exact (Kd.C_below HR108_1.out HB.out) | (with_reducible refine Kd.C_alloc ?_ _) | (with_reducible refine Kd.C_drewN ?_ _) | (with_reducible refine Kd.C_drew ?_))); (case side6 => exact HC108_1.out); rintro e w97 ⟨rfl, hb⟩; refine ⟨_, rfl, ?_⟩; have n0_ := Aside0.mk (blk_below (g := gb101) (o := .cells #[.slice A0_0 l0_0.length c0_0, .slice (some ad108) l0_1.length c0_1, .int .i64 a0_2] 25 (0, 0)) (by (with_reducible repeat (first | refine blk_drewN ?_ _ | refine blk_drew ?_ | refine blk_alloc ?_ _)); exact BK101.out) hb); have n1_ := Aside0.mk (blk_below (g := gb109) (o := .cells #[.slice A108_0 ((rd_T85 l0_1 x69_3).f0).length c108_0, .slice A108_1 ((rd_T85 l0_1 x69_3).f1).length c108_1, .int .i64 ((rd_T85 l0_1 x69_3).f2), .int .i64 ((rd_T85 l0_1 x69_3).f3), .int .i64 ((rd_T85 l0_1 x69_3).f4)] 85 (0, 0)) (by (with_reducible repeat (first | refine blk_drewN ?_ _ | refine blk_drew ?_ | refine blk_alloc ?_ _)); exact BK109.out) hb); have n2_ := Aside0.mk (below_step (by repeat (first | (with_reducible first | exact HB.out | apply below_alloc | apply pw_below_drewN | apply below_drew1 | refine below_set ?_ GE101.out | refine below_set ?_ GE109.out) | exact HB.out)) hb); clear BK101; clear BK109; clear HB; have BK101 := n0_; have BK109 := n1_; have HB := n2_; clear n0_ n1_ n2_; (try clear hb); (try clear hb2); (try clear hk); (try clear hi); have hcz98_0 : w97.cell? ⟨gb109, 0, none⟩ = some (.slice A108_0 ((rd_T85 l0_1 x69_3).f0).length c108_0) := (blk_cell BK109.out 0).trans rfl; have hcz98_1 : w97.cell? ⟨gb109, 1, none⟩ = some (.slice A108_1 ((rd_T85 l0_1 x69_3).f1).length c108_1) := (blk_cell BK109.out 1).trans rfl; have hcz98_2 : w97.cell? ⟨gb109, 2, none⟩ = some (.int .i64 ((rd_T85 l0_1 x69_3).f2)) := (blk_cell BK109.out 2).trans rfl; have hcz98_3 : w97.cell? ⟨gb109, 3, none⟩ = some (.int .i64 ((rd_T85 l0_1 x69_3).f3)) := (blk_cell BK109.out 3).trans rfl; have hcz98_4 : w97.cell? ⟨gb109, 4, none⟩ = some (.int .i64 ((rd_T85 l0_1 x69_3).f4)) := (blk_cell BK109.out 4).trans rfl; have hfz98_0 := blk_frozen BK109.out 0; have hfz98_1 := blk_frozen BK109.out 1; have hfz98_2 := blk_frozen BK109.out 2; have hfz98_3 := blk_frozen BK109.out 3; have hfz98_4 := blk_frozen BK109.out 4))
                                  go_roundg kj55
                                  case measure => have := HJ1.out; have := HK2.out; have := HK3.out; have := HJ55.out; omega
                                  case rel => exact ⟨(wrap64 (x69_3 + 1)), (by first | rfl | (simp; done) | (simp [*]; done)), H', ⟨by have := HJ1.out; have := HK2.out; have := HK3.out; have := HJ55.out; omega⟩, ⟨by (with_reducible repeat (first | refine blk_drewN ?_ _ | refine blk_drew ?_ | refine blk_alloc ?_ _)); exact BK101.out⟩, ⟨by repeat (first | (with_reducible first | exact HB.out | apply below_alloc | apply pw_below_drewN | apply below_drew1 | refine below_set ?_ GE101.out | refine below_set ?_ GE109.out) | exact HB.out)⟩⟩
                                · rw [if_neg c93] at H
                                  have c93b0 : (t115 == (-1)) = false := beq_eq_false_iff_ne.mpr c93
                                  have c93b1 : (t115 != (-1)) = true := bne_iff_ne.mpr c93
                                  obtain rfl := Option.some.inj H
                                  have hnb99 := NB101_109.out
                                  have hnc99 := NB109_101.out
                                  have hcz100_0 : wc.cell? ⟨gb101, 0, none⟩ = some (.slice A0_0 l0_0.length c0_0) := (blk_cell BK101.out 0).trans rfl
                                  have hcz100_1 : wc.cell? ⟨gb101, 1, none⟩ = some (.slice (some ad108) l0_1.length c0_1) := (blk_cell BK101.out 1).trans rfl
                                  have hcz100_2 : wc.cell? ⟨gb101, 2, none⟩ = some (.int .i64 a0_2) := (blk_cell BK101.out 2).trans rfl
                                  have hfz100_0 := blk_frozen BK101.out 0
                                  have hfz100_1 := blk_frozen BK101.out 1
                                  have hfz100_2 := blk_frozen BK101.out 2
                                  have hcz101_0 : wc.cell? ⟨gb109, 0, none⟩ = some (.slice A108_0 ((rd_T85 l0_1 x69_3).f0).length c108_0) := (blk_cell BK109.out 0).trans rfl
                                  have hcz101_1 : wc.cell? ⟨gb109, 1, none⟩ = some (.slice A108_1 ((rd_T85 l0_1 x69_3).f1).length c108_1) := (blk_cell BK109.out 1).trans rfl
                                  have hcz101_2 : wc.cell? ⟨gb109, 2, none⟩ = some (.int .i64 ((rd_T85 l0_1 x69_3).f2)) := (blk_cell BK109.out 2).trans rfl
                                  have hcz101_3 : wc.cell? ⟨gb109, 3, none⟩ = some (.int .i64 ((rd_T85 l0_1 x69_3).f3)) := (blk_cell BK109.out 3).trans rfl
                                  have hcz101_4 : wc.cell? ⟨gb109, 4, none⟩ = some (.int .i64 ((rd_T85 l0_1 x69_3).f4)) := (blk_cell BK109.out 4).trans rfl
                                  have hfz101_0 := blk_frozen BK109.out 0
                                  have hfz101_1 := blk_frozen BK109.out 1
                                  have hfz101_2 := blk_frozen BK109.out 2
                                  have hfz101_3 := blk_frozen BK109.out 3
                                  have hfz101_4 := blk_frozen BK109.out 4
                                  go_wp2_with (first | ((with_reducible refine gate_callee (f := 94) rfl ?_); refine goesL_ (some 120) rfl rfl Try.func94 (by kernel_rfl) rfl #[.agg #[.slice A0_0 l0_0.length c0_0, .slice (some ad108) l0_1.length c0_1, .int .i64 a0_2], .slice A108_1 ((rd_T85 l0_1 x69_3).f1).length c108_1] rfl (by (try simp only [List.map_toArray, List.map_cons, List.map_nil]); first | done | rfl | (simp only [List.length_drop, List.length_take]; rfl)) ?_; (with_reducible refine (impl_Control_firstLive.calls kj55 _ _ l0_0 _ _ l0_1 a0_2 _ _ ((rd_T85 l0_1 x69_3).f1) t115 _ ?side1 ?side2 ?side3 ?side4 ?side5 ?side6 A91.out).mono ?_); (case side1 => repeat (first | exact (Kd.C_below HR0_0.out HB.out) | (with_reducible refine Kd.C_alloc ?_ _) | (with_reducible refine Kd.C_drewN ?_ _) | (with_reducible refine Kd.C_drew ?_))); (case side2 => exact HC0_0.out); (case side3 => repeat (first | exact (Kd.C_below HR0_1.out HB.out) | (with_reducible refine Kd.C_alloc ?_ _) | (with_reducible refine Kd.C_drewN ?_ _) | (with_reducible refine Kd.C_drew ?_))); (case side4 => exact HC0_1.out); (case side5 => repeat (first | exact (Kd.C_below HR108_1.out HB.out) | (with_reducible refine Kd.C_alloc ?_ _) | (with_reducible refine Kd.C_drewN ?_ _) | (with_reducible refine Kd.C_drew ?_))); (case side6 => exact HC108_1.out); rintro e w102 ⟨rfl, hb⟩; refine ⟨_, rfl, ?_⟩; have n0_ := Aside0.mk (blk_below (g := gb101) (o := .cells #[.slice A0_0 l0_0.length c0_0, .slice (some ad108) l0_1.length c0_1, .int .i64 a0_2] 25 (0, 0)) (by (with_reducible repeat (first | refine blk_drewN ?_ _ | refine blk_drew ?_ | refine blk_alloc ?_ _)); exact BK101.out) hb); have n1_ := Aside0.mk (blk_below (g := gb109) (o := .cells #[.slice A108_0 ((rd_T85 l0_1 x69_3).f0).length c108_0, .slice A108_1 ((rd_T85 l0_1 x69_3).f1).length c108_1, .int .i64 ((rd_T85 l0_1 x69_3).f2), .int .i64 ((rd_T85 l0_1 x69_3).f3), .int .i64 ((rd_T85 l0_1 x69_3).f4)] 85 (0, 0)) (by (with_reducible repeat (first | refine blk_drewN ?_ _ | refine blk_drew ?_ | refine blk_alloc ?_ _)); exact BK109.out) hb); have n2_ := Aside0.mk (below_step (by repeat (first | (with_reducible first | exact HB.out | apply below_alloc | apply pw_below_drewN | apply below_drew1 | refine below_set ?_ GE101.out | refine below_set ?_ GE109.out) | exact HB.out)) hb); clear BK101; clear BK109; clear HB; have BK101 := n0_; have BK109 := n1_; have HB := n2_; clear n0_ n1_ n2_; (try clear hb); (try clear hb2); (try clear hk); (try clear hi); have hcz103_0 : w102.cell? ⟨gb109, 0, none⟩ = some (.slice A108_0 ((rd_T85 l0_1 x69_3).f0).length c108_0) := (blk_cell BK109.out 0).trans rfl; have hcz103_1 : w102.cell? ⟨gb109, 1, none⟩ = some (.slice A108_1 ((rd_T85 l0_1 x69_3).f1).length c108_1) := (blk_cell BK109.out 1).trans rfl; have hcz103_2 : w102.cell? ⟨gb109, 2, none⟩ = some (.int .i64 ((rd_T85 l0_1 x69_3).f2)) := (blk_cell BK109.out 2).trans rfl; have hcz103_3 : w102.cell? ⟨gb109, 3, none⟩ = some (.int .i64 ((rd_T85 l0_1 x69_3).f3)) := (blk_cell BK109.out 3).trans rfl; have hcz103_4 : w102.cell? ⟨gb109, 4, none⟩ = some (.int .i64 ((rd_T85 l0_1 x69_3).f4)) := (blk_cell BK109.out 4).trans rfl; have hfz103_0 := blk_frozen BK109.out 0; have hfz103_1 := blk_frozen BK109.out 1; have hfz103_2 := blk_frozen BK109.out 2; have hfz103_3 := blk_frozen BK109.out 3; have hfz103_4 := blk_frozen BK109.out 4))
                                  go_ret
                                  exact ⟨by first | rfl | (simp [errW_none, errW_some] <;> rfl) | (simp [*, errW_none, errW_some] <;> rfl), by repeat (first | (with_reducible first | exact HB.out | apply below_alloc | apply pw_below_drewN | apply below_drew1 | refine below_set ?_ GE101.out | refine below_set ?_ GE109.out) | exact HB.out)⟩
                              · rw [if_neg c92] at H
                                have c92b0 : (((rd_T85 l0_1 x69_3).f2) == (-1)) = false := beq_eq_false_iff_ne.mpr c92
                                have c92b1 : (((rd_T85 l0_1 x69_3).f2) != (-1)) = true := bne_iff_ne.mpr c92
                                replace H := Option.bind_eq_some_iff.mp H
                                obtain ⟨t116, A1040, H⟩ := H
                                replace H : (if t116 = true then (if 0 ≤ ((rd_T85 l0_1 x69_3).f2) then (if ((rd_T85 l0_1 x69_3).f2) < (l0_0.length : Int) then (if (rd_T67 l0_0 ((rd_T85 l0_1 x69_3).f2)).f2 = true then (some false) else (impl_isControl.l1 kj55 (l0_0.length : Int) l0_1 (l0_1.length : Int) (wrap64 (x69_3 + 1)) l0_0 l0_1 a0_2)) else (none)) else (none)) else (some false)) = some r := H
                                have A104 := Aside0.mk A1040
                                clear A1040
                                by_cases c105 : t116 = true
                                · subst c105
                                  have H1 : (if 0 ≤ ((rd_T85 l0_1 x69_3).f2) then (if ((rd_T85 l0_1 x69_3).f2) < (l0_0.length : Int) then (if (rd_T67 l0_0 ((rd_T85 l0_1 x69_3).f2)).f2 = true then (some false) else (impl_isControl.l1 kj55 (l0_0.length : Int) l0_1 (l0_1.length : Int) (wrap64 (x69_3 + 1)) l0_0 l0_1 a0_2)) else (none)) else (none)) = some r := by rw [if_pos rfl] at H; exact H
                                  clear H
                                  have H := H1
                                  clear H1
                                  by_cases c106 : 0 ≤ ((rd_T85 l0_1 x69_3).f2)
                                  · rw [if_pos c106] at H
                                    have c106b0 : decide (0 ≤ ((rd_T85 l0_1 x69_3).f2)) = true := decide_eq_true c106
                                    clear c106
                                    by_cases c107 : ((rd_T85 l0_1 x69_3).f2) < (l0_0.length : Int)
                                    · rw [if_pos c107] at H
                                      have c107b0 : decide (((rd_T85 l0_1 x69_3).f2) < (l0_0.length : Int)) = true := decide_eq_true c107
                                      clear c107
                                      obtain ⟨bq108, hbq108⟩ : ∃ b_ : Bool, b_ = ((rd_T67 l0_0 ((rd_T85 l0_1 x69_3).f2)).f2) := ⟨_, rfl⟩
                                      replace H : (if bq108 = true then (some false) else (impl_isControl.l1 kj55 (l0_0.length : Int) l0_1 (l0_1.length : Int) (wrap64 (x69_3 + 1)) l0_0 l0_1 a0_2)) = some r := by rw [← hbq108] at H; exact H
                                      have Nbq108 := Aside0.mk hbq108
                                      clear hbq108
                                      by_cases c109 : bq108 = true
                                      · subst c109
                                        have H1 : (some false) = some r := by rw [if_pos rfl] at H; exact H
                                        clear H
                                        have H := H1
                                        clear H1
                                        obtain rfl := Option.some.inj H
                                        have hnb110 := NB101_109.out
                                        have hnc110 := NB109_101.out
                                        have hcz111_0 : wc.cell? ⟨gb101, 0, none⟩ = some (.slice A0_0 l0_0.length c0_0) := (blk_cell BK101.out 0).trans rfl
                                        have hcz111_1 : wc.cell? ⟨gb101, 1, none⟩ = some (.slice (some ad108) l0_1.length c0_1) := (blk_cell BK101.out 1).trans rfl
                                        have hcz111_2 : wc.cell? ⟨gb101, 2, none⟩ = some (.int .i64 a0_2) := (blk_cell BK101.out 2).trans rfl
                                        have hfz111_0 := blk_frozen BK101.out 0
                                        have hfz111_1 := blk_frozen BK101.out 1
                                        have hfz111_2 := blk_frozen BK101.out 2
                                        have hcz112_0 : wc.cell? ⟨gb109, 0, none⟩ = some (.slice A108_0 ((rd_T85 l0_1 x69_3).f0).length c108_0) := (blk_cell BK109.out 0).trans rfl
                                        have hcz112_1 : wc.cell? ⟨gb109, 1, none⟩ = some (.slice A108_1 ((rd_T85 l0_1 x69_3).f1).length c108_1) := (blk_cell BK109.out 1).trans rfl
                                        have hcz112_2 : wc.cell? ⟨gb109, 2, none⟩ = some (.int .i64 ((rd_T85 l0_1 x69_3).f2)) := (blk_cell BK109.out 2).trans rfl
                                        have hcz112_3 : wc.cell? ⟨gb109, 3, none⟩ = some (.int .i64 ((rd_T85 l0_1 x69_3).f3)) := (blk_cell BK109.out 3).trans rfl
                                        have hcz112_4 : wc.cell? ⟨gb109, 4, none⟩ = some (.int .i64 ((rd_T85 l0_1 x69_3).f4)) := (blk_cell BK109.out 4).trans rfl
                                        have hfz112_0 := blk_frozen BK109.out 0
                                        have hfz112_1 := blk_frozen BK109.out 1
                                        have hfz112_2 := blk_frozen BK109.out 2
                                        have hfz112_3 := blk_frozen BK109.out 3
                                        have hfz112_4 := blk_frozen BK109.out 4
                                        go_wp2_with (first | ((with_reducible refine gate_callee (f := 94) rfl ?_); refine goesL_ (some 120) rfl rfl Try.func94 (by kernel_rfl) rfl #[.agg #[.slice A0_0 l0_0.length c0_0, .slice (some ad108) l0_1.length c0_1, .int .i64 a0_2], .slice A108_1 ((rd_T85 l0_1 x69_3).f1).length c108_1] rfl (by (try simp only [List.map_toArray, List.map_cons, List.map_nil]); first | done | rfl | (simp only [List.length_drop, List.length_take]; rfl)) ?_; (with_reducible refine (impl_Control_firstLive.calls kj55 _ _ l0_0 _ _ l0_1 a0_2 _ _ ((rd_T85 l0_1 x69_3).f1) t115 _ ?side1 ?side2 ?side3 ?side4 ?side5 ?side6 A91.out).mono ?_); (case side1 => repeat (first | exact (Kd.C_below HR0_0.out HB.out) | (with_reducible refine Kd.C_alloc ?_ _) | (with_reducible refine Kd.C_drewN ?_ _) | (with_reducible refine Kd.C_drew ?_))); (case side2 => exact HC0_0.out); (case side3 => repeat (first | exact (Kd.C_below HR0_1.out HB.out) | (with_reducible refine Kd.C_alloc ?_ _) | (with_reducible refine Kd.C_drewN ?_ _) | (with_reducible refine Kd.C_drew ?_))); (case side4 => exact HC0_1.out); (case side5 => repeat (first | exact (Kd.C_below HR108_1.out HB.out) | (with_reducible refine Kd.C_alloc ?_ _) | (with_reducible refine Kd.C_drewN ?_ _) | (with_reducible refine Kd.C_drew ?_))); (case side6 => exact HC108_1.out); rintro e w113 ⟨rfl, hb⟩; refine ⟨_, rfl, ?_⟩; have n0_ := Aside0.mk (blk_below (g := gb101) (o := .cells #[.slice A0_0 l0_0.length c0_0, .slice (some ad108) l0_1.length c0_1, .int .i64 a0_2] 25 (0, 0)) (by (with_reducible repeat (first | refine blk_drewN ?_ _ | refine blk_drew ?_ | refine blk_alloc ?_ _)); exact BK101.out) hb); have n1_ := Aside0.mk (blk_below (g := gb109) (o := .cells #[.slice A108_0 ((rd_T85 l0_1 x69_3).f0).length c108_0, .slice A108_1 ((rd_T85 l0_1 x69_3).f1).length c108_1, .int .i64 ((rd_T85 l0_1 x69_3).f2), .int .i64 ((rd_T85 l0_1 x69_3).f3), .int .i64 ((rd_T85 l0_1 x69_3).f4)] 85 (0, 0)) (by (with_reducible repeat (first | refine blk_drewN ?_ _ | refine blk_drew ?_ | refine blk_alloc ?_ _)); exact BK109.out) hb); have n2_ := Aside0.mk (below_step (by repeat (first | (with_reducible first | exact HB.out | apply below_alloc | apply pw_below_drewN | apply below_drew1 | refine below_set ?_ GE101.out | refine below_set ?_ GE109.out) | exact HB.out)) hb); clear BK101; clear BK109; clear HB; have BK101 := n0_; have BK109 := n1_; have HB := n2_; clear n0_ n1_ n2_; (try clear hb); (try clear hb2); (try clear hk); (try clear hi); have hcz114_0 : w113.cell? ⟨gb109, 0, none⟩ = some (.slice A108_0 ((rd_T85 l0_1 x69_3).f0).length c108_0) := (blk_cell BK109.out 0).trans rfl; have hcz114_1 : w113.cell? ⟨gb109, 1, none⟩ = some (.slice A108_1 ((rd_T85 l0_1 x69_3).f1).length c108_1) := (blk_cell BK109.out 1).trans rfl; have hcz114_2 : w113.cell? ⟨gb109, 2, none⟩ = some (.int .i64 ((rd_T85 l0_1 x69_3).f2)) := (blk_cell BK109.out 2).trans rfl; have hcz114_3 : w113.cell? ⟨gb109, 3, none⟩ = some (.int .i64 ((rd_T85 l0_1 x69_3).f3)) := (blk_cell BK109.out 3).trans rfl; have hcz114_4 : w113.cell? ⟨gb109, 4, none⟩ = some (.int .i64 ((rd_T85 l0_1 x69_3).f4)) := (blk_cell BK109.out 4).trans rfl; have hfz114_0 := blk_frozen BK109.out 0; have hfz114_1 := blk_frozen BK109.out 1; have hfz114_2 := blk_frozen BK109.out 2; have hfz114_3 := blk_frozen BK109.out 3; have hfz114_4 := blk_frozen BK109.out 4) | (go_at_call 95; (with_reducible refine (slices_Contains_int_int.calls kj55 _ _ ((rd_T85 l0_1 x69_3).f1) ((rd_T85 l0_1 x69_3).f2) true _ ?side1 ?side2 A104.out).mono ?_); (case side1 => repeat (first | exact (Kd.C_below HR108_1.out HB.out) | (with_reducible refine Kd.C_alloc ?_ _) | (with_reducible refine Kd.C_drewN ?_ _) | (with_reducible refine Kd.C_drew ?_))); (case side2 => exact HC108_1.out); rintro e w' ⟨rfl, ⟨nd, rfl⟩⟩; have hcz115_0 : w113.cell? ⟨gb101, 0, none⟩ = some (.slice A0_0 l0_0.length c0_0) := (blk_cell BK101.out 0).trans rfl; have hcz115_1 : w113.cell? ⟨gb101, 1, none⟩ = some (.slice (some ad108) l0_1.length c0_1) := (blk_cell BK101.out 1).trans rfl; have hcz115_2 : w113.cell? ⟨gb101, 2, none⟩ = some (.int .i64 a0_2) := (blk_cell BK101.out 2).trans rfl; have hfz115_0 := blk_frozen BK101.out 0; have hfz115_1 := blk_frozen BK101.out 1; have hfz115_2 := blk_frozen BK101.out 2; have p117 : 0 ≤ (((rd_T85 l0_1 x69_3).f2) : Int) := of_decide_eq_true (by first | (with_reducible assumption) | assumption); have q117 : ((rd_T85 l0_1 x69_3).f2) < (l0_0.length : Int) := of_decide_eq_true (by first | (with_reducible assumption) | assumption); obtain ⟨ad117, e117, hx117_0, hx117_1, hx117_2⟩ := at_T67 HR0_0.out ((rd_T85 l0_1 x69_3).f2) p117 q117; (try rw [← Nbq108.out] at hx117_2); cases e117; replace hx117_0 := (HB.out.cell (World.block_lt_of_cell? w _ hx117_0)).trans hx117_0; replace hx117_1 := (HB.out.cell (World.block_lt_of_cell? w _ hx117_1)).trans hx117_1; replace hx117_2 := (HB.out.cell (World.block_lt_of_cell? w _ hx117_2)).trans hx117_2; replace p117 := eq_true p117; replace q117 := eq_true q117))
                                        go_ret
                                        exact ⟨by first | rfl | (simp [errW_none, errW_some] <;> rfl) | (simp [*, errW_none, errW_some] <;> rfl), by repeat (first | (with_reducible first | exact HB.out | apply below_alloc | apply pw_below_drewN | apply below_drew1 | refine below_set ?_ GE101.out | refine below_set ?_ GE109.out) | exact HB.out)⟩
                                      · replace c109 := Bool.eq_false_iff.mpr c109
                                        subst c109
                                        have H1 : (impl_isControl.l1 kj55 (l0_0.length : Int) l0_1 (l0_1.length : Int) (wrap64 (x69_3 + 1)) l0_0 l0_1 a0_2) = some r := by rw [if_neg (show ¬ (false = true) by decide)] at H; exact H
                                        clear H
                                        have H := H1
                                        clear H1
                                        have H' := Aside0.mk H
                                        clear H
                                        have hnb116 := NB101_109.out
                                        have hnc116 := NB109_101.out
                                        have hcz117_0 : wc.cell? ⟨gb101, 0, none⟩ = some (.slice A0_0 l0_0.length c0_0) := (blk_cell BK101.out 0).trans rfl
                                        have hcz117_1 : wc.cell? ⟨gb101, 1, none⟩ = some (.slice (some ad108) l0_1.length c0_1) := (blk_cell BK101.out 1).trans rfl
                                        have hcz117_2 : wc.cell? ⟨gb101, 2, none⟩ = some (.int .i64 a0_2) := (blk_cell BK101.out 2).trans rfl
                                        have hfz117_0 := blk_frozen BK101.out 0
                                        have hfz117_1 := blk_frozen BK101.out 1
                                        have hfz117_2 := blk_frozen BK101.out 2
                                        have hcz118_0 : wc.cell? ⟨gb109, 0, none⟩ = some (.slice A108_0 ((rd_T85 l0_1 x69_3).f0).length c108_0) := (blk_cell BK109.out 0).trans rfl
                                        have hcz118_1 : wc.cell? ⟨gb109, 1, none⟩ = some (.slice A108_1 ((rd_T85 l0_1 x69_3).f1).length c108_1) := (blk_cell BK109.out 1).trans rfl
                                        have hcz118_2 : wc.cell? ⟨gb109, 2, none⟩ = some (.int .i64 ((rd_T85 l0_1 x69_3).f2)) := (blk_cell BK109.out 2).trans rfl
                                        have hcz118_3 : wc.cell? ⟨gb109, 3, none⟩ = some (.int .i64 ((rd_T85 l0_1 x69_3).f3)) := (blk_cell BK109.out 3).trans rfl
                                        have hcz118_4 : wc.cell? ⟨gb109, 4, none⟩ = some (.int .i64 ((rd_T85 l0_1 x69_3).f4)) := (blk_cell BK109.out 4).trans rfl
                                        have hfz118_0 := blk_frozen BK109.out 0
                                        have hfz118_1 := blk_frozen BK109.out 1
                                        have hfz118_2 := blk_frozen BK109.out 2
                                        have hfz118_3 := blk_frozen BK109.out 3
                                        have hfz118_4 := blk_frozen BK109.out 4
                                        go_wp2_with (first | ((with_reducible refine gate_callee (f := 94) rfl ?_); refine goesL_ (some 120) rfl rfl Try.func94 (by kernel_rfl) rfl #[.agg #[.slice A0_0 l0_0.length c0_0, .slice (some ad108) l0_1.length c0_1, .int .i64 a0_2], .slice A108_1 ((rd_T85 l0_1 x69_3).f1).length c108_1] rfl (by (try simp only [List.map_toArray, List.map_cons, List.map_nil]); first | done | rfl | (simp only [List.length_drop, List.length_take]; rfl)) ?_; (with_reducible refine (impl_Control_firstLive.calls kj55 _ _ l0_0 _ _ l0_1 a0_2 _ _ ((rd_T85 l0_1 x69_3).f1) t115 _ ?side1 ?side2 ?side3 ?side4 ?side5 ?side6 A91.out).mono ?_); (case side1 => repeat (first | exact (Kd.C_below HR0_0.out HB.out) | (with_reducible refine Kd.C_alloc ?_ _) | (with_reducible refine Kd.C_drewN ?_ _) | (with_reducible refine Kd.C_drew ?_))); (case side2 => exact HC0_0.out); (case side3 => repeat (first | exact (Kd.C_below HR0_1.out HB.out) | (with_reducible refine Kd.C_alloc ?_ _) | (with_reducible refine Kd.C_drewN ?_ _) | (with_reducible refine Kd.C_drew ?_))); (case side4 => exact HC0_1.out); (case side5 => repeat (first | exact (Kd.C_below HR108_1.out HB.out) | (with_reducible refine Kd.C_alloc ?_ _) | (with_reducible refine Kd.C_drewN ?_ _) | (with_reducible refine Kd.C_drew ?_))); (case side6 => exact HC108_1.out); rintro e w119 ⟨rfl, hb⟩; refine ⟨_, rfl, ?_⟩; have n0_ := Aside0.mk (blk_below (g := gb101) (o := .cells #[.slice A0_0 l0_0.length c0_0, .slice (some ad108) l0_1.length c0_1, .int .i64 a0_2] 25 (0, 0)) (by (with_reducible repeat (first | refine blk_drewN ?_ _ | refine blk_drew ?_ | refine blk_alloc ?_ _)); exact BK101.out) hb); have n1_ := Aside0.mk (blk_below (g := gb109) (o := .cells #[.slice A108_0 ((rd_T85 l0_1 x69_3).f0).length c108_0, .slice A108_1 ((rd_T85 l0_1 x69_3).f1).length c108_1, .int .i64 ((rd_T85 l0_1 x69_3).f2), .int .i64 ((rd_T85 l0_1 x69_3).f3), .int .i64 ((rd_T85 l0_1 x69_3).f4)] 85 (0, 0)) (by (with_reducible repeat (first | refine blk_drewN ?_ _ | refine blk_drew ?_ | refine blk_alloc ?_ _)); exact BK109.out) hb); have n2_ := Aside0.mk (below_step (by repeat (first | (with_reducible first | exact HB.out | apply below_alloc | apply pw_below_drewN | apply below_drew1 | refine below_set ?_ GE101.out | refine below_set ?_ GE109.out) | exact HB.out)) hb); clear BK101; clear BK109; clear HB; have BK101 := n0_; have BK109 := n1_; have HB := n2_; clear n0_ n1_ n2_; (try clear hb); (try clear hb2); (try clear hk); (try clear hi); have hcz120_0 : w119.cell? ⟨gb109, 0, none⟩ = some (.slice A108_0 ((rd_T85 l0_1 x69_3).f0).length c108_0) := (blk_cell BK109.out 0).trans rfl; have hcz120_1 : w119.cell? ⟨gb109, 1, none⟩ = some (.slice A108_1 ((rd_T85 l0_1 x69_3).f1).length c108_1) := (blk_cell BK109.out 1).trans rfl; have hcz120_2 : w119.cell? ⟨gb109, 2, none⟩ = some (.int .i64 ((rd_T85 l0_1 x69_3).f2)) := (blk_cell BK109.out 2).trans rfl; have hcz120_3 : w119.cell? ⟨gb109, 3, none⟩ = some (.int .i64 ((rd_T85 l0_1 x69_3).f3)) := (blk_cell BK109.out 3).trans rfl; have hcz120_4 : w119.cell? ⟨gb109, 4, none⟩ = some (.int .i64 ((rd_T85 l0_1 x69_3).f4)) := (blk_cell BK109.out 4).trans rfl; have hfz120_0 := blk_frozen BK109.out 0; have hfz120_1 := blk_frozen BK109.out 1; have hfz120_2 := blk_frozen BK109.out 2; have hfz120_3 := blk_frozen BK109.out 3; have hfz120_4 := blk_frozen BK109.out 4) | (go_at_call 95; (with_reducible refine (slices_Contains_int_int.calls kj55 _ _ ((rd_T85 l0_1 x69_3).f1) ((rd_T85 l0_1 x69_3).f2) true _ ?side1 ?side2 A104.out).mono ?_); (case side1 => repeat (first | exact (Kd.C_below HR108_1.out HB.out) | (with_reducible refine Kd.C_alloc ?_ _) | (with_reducible refine Kd.C_drewN ?_ _) | (with_reducible refine Kd.C_drew ?_))); (case side2 => exact HC108_1.out); rintro e w' ⟨rfl, ⟨nd, rfl⟩⟩; have hcz121_0 : w119.cell? ⟨gb101, 0, none⟩ = some (.slice A0_0 l0_0.length c0_0) := (blk_cell BK101.out 0).trans rfl; have hcz121_1 : w119.cell? ⟨gb101, 1, none⟩ = some (.slice (some ad108) l0_1.length c0_1) := (blk_cell BK101.out 1).trans rfl; have hcz121_2 : w119.cell? ⟨gb101, 2, none⟩ = some (.int .i64 a0_2) := (blk_cell BK101.out 2).trans rfl; have hfz121_0 := blk_frozen BK101.out 0; have hfz121_1 := blk_frozen BK101.out 1; have hfz121_2 := blk_frozen BK101.out 2; have p117 : 0 ≤ (((rd_T85 l0_1 x69_3).f2) : Int) := of_decide_eq_true (by first | (with_reducible assumption) | assumption); have q117 : ((rd_T85 l0_1 x69_3).f2) < (l0_0.length : Int) := of_decide_eq_true (by first | (with_reducible assumption) | assumption); obtain ⟨ad117, e117, hx117_0, hx117_1, hx117_2⟩ := at_T67 HR0_0.out ((rd_T85 l0_1 x69_3).f2) p117 q117; (try rw [← Nbq108.out] at hx117_2); cases e117; replace hx117_0 := (HB.out.cell (World.block_lt_of_cell? w _ hx117_0)).trans hx117_0; replace hx117_1 := (HB.out.cell (World.block_lt_of_cell? w _ hx117_1)).trans hx117_1; replace hx117_2 := (HB.out.cell (World.block_lt_of_cell? w _ hx117_2)).trans hx117_2; replace p117 := eq_true p117; replace q117 := eq_true q117))
                                        go_roundg kj55
                                        case measure => have := HJ1.out; have := HK2.out; have := HK3.out; have := HJ55.out; omega
                                        case rel => (try simp only [← Nbq108.out]); exact ⟨(wrap64 (x69_3 + 1)), (by first | rfl | (simp; done) | (simp [*]; done)), H', ⟨by have := HJ1.out; have := HK2.out; have := HK3.out; have := HJ55.out; omega⟩, ⟨by (with_reducible repeat (first | refine blk_drewN ?_ _ | refine blk_drew ?_ | refine blk_alloc ?_ _)); exact BK101.out⟩, ⟨by repeat (first | (with_reducible first | exact HB.out | apply below_alloc | apply pw_below_drewN | apply below_drew1 | refine below_set ?_ GE101.out | refine below_set ?_ GE109.out) | exact HB.out)⟩⟩
                                    · rw [if_neg c107] at H
                                      exact absurd H (by simp)
                                  · rw [if_neg c106] at H
                                    exact absurd H (by simp)
                                · replace c105 := Bool.eq_false_iff.mpr c105
                                  subst c105
                                  have H1 : (some false) = some r := by rw [if_neg (show ¬ (false = true) by decide)] at H; exact H
                                  clear H
                                  have H := H1
                                  clear H1
                                  obtain rfl := Option.some.inj H
                                  have hnb122 := NB101_109.out
                                  have hnc122 := NB109_101.out
                                  have hcz123_0 : wc.cell? ⟨gb101, 0, none⟩ = some (.slice A0_0 l0_0.length c0_0) := (blk_cell BK101.out 0).trans rfl
                                  have hcz123_1 : wc.cell? ⟨gb101, 1, none⟩ = some (.slice (some ad108) l0_1.length c0_1) := (blk_cell BK101.out 1).trans rfl
                                  have hcz123_2 : wc.cell? ⟨gb101, 2, none⟩ = some (.int .i64 a0_2) := (blk_cell BK101.out 2).trans rfl
                                  have hfz123_0 := blk_frozen BK101.out 0
                                  have hfz123_1 := blk_frozen BK101.out 1
                                  have hfz123_2 := blk_frozen BK101.out 2
                                  have hcz124_0 : wc.cell? ⟨gb109, 0, none⟩ = some (.slice A108_0 ((rd_T85 l0_1 x69_3).f0).length c108_0) := (blk_cell BK109.out 0).trans rfl
                                  have hcz124_1 : wc.cell? ⟨gb109, 1, none⟩ = some (.slice A108_1 ((rd_T85 l0_1 x69_3).f1).length c108_1) := (blk_cell BK109.out 1).trans rfl
                                  have hcz124_2 : wc.cell? ⟨gb109, 2, none⟩ = some (.int .i64 ((rd_T85 l0_1 x69_3).f2)) := (blk_cell BK109.out 2).trans rfl
                                  have hcz124_3 : wc.cell? ⟨gb109, 3, none⟩ = some (.int .i64 ((rd_T85 l0_1 x69_3).f3)) := (blk_cell BK109.out 3).trans rfl
                                  have hcz124_4 : wc.cell? ⟨gb109, 4, none⟩ = some (.int .i64 ((rd_T85 l0_1 x69_3).f4)) := (blk_cell BK109.out 4).trans rfl
                                  have hfz124_0 := blk_frozen BK109.out 0
                                  have hfz124_1 := blk_frozen BK109.out 1
                                  have hfz124_2 := blk_frozen BK109.out 2
                                  have hfz124_3 := blk_frozen BK109.out 3
                                  have hfz124_4 := blk_frozen BK109.out 4
                                  go_wp2_with (first | ((with_reducible refine gate_callee (f := 94) rfl ?_); refine goesL_ (some 120) rfl rfl Try.func94 (by kernel_rfl) rfl #[.agg #[.slice A0_0 l0_0.length c0_0, .slice (some ad108) l0_1.length c0_1, .int .i64 a0_2], .slice A108_1 ((rd_T85 l0_1 x69_3).f1).length c108_1] rfl (by (try simp only [List.map_toArray, List.map_cons, List.map_nil]); first | done | rfl | (simp only [List.length_drop, List.length_take]; rfl)) ?_; (with_reducible refine (impl_Control_firstLive.calls kj55 _ _ l0_0 _ _ l0_1 a0_2 _ _ ((rd_T85 l0_1 x69_3).f1) t115 _ ?side1 ?side2 ?side3 ?side4 ?side5 ?side6 A91.out).mono ?_); (case side1 => repeat (first | exact (Kd.C_below HR0_0.out HB.out) | (with_reducible refine Kd.C_alloc ?_ _) | (with_reducible refine Kd.C_drewN ?_ _) | (with_reducible refine Kd.C_drew ?_))); (case side2 => exact HC0_0.out); (case side3 => repeat (first | exact (Kd.C_below HR0_1.out HB.out) | (with_reducible refine Kd.C_alloc ?_ _) | (with_reducible refine Kd.C_drewN ?_ _) | (with_reducible refine Kd.C_drew ?_))); (case side4 => exact HC0_1.out); (case side5 => repeat (first | exact (Kd.C_below HR108_1.out HB.out) | (with_reducible refine Kd.C_alloc ?_ _) | (with_reducible refine Kd.C_drewN ?_ _) | (with_reducible refine Kd.C_drew ?_))); (case side6 => exact HC108_1.out); rintro e w125 ⟨rfl, hb⟩; refine ⟨_, rfl, ?_⟩; have n0_ := Aside0.mk (blk_below (g := gb101) (o := .cells #[.slice A0_0 l0_0.length c0_0, .slice (some ad108) l0_1.length c0_1, .int .i64 a0_2] 25 (0, 0)) (by (with_reducible repeat (first | refine blk_drewN ?_ _ | refine blk_drew ?_ | refine blk_alloc ?_ _)); exact BK101.out) hb); have n1_ := Aside0.mk (blk_below (g := gb109) (o := .cells #[.slice A108_0 ((rd_T85 l0_1 x69_3).f0).length c108_0, .slice A108_1 ((rd_T85 l0_1 x69_3).f1).length c108_1, .int .i64 ((rd_T85 l0_1 x69_3).f2), .int .i64 ((rd_T85 l0_1 x69_3).f3), .int .i64 ((rd_T85 l0_1 x69_3).f4)] 85 (0, 0)) (by (with_reducible repeat (first | refine blk_drewN ?_ _ | refine blk_drew ?_ | refine blk_alloc ?_ _)); exact BK109.out) hb); have n2_ := Aside0.mk (below_step (by repeat (first | (with_reducible first | exact HB.out | apply below_alloc | apply pw_below_drewN | apply below_drew1 | refine below_set ?_ GE101.out | refine below_set ?_ GE109.out) | exact HB.out)) hb); clear BK101; clear BK109; clear HB; have BK101 := n0_; have BK109 := n1_; have HB := n2_; clear n0_ n1_ n2_; (try clear hb); (try clear hb2); (try clear hk); (try clear hi); have hcz126_0 : w125.cell? ⟨gb109, 0, none⟩ = some (.slice A108_0 ((rd_T85 l0_1 x69_3).f0).length c108_0) := (blk_cell BK109.out 0).trans rfl; have hcz126_1 : w125.cell? ⟨gb109, 1, none⟩ = some (.slice A108_1 ((rd_T85 l0_1 x69_3).f1).length c108_1) := (blk_cell BK109.out 1).trans rfl; have hcz126_2 : w125.cell? ⟨gb109, 2, none⟩ = some (.int .i64 ((rd_T85 l0_1 x69_3).f2)) := (blk_cell BK109.out 2).trans rfl; have hcz126_3 : w125.cell? ⟨gb109, 3, none⟩ = some (.int .i64 ((rd_T85 l0_1 x69_3).f3)) := (blk_cell BK109.out 3).trans rfl; have hcz126_4 : w125.cell? ⟨gb109, 4, none⟩ = some (.int .i64 ((rd_T85 l0_1 x69_3).f4)) := (blk_cell BK109.out 4).trans rfl; have hfz126_0 := blk_frozen BK109.out 0; have hfz126_1 := blk_frozen BK109.out 1; have hfz126_2 := blk_frozen BK109.out 2; have hfz126_3 := blk_frozen BK109.out 3; have hfz126_4 := blk_frozen BK109.out 4) | (go_at_call 95; (with_reducible refine (slices_Contains_int_int.calls kj55 _ _ ((rd_T85 l0_1 x69_3).f1) ((rd_T85 l0_1 x69_3).f2) false _ ?side1 ?side2 A104.out).mono ?_); (case side1 => repeat (first | exact (Kd.C_below HR108_1.out HB.out) | (with_reducible refine Kd.C_alloc ?_ _) | (with_reducible refine Kd.C_drewN ?_ _) | (with_reducible refine Kd.C_drew ?_))); (case side2 => exact HC108_1.out); rintro e w' ⟨rfl, ⟨nd, rfl⟩⟩))
                                  go_ret
                                  exact ⟨by first | rfl | (simp [errW_none, errW_some] <;> rfl) | (simp [*, errW_none, errW_some] <;> rfl), by repeat (first | (with_reducible first | exact HB.out | apply below_alloc | apply pw_below_drewN | apply below_drew1 | refine below_set ?_ GE101.out | refine below_set ?_ GE109.out) | exact HB.out)⟩
                      · rw [if_neg c55] at H
                        exact absurd H (by simp)
                    · rw [if_neg c54] at H
                      exact absurd H (by simp)
                  · rw [if_neg c53] at H
                    have c53b0 : decide (x69_3 < (l0_1.length : Int)) = false := decide_eq_false c53
                    clear c53
                    obtain rfl := Option.some.inj H
                    go_wp2
                    go_ret
                    exact ⟨by first | rfl | (simp [errW_none, errW_some] <;> rfl) | (simp [*, errW_none, errW_some] <;> rfl), by repeat (first | (with_reducible first | exact HB.out | apply below_alloc | apply pw_below_drewN | apply below_drew1 | refine below_set ?_ GE101.out) | exact HB.out)⟩
end Go.Proofs.Ytmkiffemanmgcaa.P
end
