-- Written by a program of this session (wip/xp.py), out of the translation. Not trusted: Lean checks it.
import Derived.Test.YtgcliajajcinpaaPx0
import Derived.Test.YtgcliajajcinpaaPx4
import Derived.Test.YtgcliajajcinpaaPx5
namespace Go.Proofs.Ytgcliajajcinpaa.P
open Go.RowKit Go.Proofs.YtgcliajajcinpaaW.PrintWords Go.Proofs.YtgcliajajcinpaaW.PrintLast Go.Proofs.YtgcliajajcinpaaW.PrintMore
attribute [local go_sem] max2_int min2_int max_two min_two max_three min_three max_four min_four   -- for this text's walks alone
set_option linter.unusedVariables false
set_option linter.unusedSimpArgs false

/-! ### impl_spread: function 61 -/
mutual
def impl_spread.l0 : Nat → Int → List Int → Int → List Int → List Int → Int → Int → Option (List Int)
  | 0, _, _, _, _, _, _, _ => none
  | k + 1, x0, x1, x2, x7, x8, x23, x24 => if x24 < x23 then (if x24 = x2 then (impl_spread.l0 k x0 x1 x2 x7 x8 x23 (wrap64 (x24 + 1))) else (if x8.length < 17592186044416 then (impl_spread.l0 k x0 x1 x2 x7 (x8 ++ [x24]) x23 (wrap64 (x24 + 1))) else (none))) else ((impl_loadsOf.f k x0 x1).bind fun t113 => ((slices_SortStableFunc_int_int_of_impl_spread_1.f k x8 t113).bind fun t117 => (if 0 ≤ x0 then (if (x0 : Int).toNat ≤ 35184372088832 then (impl_spread.l1 k x1 x7 t117 (List.replicate (x0 : Int).toNat 0) (x8.length : Int) 0 t113) else (none)) else (none))))
def impl_spread.l1 : Nat → List Int → List Int → List Int → List Int → Int → Int → List Int → Option (List Int)
  | 0, _, _, _, _, _, _, _ => none
  | k + 1, x1, x7, x8, x11, x44, x45, x117000 => if x45 < x44 then (if 0 ≤ x45 then (if x45 < (x8.length : Int) then (if (x8.length : Int) = 0 then (none) else (if 0 ≤ (rd x8 x45) then (if (rd x8 x45) < (x11.length : Int) then ((some (x11.set ((rd x8 x45) : Int).toNat (wrap64 ((x1.length : Int) / (x8.length : Int))) : List Int)).bind fun y122 => (if x45 < ((x1.length : Int) % (x8.length : Int)) then (impl_spread.l1 k x1 x7 x8 (y122.set ((rd x8 x45) : Int).toNat (wrap64 ((rd y122 (rd x8 x45)) + 1))) x44 (wrap64 (x45 + 1)) x117000) else (impl_spread.l1 k x1 x7 x8 y122 x44 (wrap64 (x45 + 1)) x117000))) else (none)) else (none))) else (none)) else (none)) else (impl_spread.l2 k x7 x11 (wrap64 ((x7.length : Int) - 1)) x117000)
def impl_spread.l2 : Nat → List Int → List Int → Int → List Int → Option (List Int)
  | 0, _, _, _, _ => none
  | k + 1, x7, x11, x14, x117000 => if x14 ≥ 0 then (if 0 ≤ x14 then (if x14 < (x7.length : Int) then (if (rd x7 x14) ≥ 0 then (if 0 ≤ (rd x7 x14) then (if (rd x7 x14) < (x117000.length : Int) then (if (rd x7 x14) < (x11.length : Int) then (if (rd x117000 (rd x7 x14)) > (rd x11 (rd x7 x14)) then (impl_spread.l2 k (x7.set (x14 : Int).toNat (-1)) x11 (wrap64 (x14 - 1)) (x117000.set ((rd x7 x14) : Int).toNat (wrap64 ((rd x117000 (rd x7 x14)) - 1)))) else (impl_spread.l2 k x7 x11 (wrap64 (x14 - 1)) x117000)) else (none)) else (none)) else (none)) else (impl_spread.l2 k x7 x11 (wrap64 (x14 - 1)) x117000)) else (none)) else (none)) else (impl_spread.l3 k x7 x11 (x7.length : Int) 0 x117000)
def impl_spread.l3 : Nat → List Int → List Int → Int → Int → List Int → Option (List Int)
  | 0, _, _, _, _, _ => none
  | k + 1, x7, x11, x106, x107, x117000 => if x107 < x106 then (if 0 ≤ x107 then (if x107 < (x7.length : Int) then (if (rd x7 x107) ≥ 0 then (impl_spread.l3 k x7 x11 x106 (wrap64 (x107 + 1)) x117000) else (impl_spread.l4 k x7 x11 x107 0 x106 x107 x117000)) else (none)) else (none)) else (some x7)
def impl_spread.l4 : Nat → List Int → List Int → Int → Int → Int → Int → List Int → Option (List Int)
  | 0, _, _, _, _, _, _, _ => none
  | k + 1, x7, x11, x16, x18, x106, x107, x117000 => if 0 ≤ x18 then (if x18 < (x117000.length : Int) then (if x18 < (x11.length : Int) then (if (rd x117000 x18) ≥ (rd x11 x18) then (impl_spread.l4 k x7 x11 x16 (wrap64 (x18 + 1)) x106 x107 x117000) else (if 0 ≤ x16 then (if x16 < (x7.length : Int) then (impl_spread.l3 k (x7.set (x16 : Int).toNat x18) x11 x106 (wrap64 (x107 + 1)) (x117000.set (x18 : Int).toNat (wrap64 ((rd x117000 x18) + 1)))) else (none)) else (none))) else (none)) else (none)) else (none)
end
def impl_spread.f (k : Nat) (a0 : Int) (l1 : List Int) (a2 : Int) : Option (List Int) := (some (([] : List Int) : List Int)).bind fun y101 => (if y101.length + l1.length < 17592186044416 then (impl_spread.l0 k a0 l1 a2 (y101 ++ l1) (([] : List Int)) a0 0) else (none))
theorem impl_spread.mono_l : ∀ k, (∀ y0 y1 y2 y3 y4 y5 y6, LeO (impl_spread.l0 k y0 y1 y2 y3 y4 y5 y6) (impl_spread.l0 (k + 1) y0 y1 y2 y3 y4 y5 y6)) ∧ (∀ y0 y1 y2 y3 y4 y5 y6, LeO (impl_spread.l1 k y0 y1 y2 y3 y4 y5 y6) (impl_spread.l1 (k + 1) y0 y1 y2 y3 y4 y5 y6)) ∧ (∀ y0 y1 y2 y3, LeO (impl_spread.l2 k y0 y1 y2 y3) (impl_spread.l2 (k + 1) y0 y1 y2 y3)) ∧ (∀ y0 y1 y2 y3 y4, LeO (impl_spread.l3 k y0 y1 y2 y3 y4) (impl_spread.l3 (k + 1) y0 y1 y2 y3 y4)) ∧ (∀ y0 y1 y2 y3 y4 y5 y6, LeO (impl_spread.l4 k y0 y1 y2 y3 y4 y5 y6) (impl_spread.l4 (k + 1) y0 y1 y2 y3 y4 y5 y6))
  | 0 => ⟨fun _ _ _ _ _ _ _ r h => by simp [impl_spread.l0] at h, fun _ _ _ _ _ _ _ r h => by simp [impl_spread.l1] at h, fun _ _ _ _ r h => by simp [impl_spread.l2] at h, fun _ _ _ _ _ r h => by simp [impl_spread.l3] at h, fun _ _ _ _ _ _ _ r h => by simp [impl_spread.l4] at h⟩
  | k + 1 => by
    obtain ⟨ih0, ih1, ih2, ih3, ih4⟩ := impl_spread.mono_l k
    refine ⟨?_, ?_, ?_, ?_, ?_⟩
    · intro y0 y1 y2 y3 y4 y5 y6
      unfold impl_spread.l0
      repeat' first
      | (with_reducible exact ih0 _ _ _ _ _ _ _)
      | (with_reducible exact ih1 _ _ _ _ _ _ _)
      | (with_reducible exact ih2 _ _ _ _)
      | (with_reducible exact ih3 _ _ _ _ _)
      | (with_reducible exact ih4 _ _ _ _ _ _ _)
      | (with_reducible exact impl_loadsOf.mono _ _ _)
      | (with_reducible exact slices_SortStableFunc_int_int_of_impl_spread_1.mono _ _ _)
      | (with_reducible exact LeO.refl _)
      | (with_reducible exact LeO.none _)
      | (with_reducible refine LeO.ite ?_ ?_)
      | (with_reducible refine LeO.bind ?_ (fun _ => ?_))
      | exact ih0 _ _ _ _ _ _ _
      | exact ih1 _ _ _ _ _ _ _
      | exact ih2 _ _ _ _
      | exact ih3 _ _ _ _ _
      | exact ih4 _ _ _ _ _ _ _
      | exact impl_loadsOf.mono _ _ _
      | exact slices_SortStableFunc_int_int_of_impl_spread_1.mono _ _ _
      | exact LeO.none _
      | refine LeO.ite ?_ ?_
      | refine LeO.bind ?_ (fun _ => ?_)
    · intro y0 y1 y2 y3 y4 y5 y6
      unfold impl_spread.l1
      repeat' first
      | (with_reducible exact ih0 _ _ _ _ _ _ _)
      | (with_reducible exact ih1 _ _ _ _ _ _ _)
      | (with_reducible exact ih2 _ _ _ _)
      | (with_reducible exact ih3 _ _ _ _ _)
      | (with_reducible exact ih4 _ _ _ _ _ _ _)
      | (with_reducible exact impl_loadsOf.mono _ _ _)
      | (with_reducible exact slices_SortStableFunc_int_int_of_impl_spread_1.mono _ _ _)
      | (with_reducible exact LeO.refl _)
      | (with_reducible exact LeO.none _)
      | (with_reducible refine LeO.ite ?_ ?_)
      | (with_reducible refine LeO.bind ?_ (fun _ => ?_))
      | exact ih0 _ _ _ _ _ _ _
      | exact ih1 _ _ _ _ _ _ _
      | exact ih2 _ _ _ _
      | exact ih3 _ _ _ _ _
      | exact ih4 _ _ _ _ _ _ _
      | exact impl_loadsOf.mono _ _ _
      | exact slices_SortStableFunc_int_int_of_impl_spread_1.mono _ _ _
      | exact LeO.none _
      | refine LeO.ite ?_ ?_
      | refine LeO.bind ?_ (fun _ => ?_)
    · intro y0 y1 y2 y3
      unfold impl_spread.l2
      repeat' first
      | (with_reducible exact ih0 _ _ _ _ _ _ _)
      | (with_reducible exact ih1 _ _ _ _ _ _ _)
      | (with_reducible exact ih2 _ _ _ _)
      | (with_reducible exact ih3 _ _ _ _ _)
      | (with_reducible exact ih4 _ _ _ _ _ _ _)
      | (with_reducible exact impl_loadsOf.mono _ _ _)
      | (with_reducible exact slices_SortStableFunc_int_int_of_impl_spread_1.mono _ _ _)
      | (with_reducible exact LeO.refl _)
      | (with_reducible exact LeO.none _)
      | (with_reducible refine LeO.ite ?_ ?_)
      | (with_reducible refine LeO.bind ?_ (fun _ => ?_))
      | exact ih0 _ _ _ _ _ _ _
      | exact ih1 _ _ _ _ _ _ _
      | exact ih2 _ _ _ _
      | exact ih3 _ _ _ _ _
      | exact ih4 _ _ _ _ _ _ _
      | exact impl_loadsOf.mono _ _ _
      | exact slices_SortStableFunc_int_int_of_impl_spread_1.mono _ _ _
      | exact LeO.none _
      | refine LeO.ite ?_ ?_
      | refine LeO.bind ?_ (fun _ => ?_)
    · intro y0 y1 y2 y3 y4
      unfold impl_spread.l3
      repeat' first
      | (with_reducible exact ih0 _ _ _ _ _ _ _)
      | (with_reducible exact ih1 _ _ _ _ _ _ _)
      | (with_reducible exact ih2 _ _ _ _)
      | (with_reducible exact ih3 _ _ _ _ _)
      | (with_reducible exact ih4 _ _ _ _ _ _ _)
      | (with_reducible exact impl_loadsOf.mono _ _ _)
      | (with_reducible exact slices_SortStableFunc_int_int_of_impl_spread_1.mono _ _ _)
      | (with_reducible exact LeO.refl _)
      | (with_reducible exact LeO.none _)
      | (with_reducible refine LeO.ite ?_ ?_)
      | (with_reducible refine LeO.bind ?_ (fun _ => ?_))
      | exact ih0 _ _ _ _ _ _ _
      | exact ih1 _ _ _ _ _ _ _
      | exact ih2 _ _ _ _
      | exact ih3 _ _ _ _ _
      | exact ih4 _ _ _ _ _ _ _
      | exact impl_loadsOf.mono _ _ _
      | exact slices_SortStableFunc_int_int_of_impl_spread_1.mono _ _ _
      | exact LeO.none _
      | refine LeO.ite ?_ ?_
      | refine LeO.bind ?_ (fun _ => ?_)
    · intro y0 y1 y2 y3 y4 y5 y6
      unfold impl_spread.l4
      repeat' first
      | (with_reducible exact ih0 _ _ _ _ _ _ _)
      | (with_reducible exact ih1 _ _ _ _ _ _ _)
      | (with_reducible exact ih2 _ _ _ _)
      | (with_reducible exact ih3 _ _ _ _ _)
      | (with_reducible exact ih4 _ _ _ _ _ _ _)
      | (with_reducible exact impl_loadsOf.mono _ _ _)
      | (with_reducible exact slices_SortStableFunc_int_int_of_impl_spread_1.mono _ _ _)
      | (with_reducible exact LeO.refl _)
      | (with_reducible exact LeO.none _)
      | (with_reducible refine LeO.ite ?_ ?_)
      | (with_reducible refine LeO.bind ?_ (fun _ => ?_))
      | exact ih0 _ _ _ _ _ _ _
      | exact ih1 _ _ _ _ _ _ _
      | exact ih2 _ _ _ _
      | exact ih3 _ _ _ _ _
      | exact ih4 _ _ _ _ _ _ _
      | exact impl_loadsOf.mono _ _ _
      | exact slices_SortStableFunc_int_int_of_impl_spread_1.mono _ _ _
      | exact LeO.none _
      | refine LeO.ite ?_ ?_
      | refine LeO.bind ?_ (fun _ => ?_)
theorem impl_spread.mono : ∀ a0 a1 a2 k, LeO (impl_spread.f k a0 a1 a2) (impl_spread.f (k + 1) a0 a1 a2) := by
  intro a0 a1 a2 k
  obtain ⟨ih0, ih1, ih2, ih3, ih4⟩ := impl_spread.mono_l k
  unfold impl_spread.f
  repeat' first
      | (with_reducible exact ih0 _ _ _ _ _ _ _)
      | (with_reducible exact ih1 _ _ _ _ _ _ _)
      | (with_reducible exact ih2 _ _ _ _)
      | (with_reducible exact ih3 _ _ _ _ _)
      | (with_reducible exact ih4 _ _ _ _ _ _ _)
      | (with_reducible exact impl_loadsOf.mono _ _ _)
      | (with_reducible exact slices_SortStableFunc_int_int_of_impl_spread_1.mono _ _ _)
      | (with_reducible exact LeO.refl _)
      | (with_reducible exact LeO.none _)
      | (with_reducible refine LeO.ite ?_ ?_)
      | (with_reducible refine LeO.bind ?_ (fun _ => ?_))
      | exact ih0 _ _ _ _ _ _ _
      | exact ih1 _ _ _ _ _ _ _
      | exact ih2 _ _ _ _
      | exact ih3 _ _ _ _ _
      | exact ih4 _ _ _ _ _ _ _
      | exact impl_loadsOf.mono _ _ _
      | exact slices_SortStableFunc_int_int_of_impl_spread_1.mono _ _ _
      | exact LeO.none _
      | refine LeO.ite ?_ ?_
      | refine LeO.bind ?_ (fun _ => ?_)
set_option maxHeartbeats 8000000 in
set_option maxRecDepth 100000 in
theorem impl_spread.calls (k : Nat) (a0 : Int) (A1 : Option Addr) (c1 : Nat) (l1 : List Int) (a2 : Int) (r : List Int) (w : World) (hr1 : Kd.C (Kd.int .i64) w A1 l1.length l1) (hc1 : l1.length ≤ c1) (h : impl_spread.f k a0 l1 a2 = some r) :
    Calls Try.prog 61 #[.int .i64 a0, .slice A1 l1.length c1, .int .i64 a2] w fun e w' => ∃ v0_ : Value, e = .returned (v0_) ∧ Kd.R (Kd.int .i64) 3 w' w.heap.size (fun _ => True) v0_ r ∧ Below w.heap.size w w' := by
  have hu22 := Try.underlying22
  have hu3 := Try.underlying3
  have HR1 := Aside0.mk hr1
  have HC1 := Aside0.mk hc1
  clear hr1 hc1
  have HB := Aside0.mk (Below.refl w.heap.size w)
  have H : ((some (([] : List Int) : List Int)).bind fun y101 => (if y101.length + l1.length < 17592186044416 then (impl_spread.l0 k a0 l1 a2 (y101 ++ l1) (([] : List Int)) a0 0) else (none))) = some r := h
  clear h
  obtain ⟨y101, hy101⟩ : ∃ y_ : List Int, y_ = (([] : List Int)) := ⟨_, rfl⟩
  replace H : (if y101.length + l1.length < 17592186044416 then (impl_spread.l0 k a0 l1 a2 (y101 ++ l1) (([] : List Int)) a0 0) else (none)) = some r := by first | (rw [hy101]; with_reducible exact H) | (have H2_ := (Option.bind_some _ _).symm.trans H; rw [hy101]; with_reducible exact H2_) | (have H2_ := (Option.bind_some _ _).symm.trans H; with_reducible exact H2_) | with_reducible exact H | (rw [hy101]; exact H) | exact H
  have Ny101 := Aside0.mk hy101
  clear hy101
  by_cases c4 : y101.length + l1.length < 17592186044416
  · rw [if_pos c4] at H
    have LMc4 := Aside0.mk c4
    clear c4
    obtain ⟨y104, hy104⟩ : ∃ y_ : List Int, y_ = (y101 ++ l1) := ⟨_, rfl⟩
    replace H : (impl_spread.l0 k a0 l1 a2 y104 (([] : List Int)) a0 0) = some r := by first | (rw [hy104]; with_reducible exact H) | (have H2_ := (Option.bind_some _ _).symm.trans H; rw [hy104]; with_reducible exact H2_) | (have H2_ := (Option.bind_some _ _).symm.trans H; with_reducible exact H2_) | with_reducible exact H | (rw [hy104]; exact H) | exact H
    have Ny104 := Aside0.mk hy104
    clear hy104
    obtain ⟨y107, hy107⟩ : ∃ y_ : List Int, y_ = (([] : List Int)) := ⟨_, rfl⟩
    replace H : (impl_spread.l0 k a0 l1 a2 y104 y107 a0 0) = some r := by first | (rw [hy107]; with_reducible exact H) | (have H2_ := (Option.bind_some _ _).symm.trans H; rw [hy107]; with_reducible exact H2_) | (have H2_ := (Option.bind_some _ _).symm.trans H; with_reducible exact H2_) | with_reducible exact H | (rw [hy107]; exact H) | exact H
    have Ny107 := Aside0.mk hy107
    clear hy107
    have H' := Aside0.mk H
    clear H
    go_enter Try.func61, Try.ntmps61
    go_wp2_with (first | ((with_reducible refine gate_dst (N := 19) rfl ?_); refine Kd.R_lit (Kd.int .i64) _ 3 ?hg (N := 19) ?hd (xs := ([] : List Int)) (inner := []) (ok := fun _ => True) (okp := fun _ => True) ?hr ?hp (fun _ hk => hk) trivial (Below.refl _ _) (Nat.le_refl _) (by simp) ?_; (case hd => rfl); (case hg => rfl); (case hr => first | (go_simp; done) | (go_simp; rfl)); (case hp => exact (Reps.none _ _)); intro v102 w5 ho6 hb hg_ hnew_; clear hg_ hnew_; (first | rw [← Ny101.out] at ho6 | (simp only [Int.reduceToNat] at ho6; rw [← Ny101.out] at ho6)); have n0_ := Aside0.mk (Kd.R_lower ho6 (below_size (by repeat (first | (with_reducible first | exact HB.out | apply below_alloc | apply pw_below_drewN | apply below_drew1) | exact HB.out)))); have n1_ := Aside0.mk (below_step (by repeat (first | (with_reducible first | exact HB.out | apply below_alloc | apply pw_below_drewN | apply below_drew1) | exact HB.out)) hb); clear HB; have HO103 := n0_; have HB := n1_; clear n0_ n1_; clear hb ho6) | ((with_reducible refine gate_builtin (b := .append) (xs := #[.tmp 19, .tmp 20]) rfl ?_); at_builtin; refine Kd.R_append_rows (Kd.int .i64) (w0 := w) w.heap.size rfl (.tmp 19) (.tmp 20) 22 3 (.int .i64 0) 8 rfl Try.underlying22 info3 rfl (by decide) (by omega) v102 y101 l1 _ _ _ (fun _ => True) (fun _ => False) rfl rfl ?aO ?aR (fun _ _ h => h) (fun _ h => h.elim) ?aF ?aB ?aS ?aL ?_; (case aR => repeat (first | exact (Kd.C_below HR1.out HB.out) | (with_reducible refine Kd.C_alloc ?_ _) | (with_reducible refine Kd.C_drewN ?_ _) | (with_reducible refine Kd.C_drew ?_))); (case aB => exact (by repeat (first | (with_reducible first | exact HB.out | apply below_alloc | apply pw_below_drewN | apply below_drew1) | exact HB.out))); (case aF => exact (fun _ _ => trivial)); (case aO => exact (by (with_reducible repeat (first | apply Kd.R_alloc | apply Kd.R_drewN | apply Kd.R_drew)); exact HO103.out)); (case aS => exact (below_size (by repeat (first | (with_reducible first | exact HB.out | apply below_alloc | apply pw_below_drewN | apply below_drew1) | exact HB.out)))); (case aL => have := LMc4.out; omega); intro v105 w7 ho hb hg hat; rw [← Ny104.out] at ho; have n0_ := Aside0.mk (hb); have n1_ := Aside0.mk (ho); clear HB; clear HO103; have HB := n0_; have HO106 := n1_; clear n0_ n1_; clear ho hb hg hat) | ((with_reducible refine gate_dst (N := 22) rfl ?_); refine Kd.R_lit (Kd.int .i64) _ 3 ?hg (N := 22) ?hd (xs := ([] : List Int)) (inner := []) (ok := fun _ => True) (okp := fun _ => True) ?hr ?hp (fun _ hk => hk) trivial (Below.refl _ _) (Nat.le_refl _) (by simp) ?_; (case hd => rfl); (case hg => rfl); (case hr => first | (go_simp; done) | (go_simp; rfl)); (case hp => exact (Reps.none _ _)); intro v108 w8 ho9 hb hg_ hnew_; clear hg_ hnew_; (first | rw [← Ny107.out] at ho9 | (simp only [Int.reduceToNat] at ho9; rw [← Ny107.out] at ho9)); have n0_ := Aside0.mk (Kd.R_elder' (by (with_reducible repeat (first | apply Kd.R_alloc | apply Kd.R_drewN | apply Kd.R_drew)); exact HO106.out) (Kd.R_base ho9) hb); have n1_ := Aside0.mk (Kd.R_lower (Kd.R_new' ho9 (Kd.R_lt (by (with_reducible repeat (first | apply Kd.R_alloc | apply Kd.R_drewN | apply Kd.R_drew)); exact HO106.out))) (below_size (by repeat (first | (with_reducible first | exact HB.out | apply below_alloc | apply pw_below_drewN | apply below_drew1) | exact HB.out)))); have n2_ := Aside0.mk (below_step (by repeat (first | (with_reducible first | exact HB.out | apply below_alloc | apply pw_below_drewN | apply below_drew1) | exact HB.out)) hb); clear HO106; clear HB; have HO106 := n0_; have HO109 := n1_; have HB := n2_; clear n0_ n1_ n2_; clear hb ho9))
    repeat (go_quiet (first | ((with_reducible refine gate_dst (N := 19) rfl ?_); refine Kd.R_lit (Kd.int .i64) _ 3 ?hg (N := 19) ?hd (xs := ([] : List Int)) (inner := []) (ok := fun _ => True) (okp := fun _ => True) ?hr ?hp (fun _ hk => hk) trivial (Below.refl _ _) (Nat.le_refl _) (by simp) ?_; (case hd => rfl); (case hg => rfl); (case hr => first | (go_simp; done) | (go_simp; rfl)); (case hp => exact (Reps.none _ _)); intro v102 w5 ho6 hb hg_ hnew_; clear hg_ hnew_; (first | rw [← Ny101.out] at ho6 | (simp only [Int.reduceToNat] at ho6; rw [← Ny101.out] at ho6)); have n0_ := Aside0.mk (Kd.R_lower ho6 (below_size (by repeat (first | (with_reducible first | exact HB.out | apply below_alloc | apply pw_below_drewN | apply below_drew1) | exact HB.out)))); have n1_ := Aside0.mk (below_step (by repeat (first | (with_reducible first | exact HB.out | apply below_alloc | apply pw_below_drewN | apply below_drew1) | exact HB.out)) hb); clear HB; have HO103 := n0_; have HB := n1_; clear n0_ n1_; clear hb ho6) | ((with_reducible refine gate_builtin (b := .append) (xs := #[.tmp 19, .tmp 20]) rfl ?_); at_builtin; refine Kd.R_append_rows (Kd.int .i64) (w0 := w) w.heap.size rfl (.tmp 19) (.tmp 20) 22 3 (.int .i64 0) 8 rfl Try.underlying22 info3 rfl (by decide) (by omega) v102 y101 l1 _ _ _ (fun _ => True) (fun _ => False) rfl rfl ?aO ?aR (fun _ _ h => h) (fun _ h => h.elim) ?aF ?aB ?aS ?aL ?_; (case aR => repeat (first | exact (Kd.C_below HR1.out HB.out) | (with_reducible refine Kd.C_alloc ?_ _) | (with_reducible refine Kd.C_drewN ?_ _) | (with_reducible refine Kd.C_drew ?_))); (case aB => exact (by repeat (first | (with_reducible first | exact HB.out | apply below_alloc | apply pw_below_drewN | apply below_drew1) | exact HB.out))); (case aF => exact (fun _ _ => trivial)); (case aO => exact (by (with_reducible repeat (first | apply Kd.R_alloc | apply Kd.R_drewN | apply Kd.R_drew)); exact HO103.out)); (case aS => exact (below_size (by repeat (first | (with_reducible first | exact HB.out | apply below_alloc | apply pw_below_drewN | apply below_drew1) | exact HB.out)))); (case aL => have := LMc4.out; omega); intro v105 w7 ho hb hg hat; rw [← Ny104.out] at ho; have n0_ := Aside0.mk (hb); have n1_ := Aside0.mk (ho); clear HB; clear HO103; have HB := n0_; have HO106 := n1_; clear n0_ n1_; clear ho hb hg hat) | ((with_reducible refine gate_dst (N := 22) rfl ?_); refine Kd.R_lit (Kd.int .i64) _ 3 ?hg (N := 22) ?hd (xs := ([] : List Int)) (inner := []) (ok := fun _ => True) (okp := fun _ => True) ?hr ?hp (fun _ hk => hk) trivial (Below.refl _ _) (Nat.le_refl _) (by simp) ?_; (case hd => rfl); (case hg => rfl); (case hr => first | (go_simp; done) | (go_simp; rfl)); (case hp => exact (Reps.none _ _)); intro v108 w8 ho9 hb hg_ hnew_; clear hg_ hnew_; (first | rw [← Ny107.out] at ho9 | (simp only [Int.reduceToNat] at ho9; rw [← Ny107.out] at ho9)); have n0_ := Aside0.mk (Kd.R_elder' (by (with_reducible repeat (first | apply Kd.R_alloc | apply Kd.R_drewN | apply Kd.R_drew)); exact HO106.out) (Kd.R_base ho9) hb); have n1_ := Aside0.mk (Kd.R_lower (Kd.R_new' ho9 (Kd.R_lt (by (with_reducible repeat (first | apply Kd.R_alloc | apply Kd.R_drewN | apply Kd.R_drew)); exact HO106.out))) (below_size (by repeat (first | (with_reducible first | exact HB.out | apply below_alloc | apply pw_below_drewN | apply below_drew1) | exact HB.out)))); have n2_ := Aside0.mk (below_step (by repeat (first | (with_reducible first | exact HB.out | apply below_alloc | apply pw_below_drewN | apply below_drew1) | exact HB.out)) hb); clear HO106; clear HB; have HO106 := n0_; have HO109 := n1_; have HB := n2_; clear n0_ n1_ n2_; clear hb ho9)); try go_wp2_with (first | ((with_reducible refine gate_dst (N := 19) rfl ?_); refine Kd.R_lit (Kd.int .i64) _ 3 ?hg (N := 19) ?hd (xs := ([] : List Int)) (inner := []) (ok := fun _ => True) (okp := fun _ => True) ?hr ?hp (fun _ hk => hk) trivial (Below.refl _ _) (Nat.le_refl _) (by simp) ?_; (case hd => rfl); (case hg => rfl); (case hr => first | (go_simp; done) | (go_simp; rfl)); (case hp => exact (Reps.none _ _)); intro v102 w5 ho6 hb hg_ hnew_; clear hg_ hnew_; (first | rw [← Ny101.out] at ho6 | (simp only [Int.reduceToNat] at ho6; rw [← Ny101.out] at ho6)); have n0_ := Aside0.mk (Kd.R_lower ho6 (below_size (by repeat (first | (with_reducible first | exact HB.out | apply below_alloc | apply pw_below_drewN | apply below_drew1) | exact HB.out)))); have n1_ := Aside0.mk (below_step (by repeat (first | (with_reducible first | exact HB.out | apply below_alloc | apply pw_below_drewN | apply below_drew1) | exact HB.out)) hb); clear HB; have HO103 := n0_; have HB := n1_; clear n0_ n1_; clear hb ho6) | ((with_reducible refine gate_builtin (b := .append) (xs := #[.tmp 19, .tmp 20]) rfl ?_); at_builtin; refine Kd.R_append_rows (Kd.int .i64) (w0 := w) w.heap.size rfl (.tmp 19) (.tmp 20) 22 3 (.int .i64 0) 8 rfl Try.underlying22 info3 rfl (by decide) (by omega) v102 y101 l1 _ _ _ (fun _ => True) (fun _ => False) rfl rfl ?aO ?aR (fun _ _ h => h) (fun _ h => h.elim) ?aF ?aB ?aS ?aL ?_; (case aR => repeat (first | exact (Kd.C_below HR1.out HB.out) | (with_reducible refine Kd.C_alloc ?_ _) | (with_reducible refine Kd.C_drewN ?_ _) | (with_reducible refine Kd.C_drew ?_))); (case aB => exact (by repeat (first | (with_reducible first | exact HB.out | apply below_alloc | apply pw_below_drewN | apply below_drew1) | exact HB.out))); (case aF => exact (fun _ _ => trivial)); (case aO => exact (by (with_reducible repeat (first | apply Kd.R_alloc | apply Kd.R_drewN | apply Kd.R_drew)); exact HO103.out)); (case aS => exact (below_size (by repeat (first | (with_reducible first | exact HB.out | apply below_alloc | apply pw_below_drewN | apply below_drew1) | exact HB.out)))); (case aL => have := LMc4.out; omega); intro v105 w7 ho hb hg hat; rw [← Ny104.out] at ho; have n0_ := Aside0.mk (hb); have n1_ := Aside0.mk (ho); clear HB; clear HO103; have HB := n0_; have HO106 := n1_; clear n0_ n1_; clear ho hb hg hat) | ((with_reducible refine gate_dst (N := 22) rfl ?_); refine Kd.R_lit (Kd.int .i64) _ 3 ?hg (N := 22) ?hd (xs := ([] : List Int)) (inner := []) (ok := fun _ => True) (okp := fun _ => True) ?hr ?hp (fun _ hk => hk) trivial (Below.refl _ _) (Nat.le_refl _) (by simp) ?_; (case hd => rfl); (case hg => rfl); (case hr => first | (go_simp; done) | (go_simp; rfl)); (case hp => exact (Reps.none _ _)); intro v108 w8 ho9 hb hg_ hnew_; clear hg_ hnew_; (first | rw [← Ny107.out] at ho9 | (simp only [Int.reduceToNat] at ho9; rw [← Ny107.out] at ho9)); have n0_ := Aside0.mk (Kd.R_elder' (by (with_reducible repeat (first | apply Kd.R_alloc | apply Kd.R_drewN | apply Kd.R_drew)); exact HO106.out) (Kd.R_base ho9) hb); have n1_ := Aside0.mk (Kd.R_lower (Kd.R_new' ho9 (Kd.R_lt (by (with_reducible repeat (first | apply Kd.R_alloc | apply Kd.R_drewN | apply Kd.R_drew)); exact HO106.out))) (below_size (by repeat (first | (with_reducible first | exact HB.out | apply below_alloc | apply pw_below_drewN | apply below_drew1) | exact HB.out)))); have n2_ := Aside0.mk (below_step (by repeat (first | (with_reducible first | exact HB.out | apply below_alloc | apply pw_below_drewN | apply below_drew1) | exact HB.out)) hb); clear HO106; clear HB; have HO106 := n0_; have HO109 := n1_; have HB := n2_; clear n0_ n1_ n2_; clear hb ho9)))
    go_loopg [8, 24] k (fun kq v8 v24 w' => ∃ (x8_1 : List Int) (x24_1 : Int), v24 = .int .i64 x24_1 ∧ Aside0 (impl_spread.l0 kq a0 l1 a2 y104 x8_1 a0 x24_1 = some r) ∧ Aside0 (kq ≤ k) ∧ Aside0 (Kd.R (Kd.int .i64) 3 w' w.heap.size (fun k_ => some k_ ≠ (v8 : Value).ownBlock) v105 y104) ∧ Aside0 (Kd.R (Kd.int .i64) 3 w' w.heap.size (fun k_ => some k_ ≠ (v105 : Value).ownBlock) v8 x8_1) ∧ Aside0 (Below w.heap.size w w'))
    case atStart => exact ⟨(y107), (0), (by first | rfl | (simp; done) | (simp [*]; done)), H', ⟨Nat.le_refl _⟩, ⟨by (with_reducible repeat (first | apply Kd.R_alloc | apply Kd.R_drewN | apply Kd.R_drew)); exact Kd.R_mono HO106.out (fun _ hk => hk.2)⟩, ⟨by (with_reducible repeat (first | apply Kd.R_alloc | apply Kd.R_drewN | apply Kd.R_drew)); exact Kd.R_mono HO109.out (fun _ hk => hk.2)⟩, ⟨by repeat (first | (with_reducible first | exact HB.out | apply below_alloc | apply pw_below_drewN | apply below_drew1) | exact HB.out)⟩⟩
    case round =>
      clear H'
      try clear c1
      try clear p2
      try clear c4
      try clear c6
      obtain ⟨x8_1, x24_1, rfl, HA, HK1, HO_7, HO_8, HB⟩ := hrel
      cases gk with
      | zero => exact absurd HA.out (by simp [impl_spread.l0])
      | succ k1 =>
        have H := HA.out
        clear HA
        simp only [impl_spread.l0] at H
        by_cases c10 : x24_1 < a0
        · rw [if_pos c10] at H
          have c10b0 : decide (x24_1 < a0) = true := decide_eq_true c10
          clear c10
          by_cases c11 : x24_1 = a2
          · rw [if_pos c11] at H
            have c11b0 : (x24_1 == a2) = true := beq_iff_eq.mpr c11
            have c11b1 : (x24_1 != a2) = false := bne_eq_false_iff_eq.mpr c11
            clear c11
            have H' := Aside0.mk H
            clear H
            go_wp2
            repeat (go_quiet (fail); try go_wp2)
            go_roundg k1
            case measure => have := HK1.out; omega
            case rel => exact ⟨(x8_1), (wrap64 (x24_1 + 1)), (by first | rfl | (simp; done) | (simp [*]; done)), H', ⟨by have := HK1.out; omega⟩, ⟨by (with_reducible repeat (first | apply Kd.R_alloc | apply Kd.R_drewN | apply Kd.R_drew)); exact HO_7.out⟩, ⟨by (with_reducible repeat (first | apply Kd.R_alloc | apply Kd.R_drewN | apply Kd.R_drew)); exact HO_8.out⟩, ⟨by repeat (first | (with_reducible first | exact HB.out | apply below_alloc | apply pw_below_drewN | apply below_drew1) | exact HB.out)⟩⟩
          · rw [if_neg c11] at H
            have c11b0 : (x24_1 == a2) = false := beq_eq_false_iff_ne.mpr c11
            have c11b1 : (x24_1 != a2) = true := bne_iff_ne.mpr c11
            by_cases c12 : x8_1.length < 17592186044416
            · rw [if_pos c12] at H
              have LMc12 := Aside0.mk c12
              clear c12
              obtain ⟨y110, hy110⟩ : ∃ y_ : List Int, y_ = (x8_1 ++ [x24_1]) := ⟨_, rfl⟩
              replace H : (impl_spread.l0 k1 a0 l1 a2 y104 y110 a0 (wrap64 (x24_1 + 1))) = some r := by first | (rw [hy110]; with_reducible exact H) | (have H2_ := (Option.bind_some _ _).symm.trans H; rw [hy110]; with_reducible exact H2_) | (have H2_ := (Option.bind_some _ _).symm.trans H; with_reducible exact H2_) | with_reducible exact H | (rw [hy110]; exact H) | exact H
              have Ny110 := Aside0.mk hy110
              clear hy110
              have H' := Aside0.mk H
              clear H
              go_wp2_with (first | ((with_reducible refine gate_builtin (b := .append) (xs := #[.tmp 30, .tmp 32]) rfl ?_); at_builtin; refine Kd.R_append (Kd.int .i64) (w0 := w) w.heap.size rfl (.tmp 30) (.tmp 32) 22 3 (.int .i64 0) 8 rfl Try.underlying22 info3 rfl (by decide) (by omega) u8 x8_1 x24_1 [.int .i64 x24_1] (fun k_ => some k_ ≠ (v105 : Value).ownBlock) (fun _ => False) rfl rfl ?aP (fun _ hk => hk.elim) ?aF ?aO ?aB ?aS ?aL ?_; (case aP => exact rfl); (case aB => exact (by repeat (first | (with_reducible first | exact HB.out | apply below_alloc | apply pw_below_drewN | apply below_drew1) | exact HB.out))); (case aF => exact (fun k_ hk => Kd.fresh' (Kd.R_lt (by (with_reducible repeat (first | apply Kd.R_alloc | apply Kd.R_drewN | apply Kd.R_drew)); exact HO_7.out)) k_ hk)); (case aO => exact (by (with_reducible repeat (first | apply Kd.R_alloc | apply Kd.R_drewN | apply Kd.R_drew)); exact HO_8.out)); (case aS => exact (below_size (by repeat (first | (with_reducible first | exact HB.out | apply below_alloc | apply pw_below_drewN | apply below_drew1) | exact HB.out)))); (case aL => have := LMc12.out; omega); intro v111 w13 ho hb hg hat; rw [← Ny110.out] at ho; have n0_ := Aside0.mk (Kd.R_after (ok := (fun _ => True)) (by (with_reducible repeat (first | apply Kd.R_alloc | apply Kd.R_drewN | apply Kd.R_drew)); exact Kd.R_mono HO_7.out (fun _ hk => ⟨trivial, hk⟩)) hg hat); have n1_ := Aside0.mk (hb); have n2_ := Aside0.mk (ho); clear HO_7; clear HB; clear HO_8; have HO_7 := n0_; have HB := n1_; have HO112 := n2_; clear n0_ n1_ n2_; clear ho hb hg hat))
              repeat (go_quiet (first | ((with_reducible refine gate_builtin (b := .append) (xs := #[.tmp 30, .tmp 32]) rfl ?_); at_builtin; refine Kd.R_append (Kd.int .i64) (w0 := w) w.heap.size rfl (.tmp 30) (.tmp 32) 22 3 (.int .i64 0) 8 rfl Try.underlying22 info3 rfl (by decide) (by omega) u8 x8_1 x24_1 [.int .i64 x24_1] (fun k_ => some k_ ≠ (v105 : Value).ownBlock) (fun _ => False) rfl rfl ?aP (fun _ hk => hk.elim) ?aF ?aO ?aB ?aS ?aL ?_; (case aP => exact rfl); (case aB => exact (by repeat (first | (with_reducible first | exact HB.out | apply below_alloc | apply pw_below_drewN | apply below_drew1) | exact HB.out))); (case aF => exact (fun k_ hk => Kd.fresh' (Kd.R_lt (by (with_reducible repeat (first | apply Kd.R_alloc | apply Kd.R_drewN | apply Kd.R_drew)); exact HO_7.out)) k_ hk)); (case aO => exact (by (with_reducible repeat (first | apply Kd.R_alloc | apply Kd.R_drewN | apply Kd.R_drew)); exact HO_8.out)); (case aS => exact (below_size (by repeat (first | (with_reducible first | exact HB.out | apply below_alloc | apply pw_below_drewN | apply below_drew1) | exact HB.out)))); (case aL => have := LMc12.out; omega); intro v111 w13 ho hb hg hat; rw [← Ny110.out] at ho; have n0_ := Aside0.mk (Kd.R_after (ok := (fun _ => True)) (by (with_reducible repeat (first | apply Kd.R_alloc | apply Kd.R_drewN | apply Kd.R_drew)); exact Kd.R_mono HO_7.out (fun _ hk => ⟨trivial, hk⟩)) hg hat); have n1_ := Aside0.mk (hb); have n2_ := Aside0.mk (ho); clear HO_7; clear HB; clear HO_8; have HO_7 := n0_; have HB := n1_; have HO112 := n2_; clear n0_ n1_ n2_; clear ho hb hg hat)); try go_wp2_with (first | ((with_reducible refine gate_builtin (b := .append) (xs := #[.tmp 30, .tmp 32]) rfl ?_); at_builtin; refine Kd.R_append (Kd.int .i64) (w0 := w) w.heap.size rfl (.tmp 30) (.tmp 32) 22 3 (.int .i64 0) 8 rfl Try.underlying22 info3 rfl (by decide) (by omega) u8 x8_1 x24_1 [.int .i64 x24_1] (fun k_ => some k_ ≠ (v105 : Value).ownBlock) (fun _ => False) rfl rfl ?aP (fun _ hk => hk.elim) ?aF ?aO ?aB ?aS ?aL ?_; (case aP => exact rfl); (case aB => exact (by repeat (first | (with_reducible first | exact HB.out | apply below_alloc | apply pw_below_drewN | apply below_drew1) | exact HB.out))); (case aF => exact (fun k_ hk => Kd.fresh' (Kd.R_lt (by (with_reducible repeat (first | apply Kd.R_alloc | apply Kd.R_drewN | apply Kd.R_drew)); exact HO_7.out)) k_ hk)); (case aO => exact (by (with_reducible repeat (first | apply Kd.R_alloc | apply Kd.R_drewN | apply Kd.R_drew)); exact HO_8.out)); (case aS => exact (below_size (by repeat (first | (with_reducible first | exact HB.out | apply below_alloc | apply pw_below_drewN | apply below_drew1) | exact HB.out)))); (case aL => have := LMc12.out; omega); intro v111 w13 ho hb hg hat; rw [← Ny110.out] at ho; have n0_ := Aside0.mk (Kd.R_after (ok := (fun _ => True)) (by (with_reducible repeat (first | apply Kd.R_alloc | apply Kd.R_drewN | apply Kd.R_drew)); exact Kd.R_mono HO_7.out (fun _ hk => ⟨trivial, hk⟩)) hg hat); have n1_ := Aside0.mk (hb); have n2_ := Aside0.mk (ho); clear HO_7; clear HB; clear HO_8; have HO_7 := n0_; have HB := n1_; have HO112 := n2_; clear n0_ n1_ n2_; clear ho hb hg hat)))
              go_roundg k1
              case measure => have := HK1.out; omega
              case rel => exact ⟨(y110), (wrap64 (x24_1 + 1)), (by first | rfl | (simp; done) | (simp [*]; done)), H', ⟨by have := HK1.out; omega⟩, ⟨by (with_reducible repeat (first | apply Kd.R_alloc | apply Kd.R_drewN | apply Kd.R_drew)); exact Kd.R_mono HO_7.out (fun _ hk => hk.2)⟩, ⟨by (with_reducible repeat (first | apply Kd.R_alloc | apply Kd.R_drewN | apply Kd.R_drew)); exact HO112.out⟩, ⟨by repeat (first | (with_reducible first | exact HB.out | apply below_alloc | apply pw_below_drewN | apply below_drew1) | exact HB.out)⟩⟩
            · rw [if_neg c12] at H
              exact absurd H (by simp)
        · rw [if_neg c10] at H
          have c10b0 : decide (x24_1 < a0) = false := decide_eq_false c10
          clear c10
          replace H := Option.bind_eq_some_iff.mp H
          obtain ⟨t113, A140, H⟩ := H
          replace H : ((slices_SortStableFunc_int_int_of_impl_spread_1.f k1 x8_1 t113).bind fun t117 => (if 0 ≤ a0 then (if (a0 : Int).toNat ≤ 35184372088832 then (impl_spread.l1 k1 l1 y104 t117 (List.replicate (a0 : Int).toNat 0) (x8_1.length : Int) 0 t113) else (none)) else (none))) = some r := H
          have A14 := Aside0.mk A140
          clear A140
          replace H := Option.bind_eq_some_iff.mp H
          obtain ⟨t117, A150, H⟩ := H
          replace H : (if 0 ≤ a0 then (if (a0 : Int).toNat ≤ 35184372088832 then (impl_spread.l1 k1 l1 y104 t117 (List.replicate (a0 : Int).toNat 0) (x8_1.length : Int) 0 t113) else (none)) else (none)) = some r := H
          have A15 := Aside0.mk A150
          clear A150
          by_cases c16 : 0 ≤ a0
          · rw [if_pos c16] at H
            have c16b0 := eq_true c16
            have c16b1 : decide (0 ≤ a0) = true := decide_eq_true c16
            clear c16
            by_cases c17 : (a0 : Int).toNat ≤ 35184372088832
            · rw [if_pos c17] at H
              have c17b0 := eq_true c17
              have c17b1 : decide ((a0 : Int).toNat ≤ 35184372088832) = true := decide_eq_true c17
              clear c17
              obtain ⟨y118, hy118⟩ : ∃ y_ : List Int, y_ = (List.replicate (a0 : Int).toNat 0) := ⟨_, rfl⟩
              replace H : (impl_spread.l1 k1 l1 y104 t117 y118 (x8_1.length : Int) 0 t113) = some r := by first | (rw [hy118]; with_reducible exact H) | (have H2_ := (Option.bind_some _ _).symm.trans H; rw [hy118]; with_reducible exact H2_) | (have H2_ := (Option.bind_some _ _).symm.trans H; with_reducible exact H2_) | with_reducible exact H | (rw [hy118]; exact H) | exact H
              have Ny118 := Aside0.mk hy118
              clear hy118
              have H' := Aside0.mk H
              clear H
              go_wp2_with (first | (go_at_call 59; (with_reducible refine (impl_loadsOf.calls k1 a0 _ _ l1 t113 _ ?side1 ?side2 A14.out).mono ?_); (case side1 => repeat (first | exact (Kd.C_below HR1.out HB.out) | (with_reducible refine Kd.C_alloc ?_ _) | (with_reducible refine Kd.C_drewN ?_ _) | (with_reducible refine Kd.C_drew ?_))); (case side2 => exact HC1.out); rintro e w18 ⟨v114, rfl, ho0, hb⟩; have n0_ := Aside0.mk (Kd.R_elder' (by (with_reducible repeat (first | apply Kd.R_alloc | apply Kd.R_drewN | apply Kd.R_drew)); exact HO_7.out) (Kd.R_base ho0) hb); have n1_ := Aside0.mk (Kd.R_elder' (by (with_reducible repeat (first | apply Kd.R_alloc | apply Kd.R_drewN | apply Kd.R_drew)); exact HO_8.out) (Kd.R_base ho0) hb); have n2_ := Aside0.mk (Kd.R_lower (Kd.R_new' (Kd.R_new' ho0 (Kd.R_lt (by (with_reducible repeat (first | apply Kd.R_alloc | apply Kd.R_drewN | apply Kd.R_drew)); exact HO_7.out))) (Kd.R_lt (by (with_reducible repeat (first | apply Kd.R_alloc | apply Kd.R_drewN | apply Kd.R_drew)); exact HO_8.out))) (below_size (by repeat (first | (with_reducible first | exact HB.out | apply below_alloc | apply pw_below_drewN | apply below_drew1) | exact HB.out)))); have n3_ := Aside0.mk (below_step (by repeat (first | (with_reducible first | exact HB.out | apply below_alloc | apply pw_below_drewN | apply below_drew1) | exact HB.out)) hb); clear HO_7; clear HO_8; clear HB; have HO_7 := n0_; have HO_8 := n1_; have HO115 := n2_; have HB := n3_; clear n0_ n1_ n2_ n3_; (try clear hb); (try clear hb2); (try clear hk); (try clear hi); (try clear ho0)) | ((with_reducible refine gate_dst (N := 10) rfl ?_); refine box_event ?hg (N := 10) ?hd (cs := #[.slice none 0 0]) (t := 22) ?hr ?_; (case hd => rfl); (case hg => rfl); (case hr => first | (go_simp; done) | (go_simp; rfl)); intro gb116 hg w19 hbox hb; have n0_ := Aside0.mk (Kd.R_below (by (with_reducible repeat (first | apply Kd.R_alloc | apply Kd.R_drewN | apply Kd.R_drew)); exact HO_7.out) hb); have n1_ := Aside0.mk (Kd.R_below (by (with_reducible repeat (first | apply Kd.R_alloc | apply Kd.R_drewN | apply Kd.R_drew)); exact HO_8.out) hb); have n2_ := Aside0.mk (Kd.R_below (by (with_reducible repeat (first | apply Kd.R_alloc | apply Kd.R_drewN | apply Kd.R_drew)); exact HO115.out) hb); have n3_ := Aside0.mk (below_step (by repeat (first | (with_reducible first | exact HB.out | apply below_alloc | apply pw_below_drewN | apply below_drew1) | exact HB.out)) hb); have n4_ := Aside0.mk (hbox); have n5_ := Aside0.mk ((by rw [hg]; exact (below_size (by repeat (first | (with_reducible first | exact HB.out | apply below_alloc | apply pw_below_drewN | apply below_drew1) | exact HB.out))) : w.heap.size ≤ gb116)); have n6_ := Aside0.mk ((by rw [hg]; exact (below_size (by repeat (first | (with_reducible first | exact HB.out | apply below_alloc | apply pw_below_drewN | apply below_drew1) | exact HB.out))) : w.heap.size ≤ gb116)); clear HO_7; clear HO_8; clear HO115; clear HB; have HO_7 := n0_; have HO_8 := n1_; have HO115 := n2_; have HB := n3_; have BK116 := n4_; have GW116 := n5_; have GE116 := n6_; clear n0_ n1_ n2_ n3_ n4_ n5_ n6_; clear hb hbox hg; obtain ⟨Ao20, co20, eo20⟩ := Kd.R_slice HO115.out; subst eo20; have hcz21_0 : w19.cell? ⟨gb116, 0, none⟩ = some (.slice none 0 0) := (blk_cell BK116.out 0).trans rfl; have hfz21_0 := blk_frozen BK116.out 0) | ((with_reducible refine gate_store (t := 22) (p := 10) rfl ?_); (try (rw [drewN_self w19]; generalize hq_ : World.drewN w19 _ = w19; have n0_ := Aside0.mk (Kd.R_at hq_ HO_7.out); have n1_ := Aside0.mk (Kd.R_at hq_ HO_8.out); have n2_ := Aside0.mk (Kd.R_at hq_ HO115.out); have n3_ := Aside0.mk (blk_at hq_ BK116.out); have n4_ := Aside0.mk (below_at hq_ HB.out); clear hq_ HO_7 HO_8 HO115 BK116 HB; have HO_7 := n0_; have HO_8 := n1_; have HO115 := n2_; have BK116 := n3_; have HB := n4_; clear n0_ n1_ n2_ n3_ n4_)); refine store_event (t := 22) (p := 10) (v := ?vo_w22) (w1 := (w19.setCell ⟨gb116, 0, none⟩ (.slice Ao20 t113.length co20))) ?hg ?ho ?hn ?hr ?_; (case ho => rfl); (case hg => rfl); (case hn => rfl); (case hr => first | (go_simp; done) | (go_simp; rfl)); intro w22 hw; have n0_ : Aside0 (Kd.R (Kd.int .i64) 3 w22 w.heap.size (fun k_ => some k_ ≠ (u8 : Value).ownBlock ∧ some k_ ≠ (.slice Ao20 t113.length co20 : Value).ownBlock) v105 y104) := ⟨(by rw [hw]; exact (by (with_reducible repeat (first | apply Kd.R_alloc | apply Kd.R_drewN | apply Kd.R_drew)); exact Kd.R_mono (Kd.R_far (p := ⟨gb116, 0, none⟩) (Kd.R_types HO_7.out BK116.out (by decide)) (fun _ hk => hk.2) (.slice Ao20 t113.length co20)) (fun _ hk => ⟨hk.1.1, hk.1.2⟩)))⟩; have n1_ : Aside0 (Kd.R (Kd.int .i64) 3 w22 w.heap.size (fun k_ => some k_ ≠ (v105 : Value).ownBlock ∧ some k_ ≠ (.slice Ao20 t113.length co20 : Value).ownBlock) u8 x8_1) := ⟨(by rw [hw]; exact (by (with_reducible repeat (first | apply Kd.R_alloc | apply Kd.R_drewN | apply Kd.R_drew)); exact Kd.R_mono (Kd.R_far (p := ⟨gb116, 0, none⟩) (Kd.R_types HO_8.out BK116.out (by decide)) (fun _ hk => hk.2) (.slice Ao20 t113.length co20)) (fun _ hk => ⟨hk.1.1, hk.1.2⟩)))⟩; have n2_ : Aside0 (Kd.R (Kd.int .i64) 3 w22 w.heap.size (fun k_ => some k_ ≠ (v105 : Value).ownBlock ∧ some k_ ≠ (u8 : Value).ownBlock) (.slice Ao20 t113.length co20) t113) := ⟨(by rw [hw]; exact (by (with_reducible repeat (first | apply Kd.R_alloc | apply Kd.R_drewN | apply Kd.R_drew)); exact Kd.R_mono (Kd.R_far (p := ⟨gb116, 0, none⟩) (Kd.R_types HO115.out BK116.out (by decide)) (fun _ hk => hk.2) (.slice Ao20 t113.length co20)) (fun _ hk => ⟨hk.1.1.2, hk.1.2⟩)))⟩; have n3_ : Aside0 (w22.heap[gb116]? = some (.cells #[.slice Ao20 t113.length co20] 22 (0, 0))) := ⟨(by rw [hw]; exact (by (with_reducible repeat (first | refine blk_drewN ?_ _ | refine blk_drew ?_ | refine blk_alloc ?_ _)); refine blk_put (cs := #[.slice none 0 0]) ?_ 0 _ rfl; (with_reducible repeat (first | refine blk_drewN ?_ _ | refine blk_drew ?_ | refine blk_alloc ?_ _)); exact BK116.out))⟩; have n4_ : Aside0 (Below w.heap.size w w22) := ⟨(by rw [hw]; exact (by repeat (first | (with_reducible first | exact HB.out | apply below_alloc | apply pw_below_drewN | apply below_drew1 | refine below_set ?_ GE116.out) | exact HB.out)))⟩; clear hw; clear HO_7; clear HO_8; clear HO115; clear BK116; clear HB; have HO_7 := n0_; have HO_8 := n1_; have HO115 := n2_; have BK116 := n3_; have HB := n4_; clear n0_ n1_ n2_ n3_ n4_; obtain ⟨Ao23, co23, eo23⟩ := Kd.R_slice HO_8.out; subst eo23) | (go_at_call 91; (with_reducible refine (slices_SortStableFunc_int_int_of_impl_spread_1.calls k1 (fun k_ => some k_ = (.slice Ao23 x8_1.length co23 : Value).ownBlock) (.slice Ao23 x8_1.length co23) x8_1 gb116 Ao20 co20 t113 t117 w _ ?side1 ?side2 ?side3 ?side4 ?side5 A15.out).mono ?_); (case side1 => repeat (first | (with_reducible first | exact HB.out | apply below_alloc | apply pw_below_drewN | apply below_drew1 | refine below_set ?_ GE116.out) | exact HB.out)); (case side2 => exact Kd.R_tight rfl HO_8.out); (case side3 => (with_reducible repeat (first | refine blk_drewN ?_ _ | refine blk_drew ?_ | refine blk_alloc ?_ _)); exact BK116.out); (case side4 => exact Kd.C_kept_own (HO115.out) (fun k_ hk_ hs_ => (hk_.2) hs_)); (case side5 => exact (Kd.R_reads' HO115.out).2.1); rintro e w24 ⟨rfl, hy0, hb, hkp⟩; have n0_ := Aside0.mk (Kd.R_mono (ok' := fun k_ => some k_ ≠ (.slice Ao23 x8_1.length co23 : Value).ownBlock ∧ some k_ ≠ (.slice Ao20 t113.length co20 : Value).ownBlock) (Kd.R_keptB (HO_7.out) hkp (fun k_ hk_ hs_ => (hk_.1) hs_)) (fun k_ hk_ => ⟨hk_.1.1, hk_.1.2⟩)); have n1_ := Aside0.mk (Kd.R_reok rfl hy0 (fun k_ e_ => HO_8.out.1 k_ e_)); have n2_ := Aside0.mk (Kd.R_mono (ok' := fun k_ => some k_ ≠ (v105 : Value).ownBlock ∧ some k_ ≠ (.slice Ao23 x8_1.length co23 : Value).ownBlock) (Kd.R_keptB (HO115.out) hkp (fun k_ hk_ hs_ => (hk_.2) hs_)) (fun k_ hk_ => ⟨hk_.1.1, hk_.1.2⟩)); have n3_ := Aside0.mk (blk_kept (by (with_reducible repeat (first | refine blk_drewN ?_ _ | refine blk_drew ?_ | refine blk_alloc ?_ _)); exact BK116.out) hkp (fun hs_ => (fun e_ => (Kd.R_ne HO_8.out BK116.out (by decide)) e_) hs_)); have n4_ := Aside0.mk (hb); clear HO_7; clear HO_8; clear HO115; clear BK116; clear HB; have HO_7 := n0_; have HO_8 := n1_; have HO115 := n2_; have BK116 := n3_; have HB := n4_; clear n0_ n1_ n2_ n3_ n4_; (try clear hb); (try clear hkp); (try clear hy0)) | ((with_reducible refine gate_dst (N := 42) rfl ?_); refine Kd.R_make (Kd.int .i64) _ 3 rfl (N := 42) rfl 22 _ _ rfl a0 rfl rfl Try.underlying22 (.int .i64 0) 8 info3 rfl (by decide) (by omega) 0 (ok := fun _ => True) (okp := fun _ => True) rfl (fun _ hk => hk) trivial (of_decide_eq_true (by first | (with_reducible assumption) | assumption)) (Nat.le_trans (Nat.mul_le_mul_right _ (of_decide_eq_true (by first | (with_reducible assumption) | assumption) : a0.toNat ≤ 35184372088832)) (by omega)) (Below.refl _ _) (Nat.le_refl _) ?_; intro v119 w25 ho26 hb hg_ hnew_; clear hg_ hnew_; (first | rw [← Ny118.out] at ho26 | (simp only [Int.reduceToNat] at ho26; rw [← Ny118.out] at ho26)); have n0_ := Aside0.mk (Kd.R_elder' (by (with_reducible repeat (first | apply Kd.R_alloc | apply Kd.R_drewN | apply Kd.R_drew)); exact HO_7.out) (Kd.R_base ho26) hb); have n1_ := Aside0.mk (Kd.R_elder' (by (with_reducible repeat (first | apply Kd.R_alloc | apply Kd.R_drewN | apply Kd.R_drew)); exact HO_8.out) (Kd.R_base ho26) hb); have n2_ := Aside0.mk (Kd.R_elder' (by (with_reducible repeat (first | apply Kd.R_alloc | apply Kd.R_drewN | apply Kd.R_drew)); exact HO115.out) (Kd.R_base ho26) hb); have n3_ := Aside0.mk (Kd.R_lower (Kd.R_new' (Kd.R_new' (Kd.R_new' ho26 (Kd.R_lt (by (with_reducible repeat (first | apply Kd.R_alloc | apply Kd.R_drewN | apply Kd.R_drew)); exact HO_7.out))) (Kd.R_lt (by (with_reducible repeat (first | apply Kd.R_alloc | apply Kd.R_drewN | apply Kd.R_drew)); exact HO_8.out))) (Kd.R_lt (by (with_reducible repeat (first | apply Kd.R_alloc | apply Kd.R_drewN | apply Kd.R_drew)); exact HO115.out))) (below_size (by repeat (first | (with_reducible first | exact HB.out | apply below_alloc | apply pw_below_drewN | apply below_drew1 | refine below_set ?_ GE116.out) | exact HB.out)))); have n4_ := Aside0.mk (blk_below (g := gb116) (o := .cells #[.slice Ao20 t113.length co20] 22 (0, 0)) (by (with_reducible repeat (first | refine blk_drewN ?_ _ | refine blk_drew ?_ | refine blk_alloc ?_ _)); exact BK116.out) hb); have n5_ := Aside0.mk (below_step (by repeat (first | (with_reducible first | exact HB.out | apply below_alloc | apply pw_below_drewN | apply below_drew1 | refine below_set ?_ GE116.out) | exact HB.out)) hb); clear HO_7; clear HO_8; clear HO115; clear BK116; clear HB; have HO_7 := n0_; have HO_8 := n1_; have HO115 := n2_; have HO120 := n3_; have BK116 := n4_; have HB := n5_; clear n0_ n1_ n2_ n3_ n4_ n5_; clear hb ho26))
              repeat (go_quiet (first | (go_at_call 59; (with_reducible refine (impl_loadsOf.calls k1 a0 _ _ l1 t113 _ ?side1 ?side2 A14.out).mono ?_); (case side1 => repeat (first | exact (Kd.C_below HR1.out HB.out) | (with_reducible refine Kd.C_alloc ?_ _) | (with_reducible refine Kd.C_drewN ?_ _) | (with_reducible refine Kd.C_drew ?_))); (case side2 => exact HC1.out); rintro e w18 ⟨v114, rfl, ho0, hb⟩; have n0_ := Aside0.mk (Kd.R_elder' (by (with_reducible repeat (first | apply Kd.R_alloc | apply Kd.R_drewN | apply Kd.R_drew)); exact HO_7.out) (Kd.R_base ho0) hb); have n1_ := Aside0.mk (Kd.R_elder' (by (with_reducible repeat (first | apply Kd.R_alloc | apply Kd.R_drewN | apply Kd.R_drew)); exact HO_8.out) (Kd.R_base ho0) hb); have n2_ := Aside0.mk (Kd.R_lower (Kd.R_new' (Kd.R_new' ho0 (Kd.R_lt (by (with_reducible repeat (first | apply Kd.R_alloc | apply Kd.R_drewN | apply Kd.R_drew)); exact HO_7.out))) (Kd.R_lt (by (with_reducible repeat (first | apply Kd.R_alloc | apply Kd.R_drewN | apply Kd.R_drew)); exact HO_8.out))) (below_size (by repeat (first | (with_reducible first | exact HB.out | apply below_alloc | apply pw_below_drewN | apply below_drew1) | exact HB.out)))); have n3_ := Aside0.mk (below_step (by repeat (first | (with_reducible first | exact HB.out | apply below_alloc | apply pw_below_drewN | apply below_drew1) | exact HB.out)) hb); clear HO_7; clear HO_8; clear HB; have HO_7 := n0_; have HO_8 := n1_; have HO115 := n2_; have HB := n3_; clear n0_ n1_ n2_ n3_; (try clear hb); (try clear hb2); (try clear hk); (try clear hi); (try clear ho0)) | ((with_reducible refine gate_dst (N := 10) rfl ?_); refine box_event ?hg (N := 10) ?hd (cs := #[.slice none 0 0]) (t := 22) ?hr ?_; (case hd => rfl); (case hg => rfl); (case hr => first | (go_simp; done) | (go_simp; rfl)); intro gb116 hg w19 hbox hb; have n0_ := Aside0.mk (Kd.R_below (by (with_reducible repeat (first | apply Kd.R_alloc | apply Kd.R_drewN | apply Kd.R_drew)); exact HO_7.out) hb); have n1_ := Aside0.mk (Kd.R_below (by (with_reducible repeat (first | apply Kd.R_alloc | apply Kd.R_drewN | apply Kd.R_drew)); exact HO_8.out) hb); have n2_ := Aside0.mk (Kd.R_below (by (with_reducible repeat (first | apply Kd.R_alloc | apply Kd.R_drewN | apply Kd.R_drew)); exact HO115.out) hb); have n3_ := Aside0.mk (below_step (by repeat (first | (with_reducible first | exact HB.out | apply below_alloc | apply pw_below_drewN | apply below_drew1) | exact HB.out)) hb); have n4_ := Aside0.mk (hbox); have n5_ := Aside0.mk ((by rw [hg]; exact (below_size (by repeat (first | (with_reducible first | exact HB.out | apply below_alloc | apply pw_below_drewN | apply below_drew1) | exact HB.out))) : w.heap.size ≤ gb116)); have n6_ := Aside0.mk ((by rw [hg]; exact (below_size (by repeat (first | (with_reducible first | exact HB.out | apply below_alloc | apply pw_below_drewN | apply below_drew1) | exact HB.out))) : w.heap.size ≤ gb116)); clear HO_7; clear HO_8; clear HO115; clear HB; have HO_7 := n0_; have HO_8 := n1_; have HO115 := n2_; have HB := n3_; have BK116 := n4_; have GW116 := n5_; have GE116 := n6_; clear n0_ n1_ n2_ n3_ n4_ n5_ n6_; clear hb hbox hg; obtain ⟨Ao20, co20, eo20⟩ := Kd.R_slice HO115.out; subst eo20; have hcz21_0 : w19.cell? ⟨gb116, 0, none⟩ = some (.slice none 0 0) := (blk_cell BK116.out 0).trans rfl; have hfz21_0 := blk_frozen BK116.out 0) | ((with_reducible refine gate_store (t := 22) (p := 10) rfl ?_); (try (rw [drewN_self w19]; generalize hq_ : World.drewN w19 _ = w19; have n0_ := Aside0.mk (Kd.R_at hq_ HO_7.out); have n1_ := Aside0.mk (Kd.R_at hq_ HO_8.out); have n2_ := Aside0.mk (Kd.R_at hq_ HO115.out); have n3_ := Aside0.mk (blk_at hq_ BK116.out); have n4_ := Aside0.mk (below_at hq_ HB.out); clear hq_ HO_7 HO_8 HO115 BK116 HB; have HO_7 := n0_; have HO_8 := n1_; have HO115 := n2_; have BK116 := n3_; have HB := n4_; clear n0_ n1_ n2_ n3_ n4_)); refine store_event (t := 22) (p := 10) (v := ?vo_w22) (w1 := (w19.setCell ⟨gb116, 0, none⟩ (.slice Ao20 t113.length co20))) ?hg ?ho ?hn ?hr ?_; (case ho => rfl); (case hg => rfl); (case hn => rfl); (case hr => first | (go_simp; done) | (go_simp; rfl)); intro w22 hw; have n0_ : Aside0 (Kd.R (Kd.int .i64) 3 w22 w.heap.size (fun k_ => some k_ ≠ (u8 : Value).ownBlock ∧ some k_ ≠ (.slice Ao20 t113.length co20 : Value).ownBlock) v105 y104) := ⟨(by rw [hw]; exact (by (with_reducible repeat (first | apply Kd.R_alloc | apply Kd.R_drewN | apply Kd.R_drew)); exact Kd.R_mono (Kd.R_far (p := ⟨gb116, 0, none⟩) (Kd.R_types HO_7.out BK116.out (by decide)) (fun _ hk => hk.2) (.slice Ao20 t113.length co20)) (fun _ hk => ⟨hk.1.1, hk.1.2⟩)))⟩; have n1_ : Aside0 (Kd.R (Kd.int .i64) 3 w22 w.heap.size (fun k_ => some k_ ≠ (v105 : Value).ownBlock ∧ some k_ ≠ (.slice Ao20 t113.length co20 : Value).ownBlock) u8 x8_1) := ⟨(by rw [hw]; exact (by (with_reducible repeat (first | apply Kd.R_alloc | apply Kd.R_drewN | apply Kd.R_drew)); exact Kd.R_mono (Kd.R_far (p := ⟨gb116, 0, none⟩) (Kd.R_types HO_8.out BK116.out (by decide)) (fun _ hk => hk.2) (.slice Ao20 t113.length co20)) (fun _ hk => ⟨hk.1.1, hk.1.2⟩)))⟩; have n2_ : Aside0 (Kd.R (Kd.int .i64) 3 w22 w.heap.size (fun k_ => some k_ ≠ (v105 : Value).ownBlock ∧ some k_ ≠ (u8 : Value).ownBlock) (.slice Ao20 t113.length co20) t113) := ⟨(by rw [hw]; exact (by (with_reducible repeat (first | apply Kd.R_alloc | apply Kd.R_drewN | apply Kd.R_drew)); exact Kd.R_mono (Kd.R_far (p := ⟨gb116, 0, none⟩) (Kd.R_types HO115.out BK116.out (by decide)) (fun _ hk => hk.2) (.slice Ao20 t113.length co20)) (fun _ hk => ⟨hk.1.1.2, hk.1.2⟩)))⟩; have n3_ : Aside0 (w22.heap[gb116]? = some (.cells #[.slice Ao20 t113.length co20] 22 (0, 0))) := ⟨(by rw [hw]; exact (by (with_reducible repeat (first | refine blk_drewN ?_ _ | refine blk_drew ?_ | refine blk_alloc ?_ _)); refine blk_put (cs := #[.slice none 0 0]) ?_ 0 _ rfl; (with_reducible repeat (first | refine blk_drewN ?_ _ | refine blk_drew ?_ | refine blk_alloc ?_ _)); exact BK116.out))⟩; have n4_ : Aside0 (Below w.heap.size w w22) := ⟨(by rw [hw]; exact (by repeat (first | (with_reducible first | exact HB.out | apply below_alloc | apply pw_below_drewN | apply below_drew1 | refine below_set ?_ GE116.out) | exact HB.out)))⟩; clear hw; clear HO_7; clear HO_8; clear HO115; clear BK116; clear HB; have HO_7 := n0_; have HO_8 := n1_; have HO115 := n2_; have BK116 := n3_; have HB := n4_; clear n0_ n1_ n2_ n3_ n4_; obtain ⟨Ao23, co23, eo23⟩ := Kd.R_slice HO_8.out; subst eo23) | (go_at_call 91; (with_reducible refine (slices_SortStableFunc_int_int_of_impl_spread_1.calls k1 (fun k_ => some k_ = (.slice Ao23 x8_1.length co23 : Value).ownBlock) (.slice Ao23 x8_1.length co23) x8_1 gb116 Ao20 co20 t113 t117 w _ ?side1 ?side2 ?side3 ?side4 ?side5 A15.out).mono ?_); (case side1 => repeat (first | (with_reducible first | exact HB.out | apply below_alloc | apply pw_below_drewN | apply below_drew1 | refine below_set ?_ GE116.out) | exact HB.out)); (case side2 => exact Kd.R_tight rfl HO_8.out); (case side3 => (with_reducible repeat (first | refine blk_drewN ?_ _ | refine blk_drew ?_ | refine blk_alloc ?_ _)); exact BK116.out); (case side4 => exact Kd.C_kept_own (HO115.out) (fun k_ hk_ hs_ => (hk_.2) hs_)); (case side5 => exact (Kd.R_reads' HO115.out).2.1); rintro e w24 ⟨rfl, hy0, hb, hkp⟩; have n0_ := Aside0.mk (Kd.R_mono (ok' := fun k_ => some k_ ≠ (.slice Ao23 x8_1.length co23 : Value).ownBlock ∧ some k_ ≠ (.slice Ao20 t113.length co20 : Value).ownBlock) (Kd.R_keptB (HO_7.out) hkp (fun k_ hk_ hs_ => (hk_.1) hs_)) (fun k_ hk_ => ⟨hk_.1.1, hk_.1.2⟩)); have n1_ := Aside0.mk (Kd.R_reok rfl hy0 (fun k_ e_ => HO_8.out.1 k_ e_)); have n2_ := Aside0.mk (Kd.R_mono (ok' := fun k_ => some k_ ≠ (v105 : Value).ownBlock ∧ some k_ ≠ (.slice Ao23 x8_1.length co23 : Value).ownBlock) (Kd.R_keptB (HO115.out) hkp (fun k_ hk_ hs_ => (hk_.2) hs_)) (fun k_ hk_ => ⟨hk_.1.1, hk_.1.2⟩)); have n3_ := Aside0.mk (blk_kept (by (with_reducible repeat (first | refine blk_drewN ?_ _ | refine blk_drew ?_ | refine blk_alloc ?_ _)); exact BK116.out) hkp (fun hs_ => (fun e_ => (Kd.R_ne HO_8.out BK116.out (by decide)) e_) hs_)); have n4_ := Aside0.mk (hb); clear HO_7; clear HO_8; clear HO115; clear BK116; clear HB; have HO_7 := n0_; have HO_8 := n1_; have HO115 := n2_; have BK116 := n3_; have HB := n4_; clear n0_ n1_ n2_ n3_ n4_; (try clear hb); (try clear hkp); (try clear hy0)) | ((with_reducible refine gate_dst (N := 42) rfl ?_); refine Kd.R_make (Kd.int .i64) _ 3 rfl (N := 42) rfl 22 _ _ rfl a0 rfl rfl Try.underlying22 (.int .i64 0) 8 info3 rfl (by decide) (by omega) 0 (ok := fun _ => True) (okp := fun _ => True) rfl (fun _ hk => hk) trivial (of_decide_eq_true (by first | (with_reducible assumption) | assumption)) (Nat.le_trans (Nat.mul_le_mul_right _ (of_decide_eq_true (by first | (with_reducible assumption) | assumption) : a0.toNat ≤ 35184372088832)) (by omega)) (Below.refl _ _) (Nat.le_refl _) ?_; intro v119 w25 ho26 hb hg_ hnew_; clear hg_ hnew_; (first | rw [← Ny118.out] at ho26 | (simp only [Int.reduceToNat] at ho26; rw [← Ny118.out] at ho26)); have n0_ := Aside0.mk (Kd.R_elder' (by (with_reducible repeat (first | apply Kd.R_alloc | apply Kd.R_drewN | apply Kd.R_drew)); exact HO_7.out) (Kd.R_base ho26) hb); have n1_ := Aside0.mk (Kd.R_elder' (by (with_reducible repeat (first | apply Kd.R_alloc | apply Kd.R_drewN | apply Kd.R_drew)); exact HO_8.out) (Kd.R_base ho26) hb); have n2_ := Aside0.mk (Kd.R_elder' (by (with_reducible repeat (first | apply Kd.R_alloc | apply Kd.R_drewN | apply Kd.R_drew)); exact HO115.out) (Kd.R_base ho26) hb); have n3_ := Aside0.mk (Kd.R_lower (Kd.R_new' (Kd.R_new' (Kd.R_new' ho26 (Kd.R_lt (by (with_reducible repeat (first | apply Kd.R_alloc | apply Kd.R_drewN | apply Kd.R_drew)); exact HO_7.out))) (Kd.R_lt (by (with_reducible repeat (first | apply Kd.R_alloc | apply Kd.R_drewN | apply Kd.R_drew)); exact HO_8.out))) (Kd.R_lt (by (with_reducible repeat (first | apply Kd.R_alloc | apply Kd.R_drewN | apply Kd.R_drew)); exact HO115.out))) (below_size (by repeat (first | (with_reducible first | exact HB.out | apply below_alloc | apply pw_below_drewN | apply below_drew1 | refine below_set ?_ GE116.out) | exact HB.out)))); have n4_ := Aside0.mk (blk_below (g := gb116) (o := .cells #[.slice Ao20 t113.length co20] 22 (0, 0)) (by (with_reducible repeat (first | refine blk_drewN ?_ _ | refine blk_drew ?_ | refine blk_alloc ?_ _)); exact BK116.out) hb); have n5_ := Aside0.mk (below_step (by repeat (first | (with_reducible first | exact HB.out | apply below_alloc | apply pw_below_drewN | apply below_drew1 | refine below_set ?_ GE116.out) | exact HB.out)) hb); clear HO_7; clear HO_8; clear HO115; clear BK116; clear HB; have HO_7 := n0_; have HO_8 := n1_; have HO115 := n2_; have HO120 := n3_; have BK116 := n4_; have HB := n5_; clear n0_ n1_ n2_ n3_ n4_ n5_; clear hb ho26)); try go_wp2_with (first | (go_at_call 59; (with_reducible refine (impl_loadsOf.calls k1 a0 _ _ l1 t113 _ ?side1 ?side2 A14.out).mono ?_); (case side1 => repeat (first | exact (Kd.C_below HR1.out HB.out) | (with_reducible refine Kd.C_alloc ?_ _) | (with_reducible refine Kd.C_drewN ?_ _) | (with_reducible refine Kd.C_drew ?_))); (case side2 => exact HC1.out); rintro e w18 ⟨v114, rfl, ho0, hb⟩; have n0_ := Aside0.mk (Kd.R_elder' (by (with_reducible repeat (first | apply Kd.R_alloc | apply Kd.R_drewN | apply Kd.R_drew)); exact HO_7.out) (Kd.R_base ho0) hb); have n1_ := Aside0.mk (Kd.R_elder' (by (with_reducible repeat (first | apply Kd.R_alloc | apply Kd.R_drewN | apply Kd.R_drew)); exact HO_8.out) (Kd.R_base ho0) hb); have n2_ := Aside0.mk (Kd.R_lower (Kd.R_new' (Kd.R_new' ho0 (Kd.R_lt (by (with_reducible repeat (first | apply Kd.R_alloc | apply Kd.R_drewN | apply Kd.R_drew)); exact HO_7.out))) (Kd.R_lt (by (with_reducible repeat (first | apply Kd.R_alloc | apply Kd.R_drewN | apply Kd.R_drew)); exact HO_8.out))) (below_size (by repeat (first | (with_reducible first | exact HB.out | apply below_alloc | apply pw_below_drewN | apply below_drew1) | exact HB.out)))); have n3_ := Aside0.mk (below_step (by repeat (first | (with_reducible first | exact HB.out | apply below_alloc | apply pw_below_drewN | apply below_drew1) | exact HB.out)) hb); clear HO_7; clear HO_8; clear HB; have HO_7 := n0_; have HO_8 := n1_; have HO115 := n2_; have HB := n3_; clear n0_ n1_ n2_ n3_; (try clear hb); (try clear hb2); (try clear hk); (try clear hi); (try clear ho0)) | ((with_reducible refine gate_dst (N := 10) rfl ?_); refine box_event ?hg (N := 10) ?hd (cs := #[.slice none 0 0]) (t := 22) ?hr ?_; (case hd => rfl); (case hg => rfl); (case hr => first | (go_simp; done) | (go_simp; rfl)); intro gb116 hg w19 hbox hb; have n0_ := Aside0.mk (Kd.R_below (by (with_reducible repeat (first | apply Kd.R_alloc | apply Kd.R_drewN | apply Kd.R_drew)); exact HO_7.out) hb); have n1_ := Aside0.mk (Kd.R_below (by (with_reducible repeat (first | apply Kd.R_alloc | apply Kd.R_drewN | apply Kd.R_drew)); exact HO_8.out) hb); have n2_ := Aside0.mk (Kd.R_below (by (with_reducible repeat (first | apply Kd.R_alloc | apply Kd.R_drewN | apply Kd.R_drew)); exact HO115.out) hb); have n3_ := Aside0.mk (below_step (by repeat (first | (with_reducible first | exact HB.out | apply below_alloc | apply pw_below_drewN | apply below_drew1) | exact HB.out)) hb); have n4_ := Aside0.mk (hbox); have n5_ := Aside0.mk ((by rw [hg]; exact (below_size (by repeat (first | (with_reducible first | exact HB.out | apply below_alloc | apply pw_below_drewN | apply below_drew1) | exact HB.out))) : w.heap.size ≤ gb116)); have n6_ := Aside0.mk ((by rw [hg]; exact (below_size (by repeat (first | (with_reducible first | exact HB.out | apply below_alloc | apply pw_below_drewN | apply below_drew1) | exact HB.out))) : w.heap.size ≤ gb116)); clear HO_7; clear HO_8; clear HO115; clear HB; have HO_7 := n0_; have HO_8 := n1_; have HO115 := n2_; have HB := n3_; have BK116 := n4_; have GW116 := n5_; have GE116 := n6_; clear n0_ n1_ n2_ n3_ n4_ n5_ n6_; clear hb hbox hg; obtain ⟨Ao20, co20, eo20⟩ := Kd.R_slice HO115.out; subst eo20; have hcz21_0 : w19.cell? ⟨gb116, 0, none⟩ = some (.slice none 0 0) := (blk_cell BK116.out 0).trans rfl; have hfz21_0 := blk_frozen BK116.out 0) | ((with_reducible refine gate_store (t := 22) (p := 10) rfl ?_); (try (rw [drewN_self w19]; generalize hq_ : World.drewN w19 _ = w19; have n0_ := Aside0.mk (Kd.R_at hq_ HO_7.out); have n1_ := Aside0.mk (Kd.R_at hq_ HO_8.out); have n2_ := Aside0.mk (Kd.R_at hq_ HO115.out); have n3_ := Aside0.mk (blk_at hq_ BK116.out); have n4_ := Aside0.mk (below_at hq_ HB.out); clear hq_ HO_7 HO_8 HO115 BK116 HB; have HO_7 := n0_; have HO_8 := n1_; have HO115 := n2_; have BK116 := n3_; have HB := n4_; clear n0_ n1_ n2_ n3_ n4_)); refine store_event (t := 22) (p := 10) (v := ?vo_w22) (w1 := (w19.setCell ⟨gb116, 0, none⟩ (.slice Ao20 t113.length co20))) ?hg ?ho ?hn ?hr ?_; (case ho => rfl); (case hg => rfl); (case hn => rfl); (case hr => first | (go_simp; done) | (go_simp; rfl)); intro w22 hw; have n0_ : Aside0 (Kd.R (Kd.int .i64) 3 w22 w.heap.size (fun k_ => some k_ ≠ (u8 : Value).ownBlock ∧ some k_ ≠ (.slice Ao20 t113.length co20 : Value).ownBlock) v105 y104) := ⟨(by rw [hw]; exact (by (with_reducible repeat (first | apply Kd.R_alloc | apply Kd.R_drewN | apply Kd.R_drew)); exact Kd.R_mono (Kd.R_far (p := ⟨gb116, 0, none⟩) (Kd.R_types HO_7.out BK116.out (by decide)) (fun _ hk => hk.2) (.slice Ao20 t113.length co20)) (fun _ hk => ⟨hk.1.1, hk.1.2⟩)))⟩; have n1_ : Aside0 (Kd.R (Kd.int .i64) 3 w22 w.heap.size (fun k_ => some k_ ≠ (v105 : Value).ownBlock ∧ some k_ ≠ (.slice Ao20 t113.length co20 : Value).ownBlock) u8 x8_1) := ⟨(by rw [hw]; exact (by (with_reducible repeat (first | apply Kd.R_alloc | apply Kd.R_drewN | apply Kd.R_drew)); exact Kd.R_mono (Kd.R_far (p := ⟨gb116, 0, none⟩) (Kd.R_types HO_8.out BK116.out (by decide)) (fun _ hk => hk.2) (.slice Ao20 t113.length co20)) (fun _ hk => ⟨hk.1.1, hk.1.2⟩)))⟩; have n2_ : Aside0 (Kd.R (Kd.int .i64) 3 w22 w.heap.size (fun k_ => some k_ ≠ (v105 : Value).ownBlock ∧ some k_ ≠ (u8 : Value).ownBlock) (.slice Ao20 t113.length co20) t113) := ⟨(by rw [hw]; exact (by (with_reducible repeat (first | apply Kd.R_alloc | apply Kd.R_drewN | apply Kd.R_drew)); exact Kd.R_mono (Kd.R_far (p := ⟨gb116, 0, none⟩) (Kd.R_types HO115.out BK116.out (by decide)) (fun _ hk => hk.2) (.slice Ao20 t113.length co20)) (fun _ hk => ⟨hk.1.1.2, hk.1.2⟩)))⟩; have n3_ : Aside0 (w22.heap[gb116]? = some (.cells #[.slice Ao20 t113.length co20] 22 (0, 0))) := ⟨(by rw [hw]; exact (by (with_reducible repeat (first | refine blk_drewN ?_ _ | refine blk_drew ?_ | refine blk_alloc ?_ _)); refine blk_put (cs := #[.slice none 0 0]) ?_ 0 _ rfl; (with_reducible repeat (first | refine blk_drewN ?_ _ | refine blk_drew ?_ | refine blk_alloc ?_ _)); exact BK116.out))⟩; have n4_ : Aside0 (Below w.heap.size w w22) := ⟨(by rw [hw]; exact (by repeat (first | (with_reducible first | exact HB.out | apply below_alloc | apply pw_below_drewN | apply below_drew1 | refine below_set ?_ GE116.out) | exact HB.out)))⟩; clear hw; clear HO_7; clear HO_8; clear HO115; clear BK116; clear HB; have HO_7 := n0_; have HO_8 := n1_; have HO115 := n2_; have BK116 := n3_; have HB := n4_; clear n0_ n1_ n2_ n3_ n4_; obtain ⟨Ao23, co23, eo23⟩ := Kd.R_slice HO_8.out; subst eo23) | (go_at_call 91; (with_reducible refine (slices_SortStableFunc_int_int_of_impl_spread_1.calls k1 (fun k_ => some k_ = (.slice Ao23 x8_1.length co23 : Value).ownBlock) (.slice Ao23 x8_1.length co23) x8_1 gb116 Ao20 co20 t113 t117 w _ ?side1 ?side2 ?side3 ?side4 ?side5 A15.out).mono ?_); (case side1 => repeat (first | (with_reducible first | exact HB.out | apply below_alloc | apply pw_below_drewN | apply below_drew1 | refine below_set ?_ GE116.out) | exact HB.out)); (case side2 => exact Kd.R_tight rfl HO_8.out); (case side3 => (with_reducible repeat (first | refine blk_drewN ?_ _ | refine blk_drew ?_ | refine blk_alloc ?_ _)); exact BK116.out); (case side4 => exact Kd.C_kept_own (HO115.out) (fun k_ hk_ hs_ => (hk_.2) hs_)); (case side5 => exact (Kd.R_reads' HO115.out).2.1); rintro e w24 ⟨rfl, hy0, hb, hkp⟩; have n0_ := Aside0.mk (Kd.R_mono (ok' := fun k_ => some k_ ≠ (.slice Ao23 x8_1.length co23 : Value).ownBlock ∧ some k_ ≠ (.slice Ao20 t113.length co20 : Value).ownBlock) (Kd.R_keptB (HO_7.out) hkp (fun k_ hk_ hs_ => (hk_.1) hs_)) (fun k_ hk_ => ⟨hk_.1.1, hk_.1.2⟩)); have n1_ := Aside0.mk (Kd.R_reok rfl hy0 (fun k_ e_ => HO_8.out.1 k_ e_)); have n2_ := Aside0.mk (Kd.R_mono (ok' := fun k_ => some k_ ≠ (v105 : Value).ownBlock ∧ some k_ ≠ (.slice Ao23 x8_1.length co23 : Value).ownBlock) (Kd.R_keptB (HO115.out) hkp (fun k_ hk_ hs_ => (hk_.2) hs_)) (fun k_ hk_ => ⟨hk_.1.1, hk_.1.2⟩)); have n3_ := Aside0.mk (blk_kept (by (with_reducible repeat (first | refine blk_drewN ?_ _ | refine blk_drew ?_ | refine blk_alloc ?_ _)); exact BK116.out) hkp (fun hs_ => (fun e_ => (Kd.R_ne HO_8.out BK116.out (by decide)) e_) hs_)); have n4_ := Aside0.mk (hb); clear HO_7; clear HO_8; clear HO115; clear BK116; clear HB; have HO_7 := n0_; have HO_8 := n1_; have HO115 := n2_; have BK116 := n3_; have HB := n4_; clear n0_ n1_ n2_ n3_ n4_; (try clear hb); (try clear hkp); (try clear hy0)) | ((with_reducible refine gate_dst (N := 42) rfl ?_); refine Kd.R_make (Kd.int .i64) _ 3 rfl (N := 42) rfl 22 _ _ rfl a0 rfl rfl Try.underlying22 (.int .i64 0) 8 info3 rfl (by decide) (by omega) 0 (ok := fun _ => True) (okp := fun _ => True) rfl (fun _ hk => hk) trivial (of_decide_eq_true (by first | (with_reducible assumption) | assumption)) (Nat.le_trans (Nat.mul_le_mul_right _ (of_decide_eq_true (by first | (with_reducible assumption) | assumption) : a0.toNat ≤ 35184372088832)) (by omega)) (Below.refl _ _) (Nat.le_refl _) ?_; intro v119 w25 ho26 hb hg_ hnew_; clear hg_ hnew_; (first | rw [← Ny118.out] at ho26 | (simp only [Int.reduceToNat] at ho26; rw [← Ny118.out] at ho26)); have n0_ := Aside0.mk (Kd.R_elder' (by (with_reducible repeat (first | apply Kd.R_alloc | apply Kd.R_drewN | apply Kd.R_drew)); exact HO_7.out) (Kd.R_base ho26) hb); have n1_ := Aside0.mk (Kd.R_elder' (by (with_reducible repeat (first | apply Kd.R_alloc | apply Kd.R_drewN | apply Kd.R_drew)); exact HO_8.out) (Kd.R_base ho26) hb); have n2_ := Aside0.mk (Kd.R_elder' (by (with_reducible repeat (first | apply Kd.R_alloc | apply Kd.R_drewN | apply Kd.R_drew)); exact HO115.out) (Kd.R_base ho26) hb); have n3_ := Aside0.mk (Kd.R_lower (Kd.R_new' (Kd.R_new' (Kd.R_new' ho26 (Kd.R_lt (by (with_reducible repeat (first | apply Kd.R_alloc | apply Kd.R_drewN | apply Kd.R_drew)); exact HO_7.out))) (Kd.R_lt (by (with_reducible repeat (first | apply Kd.R_alloc | apply Kd.R_drewN | apply Kd.R_drew)); exact HO_8.out))) (Kd.R_lt (by (with_reducible repeat (first | apply Kd.R_alloc | apply Kd.R_drewN | apply Kd.R_drew)); exact HO115.out))) (below_size (by repeat (first | (with_reducible first | exact HB.out | apply below_alloc | apply pw_below_drewN | apply below_drew1 | refine below_set ?_ GE116.out) | exact HB.out)))); have n4_ := Aside0.mk (blk_below (g := gb116) (o := .cells #[.slice Ao20 t113.length co20] 22 (0, 0)) (by (with_reducible repeat (first | refine blk_drewN ?_ _ | refine blk_drew ?_ | refine blk_alloc ?_ _)); exact BK116.out) hb); have n5_ := Aside0.mk (below_step (by repeat (first | (with_reducible first | exact HB.out | apply below_alloc | apply pw_below_drewN | apply below_drew1 | refine below_set ?_ GE116.out) | exact HB.out)) hb); clear HO_7; clear HO_8; clear HO115; clear BK116; clear HB; have HO_7 := n0_; have HO_8 := n1_; have HO115 := n2_; have HO120 := n3_; have BK116 := n4_; have HB := n5_; clear n0_ n1_ n2_ n3_ n4_ n5_; clear hb ho26)))
              go_loopg [45] k1 (fun kq v45 w' => ∃ (x11_2 : List Int) (x45_2 : Int), v45 = .int .i64 x45_2 ∧ Aside0 (impl_spread.l1 kq l1 y104 t117 x11_2 (x8_1.length : Int) x45_2 t113 = some r) ∧ Aside0 (kq ≤ k1) ∧ Aside0 (Kd.R (Kd.int .i64) 3 w' w.heap.size (fun k_ => some k_ ≠ ((.slice Ao23 x8_1.length co23) : Value).ownBlock ∧ some k_ ≠ (v119 : Value).ownBlock ∧ some k_ ≠ ((.slice Ao20 t113.length co20) : Value).ownBlock) v105 y104) ∧ Aside0 (Kd.R (Kd.int .i64) 3 w' w.heap.size (fun k_ => some k_ ≠ (v105 : Value).ownBlock ∧ some k_ ≠ (v119 : Value).ownBlock ∧ some k_ ≠ ((.slice Ao20 t113.length co20) : Value).ownBlock) (.slice Ao23 x8_1.length co23) t117) ∧ Aside0 (Kd.R (Kd.int .i64) 3 w' w.heap.size (fun k_ => some k_ ≠ (v105 : Value).ownBlock ∧ some k_ ≠ ((.slice Ao23 x8_1.length co23) : Value).ownBlock ∧ some k_ ≠ ((.slice Ao20 t113.length co20) : Value).ownBlock) v119 x11_2) ∧ Aside0 (Kd.R (Kd.int .i64) 3 w' w.heap.size (fun k_ => some k_ ≠ (v105 : Value).ownBlock ∧ some k_ ≠ ((.slice Ao23 x8_1.length co23) : Value).ownBlock ∧ some k_ ≠ (v119 : Value).ownBlock) (.slice Ao20 t113.length co20) t113) ∧ Aside0 (w'.heap[gb116]? = some (.cells #[(.slice Ao20 t113.length co20)] 22 (0, 0))) ∧ Aside0 (Below w.heap.size w w'))
              case atStart => exact ⟨(y118), (0), (by first | rfl | (simp; done) | (simp [*]; done)), H', ⟨Nat.le_refl _⟩, ⟨by (with_reducible repeat (first | apply Kd.R_alloc | apply Kd.R_drewN | apply Kd.R_drew)); exact Kd.R_mono HO_7.out (fun _ hk => ⟨hk.1.1, ⟨hk.2, hk.1.2⟩⟩)⟩, ⟨by (with_reducible repeat (first | apply Kd.R_alloc | apply Kd.R_drewN | apply Kd.R_drew)); exact Kd.R_mono HO_8.out (fun _ hk => ⟨hk.1.1, ⟨hk.2, hk.1.2⟩⟩)⟩, ⟨by (with_reducible repeat (first | apply Kd.R_alloc | apply Kd.R_drewN | apply Kd.R_drew)); exact Kd.R_mono HO120.out (fun _ hk => ⟨hk.1.1.2, ⟨hk.1.2, hk.2⟩⟩)⟩, ⟨by (with_reducible repeat (first | apply Kd.R_alloc | apply Kd.R_drewN | apply Kd.R_drew)); exact Kd.R_mono HO115.out (fun _ hk => ⟨hk.1.1, ⟨hk.1.2, hk.2⟩⟩)⟩, ⟨by (with_reducible repeat (first | refine blk_drewN ?_ _ | refine blk_drew ?_ | refine blk_alloc ?_ _)); exact BK116.out⟩, ⟨by repeat (first | (with_reducible first | exact HB.out | apply below_alloc | apply pw_below_drewN | apply below_drew1 | refine below_set ?_ GE116.out) | exact HB.out)⟩⟩
              case round =>
                clear H'
                try clear c1
                try clear p2
                try clear c4
                try clear c6
                try clear p6
                try clear c10
                try clear c10b0
                try clear c11
                try clear c11b0
                try clear c11b1
                try clear c12
                try clear c16
                try clear c16b0
                try clear c16b1
                try clear c17
                try clear c17b0
                try clear c17b1
                try clear hcz21_0
                try clear hfz21_0
                try clear p2
                obtain ⟨x11_2, x45_2, rfl, HA, HK2, HO_7, HO_8, HO_11, HO_117000, BK116, HB⟩ := hrel
                have hl8_2 := (Kd.R_reads' HO_8.out).1
                rw [hl8_2] at HO_8
                (try simp only [hl8_2])
                (try simp only [hl8_2] at BK116)
                (try simp only [hl8_2] at HO_7)
                (try simp only [hl8_2] at HO_11)
                (try simp only [hl8_2] at HO_117000)
                cases gk with
                | zero => exact absurd HA.out (by simp [impl_spread.l1])
                | succ k2 =>
                  have H := HA.out
                  clear HA
                  simp only [impl_spread.l1] at H
                  by_cases c27 : x45_2 < (x8_1.length : Int)
                  · rw [if_pos c27] at H
                    have c27b0 : decide (x45_2 < (x8_1.length : Int)) = true := decide_eq_true c27
                    clear c27
                    try (have c27h0 := c27b0; simp only [hl8_2] at c27h0)
                    by_cases c28 : 0 ≤ x45_2
                    · rw [if_pos c28] at H
                      have c28b0 : decide (0 ≤ x45_2) = true := decide_eq_true c28
                      clear c28
                      by_cases c29 : x45_2 < (t117.length : Int)
                      · rw [if_pos c29] at H
                        have c29b0 : decide (x45_2 < (t117.length : Int)) = true := decide_eq_true c29
                        clear c29
                        try (have c29h0 := c29b0; simp only [hl8_2] at c29h0)
                        by_cases c30 : (t117.length : Int) = 0
                        · rw [if_pos c30] at H
                          exact absurd H (by simp)
                        · rw [if_neg c30] at H
                          have c30b0 : ((t117.length : Int) == 0) = false := beq_eq_false_iff_ne.mpr c30
                          have c30b1 : ((t117.length : Int) != 0) = true := bne_iff_ne.mpr c30
                          have c30b2 : ¬ (t117 = []) := fun h_ => c30 (by rw [h_]; rfl)
                          try (have c30h0 := c30b0; simp only [hl8_2] at c30h0)
                          by_cases c31 : 0 ≤ (rd t117 x45_2)
                          · rw [if_pos c31] at H
                            have c31b0 : decide (0 ≤ (rd t117 x45_2)) = true := decide_eq_true c31
                            clear c31
                            by_cases c32 : (rd t117 x45_2) < (x11_2.length : Int)
                            · rw [if_pos c32] at H
                              have c32b0 : decide ((rd t117 x45_2) < (x11_2.length : Int)) = true := decide_eq_true c32
                              clear c32
                              try (have c32h0 := c32b0; simp only [hl8_2] at c32h0)
                              obtain ⟨y122, hy122⟩ : ∃ y_ : List Int, y_ = (x11_2.set ((rd t117 x45_2) : Int).toNat (wrap64 ((l1.length : Int) / (t117.length : Int)))) := ⟨_, rfl⟩
                              replace H : (if x45_2 < ((l1.length : Int) % (t117.length : Int)) then (impl_spread.l1 k2 l1 y104 t117 (y122.set ((rd t117 x45_2) : Int).toNat (wrap64 ((rd y122 (rd t117 x45_2)) + 1))) (x8_1.length : Int) (wrap64 (x45_2 + 1)) t113) else (impl_spread.l1 k2 l1 y104 t117 y122 (x8_1.length : Int) (wrap64 (x45_2 + 1)) t113)) = some r := by first | (rw [hy122]; with_reducible exact H) | (have H2_ := (Option.bind_some _ _).symm.trans H; rw [hy122]; with_reducible exact H2_) | (have H2_ := (Option.bind_some _ _).symm.trans H; with_reducible exact H2_) | with_reducible exact H | (rw [hy122]; exact H) | exact H
                              have Ny122 := Aside0.mk hy122
                              clear hy122
                              by_cases c34 : x45_2 < ((l1.length : Int) % (t117.length : Int))
                              · rw [if_pos c34] at H
                                have c34b0 : decide (x45_2 < ((l1.length : Int) % (t117.length : Int))) = true := decide_eq_true c34
                                clear c34
                                try (have c34h0 := c34b0; simp only [hl8_2] at c34h0)
                                obtain ⟨y124, hy124⟩ : ∃ y_ : List Int, y_ = (y122.set ((rd t117 x45_2) : Int).toNat (wrap64 ((rd y122 (rd t117 x45_2)) + 1))) := ⟨_, rfl⟩
                                replace H : (impl_spread.l1 k2 l1 y104 t117 y124 (x8_1.length : Int) (wrap64 (x45_2 + 1)) t113) = some r := by first | (rw [hy124]; with_reducible exact H) | (have H2_ := (Option.bind_some _ _).symm.trans H; rw [hy124]; with_reducible exact H2_) | (have H2_ := (Option.bind_some _ _).symm.trans H; with_reducible exact H2_) | with_reducible exact H | (rw [hy124]; exact H) | exact H
                                have Ny124 := Aside0.mk hy124
                                clear hy124
                                have H' := Aside0.mk H
                                clear H
                                have p121 : 0 ≤ (x45_2 : Int) := of_decide_eq_true (by first | (with_reducible assumption) | assumption)
                                have q121 : x45_2 < (t117.length : Int) := of_decide_eq_true (by first | (with_reducible assumption) | assumption)
                                obtain ⟨ad121, e121, hx121_0⟩ := Kd.at_int (Kd.R_reads' HO_8.out).2.2 x45_2 p121 q121
                                cases e121
                                replace p121 := eq_true p121
                                replace q121 := eq_true q121
                                have p33 : 0 ≤ ((rd t117 x45_2) : Int) := of_decide_eq_true (by first | (with_reducible assumption) | assumption)
                                have q33 : ((rd t117 x45_2) : Int) < ((x11_2.length : Int) : Int) := of_decide_eq_true (by first | (with_reducible assumption) | assumption)
                                obtain ⟨go33, co33, eo33, gb33, gl33, cl33, HG33⟩ := Kd.R_form HO_11.out (by omega)
                                (first | cases eo33 | (injection eo33 with ea_ en_ ec_; (first | subst ea_ | (injection ea_ with ea_; subst ea_)); subst ec_; clear en_))
                                have GB33 := Aside0.mk gb33
                                have GG33 := Aside0.mk HG33
                                clear gb33 gl33 HG33
                                obtain ⟨hx33_0, hf33_0⟩ := Kd.R_celln 0 HO_11.out ((rd t117 x45_2) : Int) p33 q33
                                replace p33 := eq_true p33
                                replace q33 := eq_true q33
                                have HP36 := Kd.R_putg HO_11.out ((rd t117 x45_2) : Int) (wrap64 ((l1.length : Int) / (t117.length : Int)))
                                go_wp2_with (first | ((with_reducible refine gate_store (t := 3) (p := 57) rfl ?_); (try (rw [drewN_self wr]; generalize hq_ : World.drewN wr _ = wr; have n0_ := Aside0.mk (Kd.R_at hq_ HO_7.out); have n1_ := Aside0.mk (Kd.R_at hq_ HO_8.out); have n2_ := Aside0.mk (Kd.R_at hq_ HO_11.out); have n3_ := Aside0.mk (Kd.R_at hq_ HO_117000.out); have n4_ := Aside0.mk (blk_at hq_ BK116.out); have n5_ := Aside0.mk (below_at hq_ HB.out); clear hq_ HO_7 HO_8 HO_11 HO_117000 BK116 HB; have HO_7 := n0_; have HO_8 := n1_; have HO_11 := n2_; have HO_117000 := n3_; have BK116 := n4_; have HB := n5_; clear n0_ n1_ n2_ n3_ n4_ n5_; (try (obtain ⟨hx33_0, hf33_0⟩ := Kd.R_celln 0 HO_11.out ((rd t117 x45_2) : Int) (of_eq_true p33) (of_eq_true q33))); (try (have HP36 := Kd.R_putg HO_11.out ((rd t117 x45_2) : Int) (wrap64 ((l1.length : Int) / (t117.length : Int))))))); refine store_event (t := 3) (p := 57) (v := ?vo_w37) (w1 := (wr.setCell ⟨go33, ((rd t117 x45_2) : Int).toNat, none⟩ (.int .i64 (wrap64 ((l1.length : Int) / (t117.length : Int)))))) ?hg ?ho ?hn ?hr ?_; (case ho => rfl); (case hg => rfl); (case hn => rfl); (case hr => first | (go_simp; done) | (go_simp; rfl)); intro w37 hw; have hg : wr.grownBy w37 (some go33) := (by rw [hw]; exact HP36.2); have hp_ : Kd.R (Kd.int .i64) 3 w37 w.heap.size (fun k_ => some k_ ≠ (v105 : Value).ownBlock ∧ some k_ ≠ (.slice (some ad121) t117.length co23 : Value).ownBlock ∧ some k_ ≠ (.slice Ao20 t113.length co20 : Value).ownBlock) (.slice (some ⟨go33, 0, none⟩) x11_2.length co33) y122 := (by rw [hw, Ny122.out]; exact HP36.1); clear HP36; have n0_ := Aside0.mk (Kd.R_after (v := (.slice (some ⟨go33, 0, none⟩) x11_2.length co33)) (v1 := (.slice (some ⟨go33, 0, none⟩) x11_2.length co33)) (ok := (fun k_ => some k_ ≠ (.slice (some ad121) t117.length co23 : Value).ownBlock ∧ some k_ ≠ (.slice Ao20 t113.length co20 : Value).ownBlock)) (by (with_reducible repeat (first | apply Kd.R_alloc | apply Kd.R_drewN | apply Kd.R_drew)); exact Kd.R_mono HO_7.out (fun _ hk => ⟨⟨hk.1, hk.2.2⟩, hk.2.1⟩)) hg (.inl rfl)); have n1_ := Aside0.mk (Kd.R_after (v := (.slice (some ⟨go33, 0, none⟩) x11_2.length co33)) (v1 := (.slice (some ⟨go33, 0, none⟩) x11_2.length co33)) (ok := (fun k_ => some k_ ≠ (v105 : Value).ownBlock ∧ some k_ ≠ (.slice Ao20 t113.length co20 : Value).ownBlock)) (by (with_reducible repeat (first | apply Kd.R_alloc | apply Kd.R_drewN | apply Kd.R_drew)); exact Kd.R_mono HO_8.out (fun _ hk => ⟨⟨hk.1, hk.2.2⟩, hk.2.1⟩)) hg (.inl rfl)); have n2_ := Aside0.mk (hp_); have n3_ := Aside0.mk (Kd.R_after (v := (.slice (some ⟨go33, 0, none⟩) x11_2.length co33)) (v1 := (.slice (some ⟨go33, 0, none⟩) x11_2.length co33)) (ok := (fun k_ => some k_ ≠ (v105 : Value).ownBlock ∧ some k_ ≠ (.slice (some ad121) t117.length co23 : Value).ownBlock)) (by (with_reducible repeat (first | apply Kd.R_alloc | apply Kd.R_drewN | apply Kd.R_drew)); exact Kd.R_mono HO_117000.out (fun _ hk => ⟨⟨hk.1, hk.2.1⟩, hk.2.2⟩)) hg (.inl rfl)); have n4_ := Aside0.mk (blk_grown (g := gb116) (o := .cells #[.slice Ao20 t113.length co20] 22 (0, 0)) (by (with_reducible repeat (first | refine blk_drewN ?_ _ | refine blk_drew ?_ | refine blk_alloc ?_ _)); exact BK116.out) hg (Kd.R_ne HO_11.out BK116.out (by decide))); have n5_ := Aside0.mk ((by rw [hw]; exact below_set (HB.out) GB33.out : Below w.heap.size w w37)); clear HO_7; clear HO_8; clear HO_11; clear HO_117000; clear BK116; clear HB; have HO_7 := n0_; have HO_8 := n1_; have HO_11 := n2_; have HO_117000 := n3_; have BK116 := n4_; have HB := n5_; clear n0_ n1_ n2_ n3_ n4_ n5_; clear hg hw hp_; have p123 : 0 ≤ ((rd t117 x45_2) : Int) := of_decide_eq_true (by first | (with_reducible assumption) | assumption); have q123 : (rd t117 x45_2) < (y122.length : Int) := (by have h_ : ((rd t117 x45_2) : Int) < ((x11_2.length : Int) : Int) := of_decide_eq_true (by first | (with_reducible assumption) | assumption); first | (have e_ := (Kd.R_reads' HO_11.out).1; omega) | simpa only [Ny122.out, List.length_set] using h_); have ql123 : (((rd t117 x45_2) : Int) < ((x11_2.length : Int) : Int)) = True := eq_true (of_decide_eq_true (by first | (with_reducible assumption) | assumption)); obtain ⟨ad123, e123, hx123_0⟩ := Kd.at_int (Kd.R_reads' HO_11.out).2.2 (rd t117 x45_2) p123 q123; obtain rfl : (⟨go33, 0, none⟩ : Addr) = ad123 := (by injection e123); (first | simp only [add_plain] at hx123_0 | simp only [add_at] at hx123_0 | simp only [Addr.add, Nat.zero_add] at hx123_0 | skip); replace p123 := eq_true p123; replace q123 := eq_true q123; have p35 : 0 ≤ ((rd t117 x45_2) : Int) := of_decide_eq_true (by first | (with_reducible assumption) | assumption); have q35 : ((rd t117 x45_2) : Int) < ((x11_2.length : Int) : Int) := of_decide_eq_true (by first | (with_reducible assumption) | assumption); obtain ⟨hx35_0, hf35_0⟩ := Kd.R_celln 0 HO_11.out ((rd t117 x45_2) : Int) p35 q35; replace p35 := eq_true p35; replace q35 := eq_true q35; obtain ⟨hy38_, hz38_⟩ := Kd.R_celln 0 HO_11.out ((rd t117 x45_2) : Int) (of_decide_eq_true (by first | (with_reducible assumption) | assumption)) (of_decide_eq_true (by first | (with_reducible assumption) | assumption)); have HP38 := Kd.R_putg HO_11.out ((rd t117 x45_2) : Int) (wrap64 ((rd y122 (rd t117 x45_2)) + 1))) | ((with_reducible refine gate_store (t := 3) (p := 70) rfl ?_); (try (rw [drewN_self w37]; generalize hq_ : World.drewN w37 _ = w37; have n0_ := Aside0.mk (Kd.R_at hq_ HO_7.out); have n1_ := Aside0.mk (Kd.R_at hq_ HO_8.out); have n2_ := Aside0.mk (Kd.R_at hq_ HO_11.out); have n3_ := Aside0.mk (Kd.R_at hq_ HO_117000.out); have n4_ := Aside0.mk (blk_at hq_ BK116.out); have n5_ := Aside0.mk (below_at hq_ HB.out); clear hq_ HO_7 HO_8 HO_11 HO_117000 BK116 HB; have HO_7 := n0_; have HO_8 := n1_; have HO_11 := n2_; have HO_117000 := n3_; have BK116 := n4_; have HB := n5_; clear n0_ n1_ n2_ n3_ n4_ n5_; (try (obtain ⟨hx33_0, hf33_0⟩ := Kd.R_celln 0 HO_11.out ((rd t117 x45_2) : Int) (of_eq_true p33) (of_eq_true q33))); (try (obtain ⟨hy38_, hz38_⟩ := Kd.R_celln 0 HO_11.out ((rd t117 x45_2) : Int) (of_decide_eq_true (by first | (with_reducible assumption) | assumption)) (of_decide_eq_true (by first | (with_reducible assumption) | assumption)))); (try (have HP38 := Kd.R_putg HO_11.out ((rd t117 x45_2) : Int) (wrap64 ((rd y122 (rd t117 x45_2)) + 1)))))); refine store_event (t := 3) (p := 70) (v := ?vo_w39) (w1 := (w37.setCell ⟨go33, ((rd t117 x45_2) : Int).toNat, none⟩ (.int .i64 (wrap64 ((rd y122 (rd t117 x45_2)) + 1))))) ?hg ?ho ?hn ?hr ?_; (case ho => rfl); (case hg => rfl); (case hn => rfl); (case hr => first | (go_simp; done) | (go_simp; rfl)); intro w39 hw; have hg : w37.grownBy w39 (some go33) := (by rw [hw]; exact HP38.2); have hp_ : Kd.R (Kd.int .i64) 3 w39 w.heap.size (fun k_ => some k_ ≠ (v105 : Value).ownBlock ∧ some k_ ≠ (.slice (some ad121) t117.length co23 : Value).ownBlock ∧ some k_ ≠ (.slice Ao20 t113.length co20 : Value).ownBlock) (.slice (some ⟨go33, 0, none⟩) x11_2.length co33) y124 := (by rw [hw, Ny124.out]; exact HP38.1); clear HP38; have n0_ := Aside0.mk (Kd.R_after (v := (.slice (some ⟨go33, 0, none⟩) x11_2.length co33)) (v1 := (.slice (some ⟨go33, 0, none⟩) x11_2.length co33)) (ok := (fun k_ => some k_ ≠ (.slice (some ad121) t117.length co23 : Value).ownBlock ∧ some k_ ≠ (.slice Ao20 t113.length co20 : Value).ownBlock)) (by (with_reducible repeat (first | apply Kd.R_alloc | apply Kd.R_drewN | apply Kd.R_drew)); exact HO_7.out) hg (.inl rfl)); have n1_ := Aside0.mk (Kd.R_after (v := (.slice (some ⟨go33, 0, none⟩) x11_2.length co33)) (v1 := (.slice (some ⟨go33, 0, none⟩) x11_2.length co33)) (ok := (fun k_ => some k_ ≠ (v105 : Value).ownBlock ∧ some k_ ≠ (.slice Ao20 t113.length co20 : Value).ownBlock)) (by (with_reducible repeat (first | apply Kd.R_alloc | apply Kd.R_drewN | apply Kd.R_drew)); exact HO_8.out) hg (.inl rfl)); have n2_ := Aside0.mk (hp_); have n3_ := Aside0.mk (Kd.R_after (v := (.slice (some ⟨go33, 0, none⟩) x11_2.length co33)) (v1 := (.slice (some ⟨go33, 0, none⟩) x11_2.length co33)) (ok := (fun k_ => some k_ ≠ (v105 : Value).ownBlock ∧ some k_ ≠ (.slice (some ad121) t117.length co23 : Value).ownBlock)) (by (with_reducible repeat (first | apply Kd.R_alloc | apply Kd.R_drewN | apply Kd.R_drew)); exact HO_117000.out) hg (.inl rfl)); have n4_ := Aside0.mk (blk_grown (g := gb116) (o := .cells #[.slice Ao20 t113.length co20] 22 (0, 0)) (by (with_reducible repeat (first | refine blk_drewN ?_ _ | refine blk_drew ?_ | refine blk_alloc ?_ _)); exact BK116.out) hg (Kd.R_ne HO_11.out BK116.out (by decide))); have n5_ := Aside0.mk ((by rw [hw]; exact below_set (HB.out) GB33.out : Below w.heap.size w w39)); clear HO_7; clear HO_8; clear HO_11; clear HO_117000; clear BK116; clear HB; have HO_7 := n0_; have HO_8 := n1_; have HO_11 := n2_; have HO_117000 := n3_; have BK116 := n4_; have HB := n5_; clear n0_ n1_ n2_ n3_ n4_ n5_; clear hg hw hp_))
                                repeat (go_quiet (first | ((with_reducible refine gate_store (t := 3) (p := 57) rfl ?_); (try (rw [drewN_self wr]; generalize hq_ : World.drewN wr _ = wr; have n0_ := Aside0.mk (Kd.R_at hq_ HO_7.out); have n1_ := Aside0.mk (Kd.R_at hq_ HO_8.out); have n2_ := Aside0.mk (Kd.R_at hq_ HO_11.out); have n3_ := Aside0.mk (Kd.R_at hq_ HO_117000.out); have n4_ := Aside0.mk (blk_at hq_ BK116.out); have n5_ := Aside0.mk (below_at hq_ HB.out); clear hq_ HO_7 HO_8 HO_11 HO_117000 BK116 HB; have HO_7 := n0_; have HO_8 := n1_; have HO_11 := n2_; have HO_117000 := n3_; have BK116 := n4_; have HB := n5_; clear n0_ n1_ n2_ n3_ n4_ n5_; (try (obtain ⟨hx33_0, hf33_0⟩ := Kd.R_celln 0 HO_11.out ((rd t117 x45_2) : Int) (of_eq_true p33) (of_eq_true q33))); (try (have HP36 := Kd.R_putg HO_11.out ((rd t117 x45_2) : Int) (wrap64 ((l1.length : Int) / (t117.length : Int))))))); refine store_event (t := 3) (p := 57) (v := ?vo_w37) (w1 := (wr.setCell ⟨go33, ((rd t117 x45_2) : Int).toNat, none⟩ (.int .i64 (wrap64 ((l1.length : Int) / (t117.length : Int)))))) ?hg ?ho ?hn ?hr ?_; (case ho => rfl); (case hg => rfl); (case hn => rfl); (case hr => first | (go_simp; done) | (go_simp; rfl)); intro w37 hw; have hg : wr.grownBy w37 (some go33) := (by rw [hw]; exact HP36.2); have hp_ : Kd.R (Kd.int .i64) 3 w37 w.heap.size (fun k_ => some k_ ≠ (v105 : Value).ownBlock ∧ some k_ ≠ (.slice (some ad121) t117.length co23 : Value).ownBlock ∧ some k_ ≠ (.slice Ao20 t113.length co20 : Value).ownBlock) (.slice (some ⟨go33, 0, none⟩) x11_2.length co33) y122 := (by rw [hw, Ny122.out]; exact HP36.1); clear HP36; have n0_ := Aside0.mk (Kd.R_after (v := (.slice (some ⟨go33, 0, none⟩) x11_2.length co33)) (v1 := (.slice (some ⟨go33, 0, none⟩) x11_2.length co33)) (ok := (fun k_ => some k_ ≠ (.slice (some ad121) t117.length co23 : Value).ownBlock ∧ some k_ ≠ (.slice Ao20 t113.length co20 : Value).ownBlock)) (by (with_reducible repeat (first | apply Kd.R_alloc | apply Kd.R_drewN | apply Kd.R_drew)); exact Kd.R_mono HO_7.out (fun _ hk => ⟨⟨hk.1, hk.2.2⟩, hk.2.1⟩)) hg (.inl rfl)); have n1_ := Aside0.mk (Kd.R_after (v := (.slice (some ⟨go33, 0, none⟩) x11_2.length co33)) (v1 := (.slice (some ⟨go33, 0, none⟩) x11_2.length co33)) (ok := (fun k_ => some k_ ≠ (v105 : Value).ownBlock ∧ some k_ ≠ (.slice Ao20 t113.length co20 : Value).ownBlock)) (by (with_reducible repeat (first | apply Kd.R_alloc | apply Kd.R_drewN | apply Kd.R_drew)); exact Kd.R_mono HO_8.out (fun _ hk => ⟨⟨hk.1, hk.2.2⟩, hk.2.1⟩)) hg (.inl rfl)); have n2_ := Aside0.mk (hp_); have n3_ := Aside0.mk (Kd.R_after (v := (.slice (some ⟨go33, 0, none⟩) x11_2.length co33)) (v1 := (.slice (some ⟨go33, 0, none⟩) x11_2.length co33)) (ok := (fun k_ => some k_ ≠ (v105 : Value).ownBlock ∧ some k_ ≠ (.slice (some ad121) t117.length co23 : Value).ownBlock)) (by (with_reducible repeat (first | apply Kd.R_alloc | apply Kd.R_drewN | apply Kd.R_drew)); exact Kd.R_mono HO_117000.out (fun _ hk => ⟨⟨hk.1, hk.2.1⟩, hk.2.2⟩)) hg (.inl rfl)); have n4_ := Aside0.mk (blk_grown (g := gb116) (o := .cells #[.slice Ao20 t113.length co20] 22 (0, 0)) (by (with_reducible repeat (first | refine blk_drewN ?_ _ | refine blk_drew ?_ | refine blk_alloc ?_ _)); exact BK116.out) hg (Kd.R_ne HO_11.out BK116.out (by decide))); have n5_ := Aside0.mk ((by rw [hw]; exact below_set (HB.out) GB33.out : Below w.heap.size w w37)); clear HO_7; clear HO_8; clear HO_11; clear HO_117000; clear BK116; clear HB; have HO_7 := n0_; have HO_8 := n1_; have HO_11 := n2_; have HO_117000 := n3_; have BK116 := n4_; have HB := n5_; clear n0_ n1_ n2_ n3_ n4_ n5_; clear hg hw hp_; have p123 : 0 ≤ ((rd t117 x45_2) : Int) := of_decide_eq_true (by first | (with_reducible assumption) | assumption); have q123 : (rd t117 x45_2) < (y122.length : Int) := (by have h_ : ((rd t117 x45_2) : Int) < ((x11_2.length : Int) : Int) := of_decide_eq_true (by first | (with_reducible assumption) | assumption); first | (have e_ := (Kd.R_reads' HO_11.out).1; omega) | simpa only [Ny122.out, List.length_set] using h_); have ql123 : (((rd t117 x45_2) : Int) < ((x11_2.length : Int) : Int)) = True := eq_true (of_decide_eq_true (by first | (with_reducible assumption) | assumption)); obtain ⟨ad123, e123, hx123_0⟩ := Kd.at_int (Kd.R_reads' HO_11.out).2.2 (rd t117 x45_2) p123 q123; obtain rfl : (⟨go33, 0, none⟩ : Addr) = ad123 := (by injection e123); (first | simp only [add_plain] at hx123_0 | simp only [add_at] at hx123_0 | simp only [Addr.add, Nat.zero_add] at hx123_0 | skip); replace p123 := eq_true p123; replace q123 := eq_true q123; have p35 : 0 ≤ ((rd t117 x45_2) : Int) := of_decide_eq_true (by first | (with_reducible assumption) | assumption); have q35 : ((rd t117 x45_2) : Int) < ((x11_2.length : Int) : Int) := of_decide_eq_true (by first | (with_reducible assumption) | assumption); obtain ⟨hx35_0, hf35_0⟩ := Kd.R_celln 0 HO_11.out ((rd t117 x45_2) : Int) p35 q35; replace p35 := eq_true p35; replace q35 := eq_true q35; obtain ⟨hy38_, hz38_⟩ := Kd.R_celln 0 HO_11.out ((rd t117 x45_2) : Int) (of_decide_eq_true (by first | (with_reducible assumption) | assumption)) (of_decide_eq_true (by first | (with_reducible assumption) | assumption)); have HP38 := Kd.R_putg HO_11.out ((rd t117 x45_2) : Int) (wrap64 ((rd y122 (rd t117 x45_2)) + 1))) | ((with_reducible refine gate_store (t := 3) (p := 70) rfl ?_); (try (rw [drewN_self w37]; generalize hq_ : World.drewN w37 _ = w37; have n0_ := Aside0.mk (Kd.R_at hq_ HO_7.out); have n1_ := Aside0.mk (Kd.R_at hq_ HO_8.out); have n2_ := Aside0.mk (Kd.R_at hq_ HO_11.out); have n3_ := Aside0.mk (Kd.R_at hq_ HO_117000.out); have n4_ := Aside0.mk (blk_at hq_ BK116.out); have n5_ := Aside0.mk (below_at hq_ HB.out); clear hq_ HO_7 HO_8 HO_11 HO_117000 BK116 HB; have HO_7 := n0_; have HO_8 := n1_; have HO_11 := n2_; have HO_117000 := n3_; have BK116 := n4_; have HB := n5_; clear n0_ n1_ n2_ n3_ n4_ n5_; (try (obtain ⟨hx33_0, hf33_0⟩ := Kd.R_celln 0 HO_11.out ((rd t117 x45_2) : Int) (of_eq_true p33) (of_eq_true q33))); (try (obtain ⟨hy38_, hz38_⟩ := Kd.R_celln 0 HO_11.out ((rd t117 x45_2) : Int) (of_decide_eq_true (by first | (with_reducible assumption) | assumption)) (of_decide_eq_true (by first | (with_reducible assumption) | assumption)))); (try (have HP38 := Kd.R_putg HO_11.out ((rd t117 x45_2) : Int) (wrap64 ((rd y122 (rd t117 x45_2)) + 1)))))); refine store_event (t := 3) (p := 70) (v := ?vo_w39) (w1 := (w37.setCell ⟨go33, ((rd t117 x45_2) : Int).toNat, none⟩ (.int .i64 (wrap64 ((rd y122 (rd t117 x45_2)) + 1))))) ?hg ?ho ?hn ?hr ?_; (case ho => rfl); (case hg => rfl); (case hn => rfl); (case hr => first | (go_simp; done) | (go_simp; rfl)); intro w39 hw; have hg : w37.grownBy w39 (some go33) := (by rw [hw]; exact HP38.2); have hp_ : Kd.R (Kd.int .i64) 3 w39 w.heap.size (fun k_ => some k_ ≠ (v105 : Value).ownBlock ∧ some k_ ≠ (.slice (some ad121) t117.length co23 : Value).ownBlock ∧ some k_ ≠ (.slice Ao20 t113.length co20 : Value).ownBlock) (.slice (some ⟨go33, 0, none⟩) x11_2.length co33) y124 := (by rw [hw, Ny124.out]; exact HP38.1); clear HP38; have n0_ := Aside0.mk (Kd.R_after (v := (.slice (some ⟨go33, 0, none⟩) x11_2.length co33)) (v1 := (.slice (some ⟨go33, 0, none⟩) x11_2.length co33)) (ok := (fun k_ => some k_ ≠ (.slice (some ad121) t117.length co23 : Value).ownBlock ∧ some k_ ≠ (.slice Ao20 t113.length co20 : Value).ownBlock)) (by (with_reducible repeat (first | apply Kd.R_alloc | apply Kd.R_drewN | apply Kd.R_drew)); exact HO_7.out) hg (.inl rfl)); have n1_ := Aside0.mk (Kd.R_after (v := (.slice (some ⟨go33, 0, none⟩) x11_2.length co33)) (v1 := (.slice (some ⟨go33, 0, none⟩) x11_2.length co33)) (ok := (fun k_ => some k_ ≠ (v105 : Value).ownBlock ∧ some k_ ≠ (.slice Ao20 t113.length co20 : Value).ownBlock)) (by (with_reducible repeat (first | apply Kd.R_alloc | apply Kd.R_drewN | apply Kd.R_drew)); exact HO_8.out) hg (.inl rfl)); have n2_ := Aside0.mk (hp_); have n3_ := Aside0.mk (Kd.R_after (v := (.slice (some ⟨go33, 0, none⟩) x11_2.length co33)) (v1 := (.slice (some ⟨go33, 0, none⟩) x11_2.length co33)) (ok := (fun k_ => some k_ ≠ (v105 : Value).ownBlock ∧ some k_ ≠ (.slice (some ad121) t117.length co23 : Value).ownBlock)) (by (with_reducible repeat (first | apply Kd.R_alloc | apply Kd.R_drewN | apply Kd.R_drew)); exact HO_117000.out) hg (.inl rfl)); have n4_ := Aside0.mk (blk_grown (g := gb116) (o := .cells #[.slice Ao20 t113.length co20] 22 (0, 0)) (by (with_reducible repeat (first | refine blk_drewN ?_ _ | refine blk_drew ?_ | refine blk_alloc ?_ _)); exact BK116.out) hg (Kd.R_ne HO_11.out BK116.out (by decide))); have n5_ := Aside0.mk ((by rw [hw]; exact below_set (HB.out) GB33.out : Below w.heap.size w w39)); clear HO_7; clear HO_8; clear HO_11; clear HO_117000; clear BK116; clear HB; have HO_7 := n0_; have HO_8 := n1_; have HO_11 := n2_; have HO_117000 := n3_; have BK116 := n4_; have HB := n5_; clear n0_ n1_ n2_ n3_ n4_ n5_; clear hg hw hp_)); try go_wp2_with (first | ((with_reducible refine gate_store (t := 3) (p := 57) rfl ?_); (try (rw [drewN_self wr]; generalize hq_ : World.drewN wr _ = wr; have n0_ := Aside0.mk (Kd.R_at hq_ HO_7.out); have n1_ := Aside0.mk (Kd.R_at hq_ HO_8.out); have n2_ := Aside0.mk (Kd.R_at hq_ HO_11.out); have n3_ := Aside0.mk (Kd.R_at hq_ HO_117000.out); have n4_ := Aside0.mk (blk_at hq_ BK116.out); have n5_ := Aside0.mk (below_at hq_ HB.out); clear hq_ HO_7 HO_8 HO_11 HO_117000 BK116 HB; have HO_7 := n0_; have HO_8 := n1_; have HO_11 := n2_; have HO_117000 := n3_; have BK116 := n4_; have HB := n5_; clear n0_ n1_ n2_ n3_ n4_ n5_; (try (obtain ⟨hx33_0, hf33_0⟩ := Kd.R_celln 0 HO_11.out ((rd t117 x45_2) : Int) (of_eq_true p33) (of_eq_true q33))); (try (have HP36 := Kd.R_putg HO_11.out ((rd t117 x45_2) : Int) (wrap64 ((l1.length : Int) / (t117.length : Int))))))); refine store_event (t := 3) (p := 57) (v := ?vo_w37) (w1 := (wr.setCell ⟨go33, ((rd t117 x45_2) : Int).toNat, none⟩ (.int .i64 (wrap64 ((l1.length : Int) / (t117.length : Int)))))) ?hg ?ho ?hn ?hr ?_; (case ho => rfl); (case hg => rfl); (case hn => rfl); (case hr => first | (go_simp; done) | (go_simp; rfl)); intro w37 hw; have hg : wr.grownBy w37 (some go33) := (by rw [hw]; exact HP36.2); have hp_ : Kd.R (Kd.int .i64) 3 w37 w.heap.size (fun k_ => some k_ ≠ (v105 : Value).ownBlock ∧ some k_ ≠ (.slice (some ad121) t117.length co23 : Value).ownBlock ∧ some k_ ≠ (.slice Ao20 t113.length co20 : Value).ownBlock) (.slice (some ⟨go33, 0, none⟩) x11_2.length co33) y122 := (by rw [hw, Ny122.out]; exact HP36.1); clear HP36; have n0_ := Aside0.mk (Kd.R_after (v := (.slice (some ⟨go33, 0, none⟩) x11_2.length co33)) (v1 := (.slice (some ⟨go33, 0, none⟩) x11_2.length co33)) (ok := (fun k_ => some k_ ≠ (.slice (some ad121) t117.length co23 : Value).ownBlock ∧ some k_ ≠ (.slice Ao20 t113.length co20 : Value).ownBlock)) (by (with_reducible repeat (first | apply Kd.R_alloc | apply Kd.R_drewN | apply Kd.R_drew)); exact Kd.R_mono HO_7.out (fun _ hk => ⟨⟨hk.1, hk.2.2⟩, hk.2.1⟩)) hg (.inl rfl)); have n1_ := Aside0.mk (Kd.R_after (v := (.slice (some ⟨go33, 0, none⟩) x11_2.length co33)) (v1 := (.slice (some ⟨go33, 0, none⟩) x11_2.length co33)) (ok := (fun k_ => some k_ ≠ (v105 : Value).ownBlock ∧ some k_ ≠ (.slice Ao20 t113.length co20 : Value).ownBlock)) (by (with_reducible repeat (first | apply Kd.R_alloc | apply Kd.R_drewN | apply Kd.R_drew)); exact Kd.R_mono HO_8.out (fun _ hk => ⟨⟨hk.1, hk.2.2⟩, hk.2.1⟩)) hg (.inl rfl)); have n2_ := Aside0.mk (hp_); have n3_ := Aside0.mk (Kd.R_after (v := (.slice (some ⟨go33, 0, none⟩) x11_2.length co33)) (v1 := (.slice (some ⟨go33, 0, none⟩) x11_2.length co33)) (ok := (fun k_ => some k_ ≠ (v105 : Value).ownBlock ∧ some k_ ≠ (.slice (some ad121) t117.length co23 : Value).ownBlock)) (by (with_reducible repeat (first | apply Kd.R_alloc | apply Kd.R_drewN | apply Kd.R_drew)); exact Kd.R_mono HO_117000.out (fun _ hk => ⟨⟨hk.1, hk.2.1⟩, hk.2.2⟩)) hg (.inl rfl)); have n4_ := Aside0.mk (blk_grown (g := gb116) (o := .cells #[.slice Ao20 t113.length co20] 22 (0, 0)) (by (with_reducible repeat (first | refine blk_drewN ?_ _ | refine blk_drew ?_ | refine blk_alloc ?_ _)); exact BK116.out) hg (Kd.R_ne HO_11.out BK116.out (by decide))); have n5_ := Aside0.mk ((by rw [hw]; exact below_set (HB.out) GB33.out : Below w.heap.size w w37)); clear HO_7; clear HO_8; clear HO_11; clear HO_117000; clear BK116; clear HB; have HO_7 := n0_; have HO_8 := n1_; have HO_11 := n2_; have HO_117000 := n3_; have BK116 := n4_; have HB := n5_; clear n0_ n1_ n2_ n3_ n4_ n5_; clear hg hw hp_; have p123 : 0 ≤ ((rd t117 x45_2) : Int) := of_decide_eq_true (by first | (with_reducible assumption) | assumption); have q123 : (rd t117 x45_2) < (y122.length : Int) := (by have h_ : ((rd t117 x45_2) : Int) < ((x11_2.length : Int) : Int) := of_decide_eq_true (by first | (with_reducible assumption) | assumption); first | (have e_ := (Kd.R_reads' HO_11.out).1; omega) | simpa only [Ny122.out, List.length_set] using h_); have ql123 : (((rd t117 x45_2) : Int) < ((x11_2.length : Int) : Int)) = True := eq_true (of_decide_eq_true (by first | (with_reducible assumption) | assumption)); obtain ⟨ad123, e123, hx123_0⟩ := Kd.at_int (Kd.R_reads' HO_11.out).2.2 (rd t117 x45_2) p123 q123; obtain rfl : (⟨go33, 0, none⟩ : Addr) = ad123 := (by injection e123); (first | simp only [add_plain] at hx123_0 | simp only [add_at] at hx123_0 | simp only [Addr.add, Nat.zero_add] at hx123_0 | skip); replace p123 := eq_true p123; replace q123 := eq_true q123; have p35 : 0 ≤ ((rd t117 x45_2) : Int) := of_decide_eq_true (by first | (with_reducible assumption) | assumption); have q35 : ((rd t117 x45_2) : Int) < ((x11_2.length : Int) : Int) := of_decide_eq_true (by first | (with_reducible assumption) | assumption); obtain ⟨hx35_0, hf35_0⟩ := Kd.R_celln 0 HO_11.out ((rd t117 x45_2) : Int) p35 q35; replace p35 := eq_true p35; replace q35 := eq_true q35; obtain ⟨hy38_, hz38_⟩ := Kd.R_celln 0 HO_11.out ((rd t117 x45_2) : Int) (of_decide_eq_true (by first | (with_reducible assumption) | assumption)) (of_decide_eq_true (by first | (with_reducible assumption) | assumption)); have HP38 := Kd.R_putg HO_11.out ((rd t117 x45_2) : Int) (wrap64 ((rd y122 (rd t117 x45_2)) + 1))) | ((with_reducible refine gate_store (t := 3) (p := 70) rfl ?_); (try (rw [drewN_self w37]; generalize hq_ : World.drewN w37 _ = w37; have n0_ := Aside0.mk (Kd.R_at hq_ HO_7.out); have n1_ := Aside0.mk (Kd.R_at hq_ HO_8.out); have n2_ := Aside0.mk (Kd.R_at hq_ HO_11.out); have n3_ := Aside0.mk (Kd.R_at hq_ HO_117000.out); have n4_ := Aside0.mk (blk_at hq_ BK116.out); have n5_ := Aside0.mk (below_at hq_ HB.out); clear hq_ HO_7 HO_8 HO_11 HO_117000 BK116 HB; have HO_7 := n0_; have HO_8 := n1_; have HO_11 := n2_; have HO_117000 := n3_; have BK116 := n4_; have HB := n5_; clear n0_ n1_ n2_ n3_ n4_ n5_; (try (obtain ⟨hx33_0, hf33_0⟩ := Kd.R_celln 0 HO_11.out ((rd t117 x45_2) : Int) (of_eq_true p33) (of_eq_true q33))); (try (obtain ⟨hy38_, hz38_⟩ := Kd.R_celln 0 HO_11.out ((rd t117 x45_2) : Int) (of_decide_eq_true (by first | (with_reducible assumption) | assumption)) (of_decide_eq_true (by first | (with_reducible assumption) | assumption)))); (try (have HP38 := Kd.R_putg HO_11.out ((rd t117 x45_2) : Int) (wrap64 ((rd y122 (rd t117 x45_2)) + 1)))))); refine store_event (t := 3) (p := 70) (v := ?vo_w39) (w1 := (w37.setCell ⟨go33, ((rd t117 x45_2) : Int).toNat, none⟩ (.int .i64 (wrap64 ((rd y122 (rd t117 x45_2)) + 1))))) ?hg ?ho ?hn ?hr ?_; (case ho => rfl); (case hg => rfl); (case hn => rfl); (case hr => first | (go_simp; done) | (go_simp; rfl)); intro w39 hw; have hg : w37.grownBy w39 (some go33) := (by rw [hw]; exact HP38.2); have hp_ : Kd.R (Kd.int .i64) 3 w39 w.heap.size (fun k_ => some k_ ≠ (v105 : Value).ownBlock ∧ some k_ ≠ (.slice (some ad121) t117.length co23 : Value).ownBlock ∧ some k_ ≠ (.slice Ao20 t113.length co20 : Value).ownBlock) (.slice (some ⟨go33, 0, none⟩) x11_2.length co33) y124 := (by rw [hw, Ny124.out]; exact HP38.1); clear HP38; have n0_ := Aside0.mk (Kd.R_after (v := (.slice (some ⟨go33, 0, none⟩) x11_2.length co33)) (v1 := (.slice (some ⟨go33, 0, none⟩) x11_2.length co33)) (ok := (fun k_ => some k_ ≠ (.slice (some ad121) t117.length co23 : Value).ownBlock ∧ some k_ ≠ (.slice Ao20 t113.length co20 : Value).ownBlock)) (by (with_reducible repeat (first | apply Kd.R_alloc | apply Kd.R_drewN | apply Kd.R_drew)); exact HO_7.out) hg (.inl rfl)); have n1_ := Aside0.mk (Kd.R_after (v := (.slice (some ⟨go33, 0, none⟩) x11_2.length co33)) (v1 := (.slice (some ⟨go33, 0, none⟩) x11_2.length co33)) (ok := (fun k_ => some k_ ≠ (v105 : Value).ownBlock ∧ some k_ ≠ (.slice Ao20 t113.length co20 : Value).ownBlock)) (by (with_reducible repeat (first | apply Kd.R_alloc | apply Kd.R_drewN | apply Kd.R_drew)); exact HO_8.out) hg (.inl rfl)); have n2_ := Aside0.mk (hp_); have n3_ := Aside0.mk (Kd.R_after (v := (.slice (some ⟨go33, 0, none⟩) x11_2.length co33)) (v1 := (.slice (some ⟨go33, 0, none⟩) x11_2.length co33)) (ok := (fun k_ => some k_ ≠ (v105 : Value).ownBlock ∧ some k_ ≠ (.slice (some ad121) t117.length co23 : Value).ownBlock)) (by (with_reducible repeat (first | apply Kd.R_alloc | apply Kd.R_drewN | apply Kd.R_drew)); exact HO_117000.out) hg (.inl rfl)); have n4_ := Aside0.mk (blk_grown (g := gb116) (o := .cells #[.slice Ao20 t113.length co20] 22 (0, 0)) (by (with_reducible repeat (first | refine blk_drewN ?_ _ | refine blk_drew ?_ | refine blk_alloc ?_ _)); exact BK116.out) hg (Kd.R_ne HO_11.out BK116.out (by decide))); have n5_ := Aside0.mk ((by rw [hw]; exact below_set (HB.out) GB33.out : Below w.heap.size w w39)); clear HO_7; clear HO_8; clear HO_11; clear HO_117000; clear BK116; clear HB; have HO_7 := n0_; have HO_8 := n1_; have HO_11 := n2_; have HO_117000 := n3_; have BK116 := n4_; have HB := n5_; clear n0_ n1_ n2_ n3_ n4_ n5_; clear hg hw hp_)))
                                (try simp only [← hl8_2])
                                go_roundg k2
                                case measure => have := HK1.out; have := HK2.out; omega
                                case rel => exact ⟨(y124), (wrap64 (x45_2 + 1)), (by first | rfl | (simp; done) | (simp [*]; done)), H', ⟨by have := HK1.out; have := HK2.out; omega⟩, ⟨by (try simp only [hl8_2]); (with_reducible repeat (first | apply Kd.R_alloc | apply Kd.R_drewN | apply Kd.R_drew)); exact Kd.R_mono HO_7.out (fun _ hk => ⟨hk.1.1, ⟨hk.2, hk.1.2⟩⟩)⟩, ⟨by (try simp only [hl8_2]); (with_reducible repeat (first | apply Kd.R_alloc | apply Kd.R_drewN | apply Kd.R_drew)); exact Kd.R_mono HO_8.out (fun _ hk => ⟨hk.1.1, ⟨hk.2, hk.1.2⟩⟩)⟩, ⟨by (try simp only [hl8_2]); (with_reducible repeat (first | apply Kd.R_alloc | apply Kd.R_drewN | apply Kd.R_drew)); exact HO_11.out⟩, ⟨by (try simp only [hl8_2]); (with_reducible repeat (first | apply Kd.R_alloc | apply Kd.R_drewN | apply Kd.R_drew)); exact Kd.R_mono HO_117000.out (fun _ hk => ⟨hk.1.1, ⟨hk.1.2, hk.2⟩⟩)⟩, ⟨by (try simp only [hl8_2]); (with_reducible repeat (first | refine blk_drewN ?_ _ | refine blk_drew ?_ | refine blk_alloc ?_ _)); exact BK116.out⟩, ⟨by repeat (first | (with_reducible first | exact HB.out | apply below_alloc | apply pw_below_drewN | apply below_drew1 | refine below_set ?_ GE116.out) | exact HB.out)⟩⟩
                              · rw [if_neg c34] at H
                                have c34b0 : decide (x45_2 < ((l1.length : Int) % (t117.length : Int))) = false := decide_eq_false c34
                                clear c34
                                try (have c34h0 := c34b0; simp only [hl8_2] at c34h0)
                                have H' := Aside0.mk H
                                clear H
                                have p121 : 0 ≤ (x45_2 : Int) := of_decide_eq_true (by first | (with_reducible assumption) | assumption)
                                have q121 : x45_2 < (t117.length : Int) := of_decide_eq_true (by first | (with_reducible assumption) | assumption)
                                obtain ⟨ad121, e121, hx121_0⟩ := Kd.at_int (Kd.R_reads' HO_8.out).2.2 x45_2 p121 q121
                                cases e121
                                replace p121 := eq_true p121
                                replace q121 := eq_true q121
                                have p33 : 0 ≤ ((rd t117 x45_2) : Int) := of_decide_eq_true (by first | (with_reducible assumption) | assumption)
                                have q33 : ((rd t117 x45_2) : Int) < ((x11_2.length : Int) : Int) := of_decide_eq_true (by first | (with_reducible assumption) | assumption)
                                obtain ⟨go33, co33, eo33, gb33, gl33, cl33, HG33⟩ := Kd.R_form HO_11.out (by omega)
                                (first | cases eo33 | (injection eo33 with ea_ en_ ec_; (first | subst ea_ | (injection ea_ with ea_; subst ea_)); subst ec_; clear en_))
                                have GB33 := Aside0.mk gb33
                                have GG33 := Aside0.mk HG33
                                clear gb33 gl33 HG33
                                obtain ⟨hx33_0, hf33_0⟩ := Kd.R_celln 0 HO_11.out ((rd t117 x45_2) : Int) p33 q33
                                replace p33 := eq_true p33
                                replace q33 := eq_true q33
                                have HP40 := Kd.R_putg HO_11.out ((rd t117 x45_2) : Int) (wrap64 ((l1.length : Int) / (t117.length : Int)))
                                go_wp2_with (first | ((with_reducible refine gate_store (t := 3) (p := 57) rfl ?_); (try (rw [drewN_self wr]; generalize hq_ : World.drewN wr _ = wr; have n0_ := Aside0.mk (Kd.R_at hq_ HO_7.out); have n1_ := Aside0.mk (Kd.R_at hq_ HO_8.out); have n2_ := Aside0.mk (Kd.R_at hq_ HO_11.out); have n3_ := Aside0.mk (Kd.R_at hq_ HO_117000.out); have n4_ := Aside0.mk (blk_at hq_ BK116.out); have n5_ := Aside0.mk (below_at hq_ HB.out); clear hq_ HO_7 HO_8 HO_11 HO_117000 BK116 HB; have HO_7 := n0_; have HO_8 := n1_; have HO_11 := n2_; have HO_117000 := n3_; have BK116 := n4_; have HB := n5_; clear n0_ n1_ n2_ n3_ n4_ n5_; (try (obtain ⟨hx33_0, hf33_0⟩ := Kd.R_celln 0 HO_11.out ((rd t117 x45_2) : Int) (of_eq_true p33) (of_eq_true q33))); (try (have HP40 := Kd.R_putg HO_11.out ((rd t117 x45_2) : Int) (wrap64 ((l1.length : Int) / (t117.length : Int))))))); refine store_event (t := 3) (p := 57) (v := ?vo_w41) (w1 := (wr.setCell ⟨go33, ((rd t117 x45_2) : Int).toNat, none⟩ (.int .i64 (wrap64 ((l1.length : Int) / (t117.length : Int)))))) ?hg ?ho ?hn ?hr ?_; (case ho => rfl); (case hg => rfl); (case hn => rfl); (case hr => first | (go_simp; done) | (go_simp; rfl)); intro w41 hw; have hg : wr.grownBy w41 (some go33) := (by rw [hw]; exact HP40.2); have hp_ : Kd.R (Kd.int .i64) 3 w41 w.heap.size (fun k_ => some k_ ≠ (v105 : Value).ownBlock ∧ some k_ ≠ (.slice (some ad121) t117.length co23 : Value).ownBlock ∧ some k_ ≠ (.slice Ao20 t113.length co20 : Value).ownBlock) (.slice (some ⟨go33, 0, none⟩) x11_2.length co33) y122 := (by rw [hw, Ny122.out]; exact HP40.1); clear HP40; have n0_ := Aside0.mk (Kd.R_after (v := (.slice (some ⟨go33, 0, none⟩) x11_2.length co33)) (v1 := (.slice (some ⟨go33, 0, none⟩) x11_2.length co33)) (ok := (fun k_ => some k_ ≠ (.slice (some ad121) t117.length co23 : Value).ownBlock ∧ some k_ ≠ (.slice Ao20 t113.length co20 : Value).ownBlock)) (by (with_reducible repeat (first | apply Kd.R_alloc | apply Kd.R_drewN | apply Kd.R_drew)); exact Kd.R_mono HO_7.out (fun _ hk => ⟨⟨hk.1, hk.2.2⟩, hk.2.1⟩)) hg (.inl rfl)); have n1_ := Aside0.mk (Kd.R_after (v := (.slice (some ⟨go33, 0, none⟩) x11_2.length co33)) (v1 := (.slice (some ⟨go33, 0, none⟩) x11_2.length co33)) (ok := (fun k_ => some k_ ≠ (v105 : Value).ownBlock ∧ some k_ ≠ (.slice Ao20 t113.length co20 : Value).ownBlock)) (by (with_reducible repeat (first | apply Kd.R_alloc | apply Kd.R_drewN | apply Kd.R_drew)); exact Kd.R_mono HO_8.out (fun _ hk => ⟨⟨hk.1, hk.2.2⟩, hk.2.1⟩)) hg (.inl rfl)); have n2_ := Aside0.mk (hp_); have n3_ := Aside0.mk (Kd.R_after (v := (.slice (some ⟨go33, 0, none⟩) x11_2.length co33)) (v1 := (.slice (some ⟨go33, 0, none⟩) x11_2.length co33)) (ok := (fun k_ => some k_ ≠ (v105 : Value).ownBlock ∧ some k_ ≠ (.slice (some ad121) t117.length co23 : Value).ownBlock)) (by (with_reducible repeat (first | apply Kd.R_alloc | apply Kd.R_drewN | apply Kd.R_drew)); exact Kd.R_mono HO_117000.out (fun _ hk => ⟨⟨hk.1, hk.2.1⟩, hk.2.2⟩)) hg (.inl rfl)); have n4_ := Aside0.mk (blk_grown (g := gb116) (o := .cells #[.slice Ao20 t113.length co20] 22 (0, 0)) (by (with_reducible repeat (first | refine blk_drewN ?_ _ | refine blk_drew ?_ | refine blk_alloc ?_ _)); exact BK116.out) hg (Kd.R_ne HO_11.out BK116.out (by decide))); have n5_ := Aside0.mk ((by rw [hw]; exact below_set (HB.out) GB33.out : Below w.heap.size w w41)); clear HO_7; clear HO_8; clear HO_11; clear HO_117000; clear BK116; clear HB; have HO_7 := n0_; have HO_8 := n1_; have HO_11 := n2_; have HO_117000 := n3_; have BK116 := n4_; have HB := n5_; clear n0_ n1_ n2_ n3_ n4_ n5_; clear hg hw hp_))
                                repeat (go_quiet (first | ((with_reducible refine gate_store (t := 3) (p := 57) rfl ?_); (try (rw [drewN_self wr]; generalize hq_ : World.drewN wr _ = wr; have n0_ := Aside0.mk (Kd.R_at hq_ HO_7.out); have n1_ := Aside0.mk (Kd.R_at hq_ HO_8.out); have n2_ := Aside0.mk (Kd.R_at hq_ HO_11.out); have n3_ := Aside0.mk (Kd.R_at hq_ HO_117000.out); have n4_ := Aside0.mk (blk_at hq_ BK116.out); have n5_ := Aside0.mk (below_at hq_ HB.out); clear hq_ HO_7 HO_8 HO_11 HO_117000 BK116 HB; have HO_7 := n0_; have HO_8 := n1_; have HO_11 := n2_; have HO_117000 := n3_; have BK116 := n4_; have HB := n5_; clear n0_ n1_ n2_ n3_ n4_ n5_; (try (obtain ⟨hx33_0, hf33_0⟩ := Kd.R_celln 0 HO_11.out ((rd t117 x45_2) : Int) (of_eq_true p33) (of_eq_true q33))); (try (have HP40 := Kd.R_putg HO_11.out ((rd t117 x45_2) : Int) (wrap64 ((l1.length : Int) / (t117.length : Int))))))); refine store_event (t := 3) (p := 57) (v := ?vo_w41) (w1 := (wr.setCell ⟨go33, ((rd t117 x45_2) : Int).toNat, none⟩ (.int .i64 (wrap64 ((l1.length : Int) / (t117.length : Int)))))) ?hg ?ho ?hn ?hr ?_; (case ho => rfl); (case hg => rfl); (case hn => rfl); (case hr => first | (go_simp; done) | (go_simp; rfl)); intro w41 hw; have hg : wr.grownBy w41 (some go33) := (by rw [hw]; exact HP40.2); have hp_ : Kd.R (Kd.int .i64) 3 w41 w.heap.size (fun k_ => some k_ ≠ (v105 : Value).ownBlock ∧ some k_ ≠ (.slice (some ad121) t117.length co23 : Value).ownBlock ∧ some k_ ≠ (.slice Ao20 t113.length co20 : Value).ownBlock) (.slice (some ⟨go33, 0, none⟩) x11_2.length co33) y122 := (by rw [hw, Ny122.out]; exact HP40.1); clear HP40; have n0_ := Aside0.mk (Kd.R_after (v := (.slice (some ⟨go33, 0, none⟩) x11_2.length co33)) (v1 := (.slice (some ⟨go33, 0, none⟩) x11_2.length co33)) (ok := (fun k_ => some k_ ≠ (.slice (some ad121) t117.length co23 : Value).ownBlock ∧ some k_ ≠ (.slice Ao20 t113.length co20 : Value).ownBlock)) (by (with_reducible repeat (first | apply Kd.R_alloc | apply Kd.R_drewN | apply Kd.R_drew)); exact Kd.R_mono HO_7.out (fun _ hk => ⟨⟨hk.1, hk.2.2⟩, hk.2.1⟩)) hg (.inl rfl)); have n1_ := Aside0.mk (Kd.R_after (v := (.slice (some ⟨go33, 0, none⟩) x11_2.length co33)) (v1 := (.slice (some ⟨go33, 0, none⟩) x11_2.length co33)) (ok := (fun k_ => some k_ ≠ (v105 : Value).ownBlock ∧ some k_ ≠ (.slice Ao20 t113.length co20 : Value).ownBlock)) (by (with_reducible repeat (first | apply Kd.R_alloc | apply Kd.R_drewN | apply Kd.R_drew)); exact Kd.R_mono HO_8.out (fun _ hk => ⟨⟨hk.1, hk.2.2⟩, hk.2.1⟩)) hg (.inl rfl)); have n2_ := Aside0.mk (hp_); have n3_ := Aside0.mk (Kd.R_after (v := (.slice (some ⟨go33, 0, none⟩) x11_2.length co33)) (v1 := (.slice (some ⟨go33, 0, none⟩) x11_2.length co33)) (ok := (fun k_ => some k_ ≠ (v105 : Value).ownBlock ∧ some k_ ≠ (.slice (some ad121) t117.length co23 : Value).ownBlock)) (by (with_reducible repeat (first | apply Kd.R_alloc | apply Kd.R_drewN | apply Kd.R_drew)); exact Kd.R_mono HO_117000.out (fun _ hk => ⟨⟨hk.1, hk.2.1⟩, hk.2.2⟩)) hg (.inl rfl)); have n4_ := Aside0.mk (blk_grown (g := gb116) (o := .cells #[.slice Ao20 t113.length co20] 22 (0, 0)) (by (with_reducible repeat (first | refine blk_drewN ?_ _ | refine blk_drew ?_ | refine blk_alloc ?_ _)); exact BK116.out) hg (Kd.R_ne HO_11.out BK116.out (by decide))); have n5_ := Aside0.mk ((by rw [hw]; exact below_set (HB.out) GB33.out : Below w.heap.size w w41)); clear HO_7; clear HO_8; clear HO_11; clear HO_117000; clear BK116; clear HB; have HO_7 := n0_; have HO_8 := n1_; have HO_11 := n2_; have HO_117000 := n3_; have BK116 := n4_; have HB := n5_; clear n0_ n1_ n2_ n3_ n4_ n5_; clear hg hw hp_)); try go_wp2_with (first | ((with_reducible refine gate_store (t := 3) (p := 57) rfl ?_); (try (rw [drewN_self wr]; generalize hq_ : World.drewN wr _ = wr; have n0_ := Aside0.mk (Kd.R_at hq_ HO_7.out); have n1_ := Aside0.mk (Kd.R_at hq_ HO_8.out); have n2_ := Aside0.mk (Kd.R_at hq_ HO_11.out); have n3_ := Aside0.mk (Kd.R_at hq_ HO_117000.out); have n4_ := Aside0.mk (blk_at hq_ BK116.out); have n5_ := Aside0.mk (below_at hq_ HB.out); clear hq_ HO_7 HO_8 HO_11 HO_117000 BK116 HB; have HO_7 := n0_; have HO_8 := n1_; have HO_11 := n2_; have HO_117000 := n3_; have BK116 := n4_; have HB := n5_; clear n0_ n1_ n2_ n3_ n4_ n5_; (try (obtain ⟨hx33_0, hf33_0⟩ := Kd.R_celln 0 HO_11.out ((rd t117 x45_2) : Int) (of_eq_true p33) (of_eq_true q33))); (try (have HP40 := Kd.R_putg HO_11.out ((rd t117 x45_2) : Int) (wrap64 ((l1.length : Int) / (t117.length : Int))))))); refine store_event (t := 3) (p := 57) (v := ?vo_w41) (w1 := (wr.setCell ⟨go33, ((rd t117 x45_2) : Int).toNat, none⟩ (.int .i64 (wrap64 ((l1.length : Int) / (t117.length : Int)))))) ?hg ?ho ?hn ?hr ?_; (case ho => rfl); (case hg => rfl); (case hn => rfl); (case hr => first | (go_simp; done) | (go_simp; rfl)); intro w41 hw; have hg : wr.grownBy w41 (some go33) := (by rw [hw]; exact HP40.2); have hp_ : Kd.R (Kd.int .i64) 3 w41 w.heap.size (fun k_ => some k_ ≠ (v105 : Value).ownBlock ∧ some k_ ≠ (.slice (some ad121) t117.length co23 : Value).ownBlock ∧ some k_ ≠ (.slice Ao20 t113.length co20 : Value).ownBlock) (.slice (some ⟨go33, 0, none⟩) x11_2.length co33) y122 := (by rw [hw, Ny122.out]; exact HP40.1); clear HP40; have n0_ := Aside0.mk (Kd.R_after (v := (.slice (some ⟨go33, 0, none⟩) x11_2.length co33)) (v1 := (.slice (some ⟨go33, 0, none⟩) x11_2.length co33)) (ok := (fun k_ => some k_ ≠ (.slice (some ad121) t117.length co23 : Value).ownBlock ∧ some k_ ≠ (.slice Ao20 t113.length co20 : Value).ownBlock)) (by (with_reducible repeat (first | apply Kd.R_alloc | apply Kd.R_drewN | apply Kd.R_drew)); exact Kd.R_mono HO_7.out (fun _ hk => ⟨⟨hk.1, hk.2.2⟩, hk.2.1⟩)) hg (.inl rfl)); have n1_ := Aside0.mk (Kd.R_after (v := (.slice (some ⟨go33, 0, none⟩) x11_2.length co33)) (v1 := (.slice (some ⟨go33, 0, none⟩) x11_2.length co33)) (ok := (fun k_ => some k_ ≠ (v105 : Value).ownBlock ∧ some k_ ≠ (.slice Ao20 t113.length co20 : Value).ownBlock)) (by (with_reducible repeat (first | apply Kd.R_alloc | apply Kd.R_drewN | apply Kd.R_drew)); exact Kd.R_mono HO_8.out (fun _ hk => ⟨⟨hk.1, hk.2.2⟩, hk.2.1⟩)) hg (.inl rfl)); have n2_ := Aside0.mk (hp_); have n3_ := Aside0.mk (Kd.R_after (v := (.slice (some ⟨go33, 0, none⟩) x11_2.length co33)) (v1 := (.slice (some ⟨go33, 0, none⟩) x11_2.length co33)) (ok := (fun k_ => some k_ ≠ (v105 : Value).ownBlock ∧ some k_ ≠ (.slice (some ad121) t117.length co23 : Value).ownBlock)) (by (with_reducible repeat (first | apply Kd.R_alloc | apply Kd.R_drewN | apply Kd.R_drew)); exact Kd.R_mono HO_117000.out (fun _ hk => ⟨⟨hk.1, hk.2.1⟩, hk.2.2⟩)) hg (.inl rfl)); have n4_ := Aside0.mk (blk_grown (g := gb116) (o := .cells #[.slice Ao20 t113.length co20] 22 (0, 0)) (by (with_reducible repeat (first | refine blk_drewN ?_ _ | refine blk_drew ?_ | refine blk_alloc ?_ _)); exact BK116.out) hg (Kd.R_ne HO_11.out BK116.out (by decide))); have n5_ := Aside0.mk ((by rw [hw]; exact below_set (HB.out) GB33.out : Below w.heap.size w w41)); clear HO_7; clear HO_8; clear HO_11; clear HO_117000; clear BK116; clear HB; have HO_7 := n0_; have HO_8 := n1_; have HO_11 := n2_; have HO_117000 := n3_; have BK116 := n4_; have HB := n5_; clear n0_ n1_ n2_ n3_ n4_ n5_; clear hg hw hp_)))
                                (try simp only [← hl8_2])
                                go_roundg k2
                                case measure => have := HK1.out; have := HK2.out; omega
                                case rel => exact ⟨(y122), (wrap64 (x45_2 + 1)), (by first | rfl | (simp; done) | (simp [*]; done)), H', ⟨by have := HK1.out; have := HK2.out; omega⟩, ⟨by (try simp only [hl8_2]); (with_reducible repeat (first | apply Kd.R_alloc | apply Kd.R_drewN | apply Kd.R_drew)); exact Kd.R_mono HO_7.out (fun _ hk => ⟨hk.1.1, ⟨hk.2, hk.1.2⟩⟩)⟩, ⟨by (try simp only [hl8_2]); (with_reducible repeat (first | apply Kd.R_alloc | apply Kd.R_drewN | apply Kd.R_drew)); exact Kd.R_mono HO_8.out (fun _ hk => ⟨hk.1.1, ⟨hk.2, hk.1.2⟩⟩)⟩, ⟨by (try simp only [hl8_2]); (with_reducible repeat (first | apply Kd.R_alloc | apply Kd.R_drewN | apply Kd.R_drew)); exact HO_11.out⟩, ⟨by (try simp only [hl8_2]); (with_reducible repeat (first | apply Kd.R_alloc | apply Kd.R_drewN | apply Kd.R_drew)); exact Kd.R_mono HO_117000.out (fun _ hk => ⟨hk.1.1, ⟨hk.1.2, hk.2⟩⟩)⟩, ⟨by (try simp only [hl8_2]); (with_reducible repeat (first | refine blk_drewN ?_ _ | refine blk_drew ?_ | refine blk_alloc ?_ _)); exact BK116.out⟩, ⟨by repeat (first | (with_reducible first | exact HB.out | apply below_alloc | apply pw_below_drewN | apply below_drew1 | refine below_set ?_ GE116.out) | exact HB.out)⟩⟩
                            · rw [if_neg c32] at H
                              exact absurd H (by simp)
                          · rw [if_neg c31] at H
                            exact absurd H (by simp)
                      · rw [if_neg c29] at H
                        exact absurd H (by simp)
                    · rw [if_neg c28] at H
                      exact absurd H (by simp)
                  · rw [if_neg c27] at H
                    have c27b0 : decide (x45_2 < (x8_1.length : Int)) = false := decide_eq_false c27
                    clear c27
                    try (have c27h0 := c27b0; simp only [hl8_2] at c27h0)
                    have H' := Aside0.mk H
                    clear H
                    obtain ⟨Ao42, co42, eo42⟩ := Kd.R_slice HO_7.out
                    subst eo42
                    go_wp2
                    repeat (go_quiet (fail); try go_wp2)
                    go_loopg [14] k2 (fun kq v14 w' => ∃ (x7_3 : List Int) (x11_3 : List Int) (x14_3 : Int) (x117000_3 : List Int) (u117000 : Value), v14 = .int .i64 x14_3 ∧ Aside0 (impl_spread.l2 kq x7_3 x11_3 x14_3 x117000_3 = some r) ∧ Aside0 (kq ≤ k2) ∧ Aside0 (Kd.R (Kd.int .i64) 3 w' w.heap.size (fun k_ => some k_ ≠ (v119 : Value).ownBlock ∧ some k_ ≠ (u117000 : Value).ownBlock) (.slice Ao42 y104.length co42) x7_3) ∧ Aside0 (Kd.R (Kd.int .i64) 3 w' w.heap.size (fun k_ => some k_ ≠ ((.slice Ao42 y104.length co42) : Value).ownBlock ∧ some k_ ≠ (u117000 : Value).ownBlock) v119 x11_3) ∧ Aside0 (Kd.R (Kd.int .i64) 3 w' w.heap.size (fun k_ => some k_ ≠ ((.slice Ao42 y104.length co42) : Value).ownBlock ∧ some k_ ≠ (v119 : Value).ownBlock) u117000 x117000_3) ∧ Aside0 (w'.heap[gb116]? = some (.cells #[u117000] 22 (0, 0))) ∧ Aside0 (Below w.heap.size w w'))
                    case atStart => exact ⟨(y104), (x11_2), (wrap64 ((y104.length : Int) - 1)), (t113), (.slice Ao20 t113.length co20), (by first | rfl | (simp; done) | (simp [*]; done)), H', ⟨Nat.le_refl _⟩, ⟨by (try simp only [hl8_2]); (with_reducible repeat (first | apply Kd.R_alloc | apply Kd.R_drewN | apply Kd.R_drew)); exact Kd.R_mono HO_7.out (fun _ hk => ⟨hk.2.1, hk.2.2⟩)⟩, ⟨by (try simp only [hl8_2]); (with_reducible repeat (first | apply Kd.R_alloc | apply Kd.R_drewN | apply Kd.R_drew)); exact Kd.R_mono HO_11.out (fun _ hk => ⟨hk.1, hk.2.2⟩)⟩, ⟨by (try simp only [hl8_2]); (with_reducible repeat (first | apply Kd.R_alloc | apply Kd.R_drewN | apply Kd.R_drew)); exact Kd.R_mono HO_117000.out (fun _ hk => ⟨hk.1, hk.2.2⟩)⟩, ⟨by (try simp only [hl8_2]); (with_reducible repeat (first | refine blk_drewN ?_ _ | refine blk_drew ?_ | refine blk_alloc ?_ _)); exact BK116.out⟩, ⟨by repeat (first | (with_reducible first | exact HB.out | apply below_alloc | apply pw_below_drewN | apply below_drew1 | refine below_set ?_ GE116.out) | exact HB.out)⟩⟩
                    case round =>
                      clear H'
                      try clear c1
                      try clear p1
                      try clear q1
                      try clear hx1
                      try clear c2
                      try clear p2
                      try clear c3
                      try clear p3
                      try clear q3
                      try clear hx3
                      try clear hf3
                      try clear c4
                      try clear c6
                      try clear p6
                      try clear c10
                      try clear c10b0
                      try clear c11
                      try clear c11b0
                      try clear c11b1
                      try clear c12
                      try clear p12
                      try clear q12
                      try clear hx12
                      try clear c16
                      try clear c16b0
                      try clear c16b1
                      try clear c17
                      try clear c17b0
                      try clear c17b1
                      try clear c27
                      try clear c27b0
                      try clear c28
                      try clear c28b0
                      try clear c29
                      try clear c29b0
                      try clear c30
                      try clear c30b0
                      try clear c30b1
                      try clear c30b2
                      try clear c31
                      try clear c31b0
                      try clear c32
                      try clear c32b0
                      try clear p33
                      try clear q33
                      try clear hx33
                      try clear hf33
                      try clear c34
                      try clear c34b0
                      try clear p35
                      try clear q35
                      try clear hx35
                      try clear hf35
                      try clear hcz21_0
                      try clear hfz21_0
                      try clear hx121_0
                      try clear hx123_0
                      try clear hx33_0
                      try clear hx35_0
                      try clear p121
                      try clear p123
                      try clear p2
                      try clear p33
                      try clear p35
                      try clear p6
                      try clear q121
                      try clear q123
                      try clear q33
                      try clear q35
                      obtain ⟨x7_3, x11_3, x14_3, x117000_3, u117000, rfl, HA, HK3, HO_7, HO_11, HO_117000, BK116, HB⟩ := hrel
                      have hl7_3 := (Kd.R_reads' HO_7.out).1
                      rw [hl7_3] at HO_7
                      (try simp only [hl7_3])
                      (try simp only [hl7_3] at BK116)
                      (try simp only [hl7_3] at HO_11)
                      (try simp only [hl7_3] at HO_117000)
                      cases gk with
                      | zero => exact absurd HA.out (by simp [impl_spread.l2])
                      | succ k3 =>
                        have H := HA.out
                        clear HA
                        simp only [impl_spread.l2] at H
                        by_cases c43 : x14_3 ≥ 0
                        · rw [if_pos c43] at H
                          have c43b0 : decide (0 ≤ x14_3) = true := decide_eq_true c43
                          clear c43
                          by_cases c44 : 0 ≤ x14_3
                          · rw [if_pos c44] at H
                            have c44b0 : decide (0 ≤ x14_3) = true := decide_eq_true c44
                            clear c44
                            by_cases c45 : x14_3 < (x7_3.length : Int)
                            · rw [if_pos c45] at H
                              have c45b0 : decide (x14_3 < (x7_3.length : Int)) = true := decide_eq_true c45
                              clear c45
                              try (have c45h0 := c45b0; simp only [hl8_2, hl7_3] at c45h0)
                              by_cases c46 : (rd x7_3 x14_3) ≥ 0
                              · rw [if_pos c46] at H
                                have c46b0 : decide (0 ≤ (rd x7_3 x14_3)) = true := decide_eq_true c46
                                clear c46
                                by_cases c47 : 0 ≤ (rd x7_3 x14_3)
                                · rw [if_pos c47] at H
                                  have c47b0 : decide (0 ≤ (rd x7_3 x14_3)) = true := decide_eq_true c47
                                  clear c47
                                  by_cases c48 : (rd x7_3 x14_3) < (x117000_3.length : Int)
                                  · rw [if_pos c48] at H
                                    have c48b0 : decide ((rd x7_3 x14_3) < (x117000_3.length : Int)) = true := decide_eq_true c48
                                    clear c48
                                    try (have c48h0 := c48b0; simp only [hl8_2, hl7_3] at c48h0)
                                    by_cases c49 : (rd x7_3 x14_3) < (x11_3.length : Int)
                                    · rw [if_pos c49] at H
                                      have c49b0 : decide ((rd x7_3 x14_3) < (x11_3.length : Int)) = true := decide_eq_true c49
                                      clear c49
                                      try (have c49h0 := c49b0; simp only [hl8_2, hl7_3] at c49h0)
                                      by_cases c50 : (rd x117000_3 (rd x7_3 x14_3)) > (rd x11_3 (rd x7_3 x14_3))
                                      · rw [if_pos c50] at H
                                        have c50b0 : decide ((rd x11_3 (rd x7_3 x14_3)) < (rd x117000_3 (rd x7_3 x14_3))) = true := decide_eq_true c50
                                        clear c50
                                        obtain ⟨y129, hy129⟩ : ∃ y_ : List Int, y_ = (x117000_3.set ((rd x7_3 x14_3) : Int).toNat (wrap64 ((rd x117000_3 (rd x7_3 x14_3)) - 1))) := ⟨_, rfl⟩
                                        replace H : (impl_spread.l2 k3 (x7_3.set (x14_3 : Int).toNat (-1)) x11_3 (wrap64 (x14_3 - 1)) y129) = some r := by first | (rw [hy129]; with_reducible exact H) | (have H2_ := (Option.bind_some _ _).symm.trans H; rw [hy129]; with_reducible exact H2_) | (have H2_ := (Option.bind_some _ _).symm.trans H; with_reducible exact H2_) | with_reducible exact H | (rw [hy129]; exact H) | exact H
                                        have Ny129 := Aside0.mk hy129
                                        clear hy129
                                        obtain ⟨y130, hy130⟩ : ∃ y_ : List Int, y_ = (x7_3.set (x14_3 : Int).toNat (-1)) := ⟨_, rfl⟩
                                        replace H : (impl_spread.l2 k3 y130 x11_3 (wrap64 (x14_3 - 1)) y129) = some r := by first | (rw [hy130]; with_reducible exact H) | (have H2_ := (Option.bind_some _ _).symm.trans H; rw [hy130]; with_reducible exact H2_) | (have H2_ := (Option.bind_some _ _).symm.trans H; with_reducible exact H2_) | with_reducible exact H | (rw [hy130]; exact H) | exact H
                                        have Ny130 := Aside0.mk hy130
                                        clear hy130
                                        have H' := Aside0.mk H
                                        clear H
                                        have p125 : 0 ≤ (x14_3 : Int) := of_decide_eq_true (by first | (with_reducible assumption) | assumption)
                                        have q125 : x14_3 < (x7_3.length : Int) := of_decide_eq_true (by first | (with_reducible assumption) | assumption)
                                        obtain ⟨ad125, e125, hx125_0⟩ := Kd.at_int (Kd.R_reads' HO_7.out).2.2 x14_3 p125 q125
                                        cases e125
                                        replace p125 := eq_true p125
                                        replace q125 := eq_true q125
                                        have hcz53_0 : wr.cell? ⟨gb116, 0, none⟩ = some (u117000) := (blk_cell BK116.out 0).trans rfl
                                        have hfz53_0 := blk_frozen BK116.out 0
                                        obtain ⟨Ao54, co54, eo54⟩ := Kd.R_slice HO_117000.out
                                        subst eo54
                                        have p126 : 0 ≤ ((rd x7_3 x14_3) : Int) := of_decide_eq_true (by first | (with_reducible assumption) | assumption)
                                        have q126 : (rd x7_3 x14_3) < (x117000_3.length : Int) := of_decide_eq_true (by first | (with_reducible assumption) | assumption)
                                        obtain ⟨ad126, e126, hx126_0⟩ := Kd.at_int (Kd.R_reads' HO_117000.out).2.2 (rd x7_3 x14_3) p126 q126
                                        cases e126
                                        replace p126 := eq_true p126
                                        replace q126 := eq_true q126
                                        obtain ⟨Ao55, co55, eo55⟩ := Kd.R_slice HO_11.out
                                        subst eo55
                                        have p127 : 0 ≤ ((rd x7_3 x14_3) : Int) := of_decide_eq_true (by first | (with_reducible assumption) | assumption)
                                        have q127 : (rd x7_3 x14_3) < (x11_3.length : Int) := of_decide_eq_true (by first | (with_reducible assumption) | assumption)
                                        obtain ⟨ad127, e127, hx127_0⟩ := Kd.at_int (Kd.R_reads' HO_11.out).2.2 (rd x7_3 x14_3) p127 q127
                                        cases e127
                                        replace p127 := eq_true p127
                                        replace q127 := eq_true q127
                                        have p128 : 0 ≤ ((rd x7_3 x14_3) : Int) := of_decide_eq_true (by first | (with_reducible assumption) | assumption)
                                        have q128 : (rd x7_3 x14_3) < (x117000_3.length : Int) := of_decide_eq_true (by first | (with_reducible assumption) | assumption)
                                        obtain ⟨ad128, e128, hx128_0⟩ := Kd.at_int (Kd.R_reads' HO_117000.out).2.2 (rd x7_3 x14_3) p128 q128
                                        obtain rfl : ad126 = ad128 := (by injection e128)
                                        replace p128 := eq_true p128
                                        replace q128 := eq_true q128
                                        have p51 : 0 ≤ ((rd x7_3 x14_3) : Int) := of_decide_eq_true (by first | (with_reducible assumption) | assumption)
                                        have q51 : ((rd x7_3 x14_3) : Int) < ((x117000_3.length : Int) : Int) := of_decide_eq_true (by first | (with_reducible assumption) | assumption)
                                        obtain ⟨go51, co51, eo51, gb51, gl51, cl51, HG51⟩ := Kd.R_form HO_117000.out (by omega)
                                        (first | cases eo51 | (injection eo51 with ea_ en_ ec_; (first | subst ea_ | (injection ea_ with ea_; subst ea_)); subst ec_; clear en_))
                                        have GB51 := Aside0.mk gb51
                                        have GG51 := Aside0.mk HG51
                                        clear gb51 gl51 HG51
                                        (first | simp only [add_plain] at hx126_0 | skip)
                                        (first | simp only [add_plain] at hx128_0 | skip)
                                        obtain ⟨hx51_0, hf51_0⟩ := Kd.R_celln 0 HO_117000.out ((rd x7_3 x14_3) : Int) p51 q51
                                        replace p51 := eq_true p51
                                        replace q51 := eq_true q51
                                        have HP56 := Kd.R_putg HO_117000.out ((rd x7_3 x14_3) : Int) (wrap64 ((rd x117000_3 (rd x7_3 x14_3)) - 1))
                                        go_wp2_with (first | ((with_reducible refine gate_store (t := 3) (p := 101) rfl ?_); (try (rw [drewN_self wr]; generalize hq_ : World.drewN wr _ = wr; have n0_ := Aside0.mk (Kd.R_at hq_ HO_7.out); have n1_ := Aside0.mk (Kd.R_at hq_ HO_11.out); have n2_ := Aside0.mk (Kd.R_at hq_ HO_117000.out); have n3_ := Aside0.mk (blk_at hq_ BK116.out); have n4_ := Aside0.mk (below_at hq_ HB.out); clear hq_ HO_7 HO_11 HO_117000 BK116 HB; have HO_7 := n0_; have HO_11 := n1_; have HO_117000 := n2_; have BK116 := n3_; have HB := n4_; clear n0_ n1_ n2_ n3_ n4_; (try (obtain ⟨hx51_0, hf51_0⟩ := Kd.R_celln 0 HO_117000.out ((rd x7_3 x14_3) : Int) (of_eq_true p51) (of_eq_true q51))); (try (have HP56 := Kd.R_putg HO_117000.out ((rd x7_3 x14_3) : Int) (wrap64 ((rd x117000_3 (rd x7_3 x14_3)) - 1)))))); refine store_event (t := 3) (p := 101) (v := ?vo_w57) (w1 := (wr.setCell ⟨go51, ((rd x7_3 x14_3) : Int).toNat, none⟩ (.int .i64 (wrap64 ((rd x117000_3 (rd x7_3 x14_3)) - 1))))) ?hg ?ho ?hn ?hr ?_; (case ho => rfl); (case hg => rfl); (case hn => rfl); (case hr => first | (go_simp; done) | (go_simp; rfl)); intro w57 hw; have hg : wr.grownBy w57 (some go51) := (by rw [hw]; exact HP56.2); have hp_ : Kd.R (Kd.int .i64) 3 w57 w.heap.size (fun k_ => some k_ ≠ (.slice (some ad125) x7_3.length co42 : Value).ownBlock ∧ some k_ ≠ (.slice (some ad127) x11_3.length co55 : Value).ownBlock) (.slice (some ⟨go51, 0, none⟩) x117000_3.length co54) y129 := (by rw [hw, Ny129.out]; exact HP56.1); clear HP56; have n0_ := Aside0.mk (Kd.R_after (v := (.slice (some ⟨go51, 0, none⟩) x117000_3.length co54)) (v1 := (.slice (some ⟨go51, 0, none⟩) x117000_3.length co54)) (ok := (fun k_ => some k_ ≠ (.slice (some ad127) x11_3.length co55 : Value).ownBlock)) (by (with_reducible repeat (first | apply Kd.R_alloc | apply Kd.R_drewN | apply Kd.R_drew)); exact HO_7.out) hg (.inl rfl)); have n1_ := Aside0.mk (Kd.R_after (v := (.slice (some ⟨go51, 0, none⟩) x117000_3.length co54)) (v1 := (.slice (some ⟨go51, 0, none⟩) x117000_3.length co54)) (ok := (fun k_ => some k_ ≠ (.slice (some ad125) x7_3.length co42 : Value).ownBlock)) (by (with_reducible repeat (first | apply Kd.R_alloc | apply Kd.R_drewN | apply Kd.R_drew)); exact HO_11.out) hg (.inl rfl)); have n2_ := Aside0.mk (hp_); have n3_ := Aside0.mk (blk_grown (g := gb116) (o := .cells #[.slice (some ⟨go51, 0, none⟩) x117000_3.length co54] 22 (0, 0)) (by (with_reducible repeat (first | refine blk_drewN ?_ _ | refine blk_drew ?_ | refine blk_alloc ?_ _)); exact BK116.out) hg (Kd.R_ne HO_117000.out BK116.out (by decide))); have n4_ := Aside0.mk ((by rw [hw]; exact below_set (HB.out) GB51.out : Below w.heap.size w w57)); clear HO_7; clear HO_11; clear HO_117000; clear BK116; clear HB; have HO_7 := n0_; have HO_11 := n1_; have HO_117000 := n2_; have BK116 := n3_; have HB := n4_; clear n0_ n1_ n2_ n3_ n4_; clear hg hw hp_; have p52 : 0 ≤ (x14_3 : Int) := of_decide_eq_true (by first | (with_reducible assumption) | assumption); have q52 : (x14_3 : Int) < ((x7_3.length : Int) : Int) := of_decide_eq_true (by first | (with_reducible assumption) | assumption); obtain ⟨go52, co52, eo52, gb52, gl52, cl52, HG52⟩ := Kd.R_form HO_7.out (by omega); (first | cases eo52 | (injection eo52 with ea_ en_ ec_; (first | subst ea_ | (injection ea_ with ea_; subst ea_)); subst ec_; clear en_)); have GB52 := Aside0.mk gb52; have GG52 := Aside0.mk HG52; clear gb52 gl52 HG52; (first | simp only [add_plain] at hx125_0 | skip); obtain ⟨hx52_0, hf52_0⟩ := Kd.R_celln 0 HO_7.out (x14_3 : Int) p52 q52; replace p52 := eq_true p52; replace q52 := eq_true q52; obtain ⟨hy58_, hz58_⟩ := Kd.R_celln 0 HO_7.out (x14_3 : Int) (of_decide_eq_true (by first | (with_reducible assumption) | assumption)) (of_decide_eq_true (by first | (with_reducible assumption) | assumption)); have HP58 := Kd.R_putg HO_7.out (x14_3 : Int) (-1)) | ((with_reducible refine gate_store (t := 3) (p := 104) rfl ?_); (try (rw [drewN_self w57]; generalize hq_ : World.drewN w57 _ = w57; have n0_ := Aside0.mk (Kd.R_at hq_ HO_7.out); have n1_ := Aside0.mk (Kd.R_at hq_ HO_11.out); have n2_ := Aside0.mk (Kd.R_at hq_ HO_117000.out); have n3_ := Aside0.mk (blk_at hq_ BK116.out); have n4_ := Aside0.mk (below_at hq_ HB.out); clear hq_ HO_7 HO_11 HO_117000 BK116 HB; have HO_7 := n0_; have HO_11 := n1_; have HO_117000 := n2_; have BK116 := n3_; have HB := n4_; clear n0_ n1_ n2_ n3_ n4_; (try (obtain ⟨hy58_, hz58_⟩ := Kd.R_celln 0 HO_7.out (x14_3 : Int) (of_decide_eq_true (by first | (with_reducible assumption) | assumption)) (of_decide_eq_true (by first | (with_reducible assumption) | assumption)))); (try (have HP58 := Kd.R_putg HO_7.out (x14_3 : Int) (-1))))); refine store_event (t := 3) (p := 104) (v := ?vo_w59) (w1 := (w57.setCell ⟨go52, (x14_3 : Int).toNat, none⟩ (.int .i64 (-1)))) ?hg ?ho ?hn ?hr ?_; (case ho => rfl); (case hg => rfl); (case hn => rfl); (case hr => first | (go_simp; done) | (go_simp; rfl)); intro w59 hw; have hg : w57.grownBy w59 (some go52) := (by rw [hw]; exact HP58.2); have hp_ : Kd.R (Kd.int .i64) 3 w59 w.heap.size (fun k_ => some k_ ≠ (.slice (some ad127) x11_3.length co55 : Value).ownBlock ∧ some k_ ≠ (.slice (some ⟨go51, 0, none⟩) x117000_3.length co54 : Value).ownBlock) (.slice (some ⟨go52, 0, none⟩) x7_3.length co42) y130 := (by rw [hw, Ny130.out]; exact HP58.1); clear HP58; have n0_ := Aside0.mk (hp_); have n1_ := Aside0.mk (Kd.R_after (v := (.slice (some ⟨go52, 0, none⟩) x7_3.length co42)) (v1 := (.slice (some ⟨go52, 0, none⟩) x7_3.length co42)) (ok := (fun k_ => some k_ ≠ (.slice (some ⟨go51, 0, none⟩) x117000_3.length co54 : Value).ownBlock)) (by (with_reducible repeat (first | apply Kd.R_alloc | apply Kd.R_drewN | apply Kd.R_drew)); exact Kd.R_mono HO_11.out (fun _ hk => ⟨hk.2, hk.1⟩)) hg (.inl rfl)); have n2_ := Aside0.mk (Kd.R_after (v := (.slice (some ⟨go52, 0, none⟩) x7_3.length co42)) (v1 := (.slice (some ⟨go52, 0, none⟩) x7_3.length co42)) (ok := (fun k_ => some k_ ≠ (.slice (some ad127) x11_3.length co55 : Value).ownBlock)) (by (with_reducible repeat (first | apply Kd.R_alloc | apply Kd.R_drewN | apply Kd.R_drew)); exact Kd.R_mono HO_117000.out (fun _ hk => ⟨hk.2, hk.1⟩)) hg (.inl rfl)); have n3_ := Aside0.mk (blk_grown (g := gb116) (o := .cells #[.slice (some ⟨go51, 0, none⟩) x117000_3.length co54] 22 (0, 0)) (by (with_reducible repeat (first | refine blk_drewN ?_ _ | refine blk_drew ?_ | refine blk_alloc ?_ _)); exact BK116.out) hg (Kd.R_ne HO_7.out BK116.out (by decide))); have n4_ := Aside0.mk ((by rw [hw]; exact below_set (HB.out) GB52.out : Below w.heap.size w w59)); clear HO_7; clear HO_11; clear HO_117000; clear BK116; clear HB; have HO_7 := n0_; have HO_11 := n1_; have HO_117000 := n2_; have BK116 := n3_; have HB := n4_; clear n0_ n1_ n2_ n3_ n4_; clear hg hw hp_))
                                        repeat (go_quiet (first | ((with_reducible refine gate_store (t := 3) (p := 101) rfl ?_); (try (rw [drewN_self wr]; generalize hq_ : World.drewN wr _ = wr; have n0_ := Aside0.mk (Kd.R_at hq_ HO_7.out); have n1_ := Aside0.mk (Kd.R_at hq_ HO_11.out); have n2_ := Aside0.mk (Kd.R_at hq_ HO_117000.out); have n3_ := Aside0.mk (blk_at hq_ BK116.out); have n4_ := Aside0.mk (below_at hq_ HB.out); clear hq_ HO_7 HO_11 HO_117000 BK116 HB; have HO_7 := n0_; have HO_11 := n1_; have HO_117000 := n2_; have BK116 := n3_; have HB := n4_; clear n0_ n1_ n2_ n3_ n4_; (try (obtain ⟨hx51_0, hf51_0⟩ := Kd.R_celln 0 HO_117000.out ((rd x7_3 x14_3) : Int) (of_eq_true p51) (of_eq_true q51))); (try (have HP56 := Kd.R_putg HO_117000.out ((rd x7_3 x14_3) : Int) (wrap64 ((rd x117000_3 (rd x7_3 x14_3)) - 1)))))); refine store_event (t := 3) (p := 101) (v := ?vo_w57) (w1 := (wr.setCell ⟨go51, ((rd x7_3 x14_3) : Int).toNat, none⟩ (.int .i64 (wrap64 ((rd x117000_3 (rd x7_3 x14_3)) - 1))))) ?hg ?ho ?hn ?hr ?_; (case ho => rfl); (case hg => rfl); (case hn => rfl); (case hr => first | (go_simp; done) | (go_simp; rfl)); intro w57 hw; have hg : wr.grownBy w57 (some go51) := (by rw [hw]; exact HP56.2); have hp_ : Kd.R (Kd.int .i64) 3 w57 w.heap.size (fun k_ => some k_ ≠ (.slice (some ad125) x7_3.length co42 : Value).ownBlock ∧ some k_ ≠ (.slice (some ad127) x11_3.length co55 : Value).ownBlock) (.slice (some ⟨go51, 0, none⟩) x117000_3.length co54) y129 := (by rw [hw, Ny129.out]; exact HP56.1); clear HP56; have n0_ := Aside0.mk (Kd.R_after (v := (.slice (some ⟨go51, 0, none⟩) x117000_3.length co54)) (v1 := (.slice (some ⟨go51, 0, none⟩) x117000_3.length co54)) (ok := (fun k_ => some k_ ≠ (.slice (some ad127) x11_3.length co55 : Value).ownBlock)) (by (with_reducible repeat (first | apply Kd.R_alloc | apply Kd.R_drewN | apply Kd.R_drew)); exact HO_7.out) hg (.inl rfl)); have n1_ := Aside0.mk (Kd.R_after (v := (.slice (some ⟨go51, 0, none⟩) x117000_3.length co54)) (v1 := (.slice (some ⟨go51, 0, none⟩) x117000_3.length co54)) (ok := (fun k_ => some k_ ≠ (.slice (some ad125) x7_3.length co42 : Value).ownBlock)) (by (with_reducible repeat (first | apply Kd.R_alloc | apply Kd.R_drewN | apply Kd.R_drew)); exact HO_11.out) hg (.inl rfl)); have n2_ := Aside0.mk (hp_); have n3_ := Aside0.mk (blk_grown (g := gb116) (o := .cells #[.slice (some ⟨go51, 0, none⟩) x117000_3.length co54] 22 (0, 0)) (by (with_reducible repeat (first | refine blk_drewN ?_ _ | refine blk_drew ?_ | refine blk_alloc ?_ _)); exact BK116.out) hg (Kd.R_ne HO_117000.out BK116.out (by decide))); have n4_ := Aside0.mk ((by rw [hw]; exact below_set (HB.out) GB51.out : Below w.heap.size w w57)); clear HO_7; clear HO_11; clear HO_117000; clear BK116; clear HB; have HO_7 := n0_; have HO_11 := n1_; have HO_117000 := n2_; have BK116 := n3_; have HB := n4_; clear n0_ n1_ n2_ n3_ n4_; clear hg hw hp_; have p52 : 0 ≤ (x14_3 : Int) := of_decide_eq_true (by first | (with_reducible assumption) | assumption); have q52 : (x14_3 : Int) < ((x7_3.length : Int) : Int) := of_decide_eq_true (by first | (with_reducible assumption) | assumption); obtain ⟨go52, co52, eo52, gb52, gl52, cl52, HG52⟩ := Kd.R_form HO_7.out (by omega); (first | cases eo52 | (injection eo52 with ea_ en_ ec_; (first | subst ea_ | (injection ea_ with ea_; subst ea_)); subst ec_; clear en_)); have GB52 := Aside0.mk gb52; have GG52 := Aside0.mk HG52; clear gb52 gl52 HG52; (first | simp only [add_plain] at hx125_0 | skip); obtain ⟨hx52_0, hf52_0⟩ := Kd.R_celln 0 HO_7.out (x14_3 : Int) p52 q52; replace p52 := eq_true p52; replace q52 := eq_true q52; obtain ⟨hy58_, hz58_⟩ := Kd.R_celln 0 HO_7.out (x14_3 : Int) (of_decide_eq_true (by first | (with_reducible assumption) | assumption)) (of_decide_eq_true (by first | (with_reducible assumption) | assumption)); have HP58 := Kd.R_putg HO_7.out (x14_3 : Int) (-1)) | ((with_reducible refine gate_store (t := 3) (p := 104) rfl ?_); (try (rw [drewN_self w57]; generalize hq_ : World.drewN w57 _ = w57; have n0_ := Aside0.mk (Kd.R_at hq_ HO_7.out); have n1_ := Aside0.mk (Kd.R_at hq_ HO_11.out); have n2_ := Aside0.mk (Kd.R_at hq_ HO_117000.out); have n3_ := Aside0.mk (blk_at hq_ BK116.out); have n4_ := Aside0.mk (below_at hq_ HB.out); clear hq_ HO_7 HO_11 HO_117000 BK116 HB; have HO_7 := n0_; have HO_11 := n1_; have HO_117000 := n2_; have BK116 := n3_; have HB := n4_; clear n0_ n1_ n2_ n3_ n4_; (try (obtain ⟨hy58_, hz58_⟩ := Kd.R_celln 0 HO_7.out (x14_3 : Int) (of_decide_eq_true (by first | (with_reducible assumption) | assumption)) (of_decide_eq_true (by first | (with_reducible assumption) | assumption)))); (try (have HP58 := Kd.R_putg HO_7.out (x14_3 : Int) (-1))))); refine store_event (t := 3) (p := 104) (v := ?vo_w59) (w1 := (w57.setCell ⟨go52, (x14_3 : Int).toNat, none⟩ (.int .i64 (-1)))) ?hg ?ho ?hn ?hr ?_; (case ho => rfl); (case hg => rfl); (case hn => rfl); (case hr => first | (go_simp; done) | (go_simp; rfl)); intro w59 hw; have hg : w57.grownBy w59 (some go52) := (by rw [hw]; exact HP58.2); have hp_ : Kd.R (Kd.int .i64) 3 w59 w.heap.size (fun k_ => some k_ ≠ (.slice (some ad127) x11_3.length co55 : Value).ownBlock ∧ some k_ ≠ (.slice (some ⟨go51, 0, none⟩) x117000_3.length co54 : Value).ownBlock) (.slice (some ⟨go52, 0, none⟩) x7_3.length co42) y130 := (by rw [hw, Ny130.out]; exact HP58.1); clear HP58; have n0_ := Aside0.mk (hp_); have n1_ := Aside0.mk (Kd.R_after (v := (.slice (some ⟨go52, 0, none⟩) x7_3.length co42)) (v1 := (.slice (some ⟨go52, 0, none⟩) x7_3.length co42)) (ok := (fun k_ => some k_ ≠ (.slice (some ⟨go51, 0, none⟩) x117000_3.length co54 : Value).ownBlock)) (by (with_reducible repeat (first | apply Kd.R_alloc | apply Kd.R_drewN | apply Kd.R_drew)); exact Kd.R_mono HO_11.out (fun _ hk => ⟨hk.2, hk.1⟩)) hg (.inl rfl)); have n2_ := Aside0.mk (Kd.R_after (v := (.slice (some ⟨go52, 0, none⟩) x7_3.length co42)) (v1 := (.slice (some ⟨go52, 0, none⟩) x7_3.length co42)) (ok := (fun k_ => some k_ ≠ (.slice (some ad127) x11_3.length co55 : Value).ownBlock)) (by (with_reducible repeat (first | apply Kd.R_alloc | apply Kd.R_drewN | apply Kd.R_drew)); exact Kd.R_mono HO_117000.out (fun _ hk => ⟨hk.2, hk.1⟩)) hg (.inl rfl)); have n3_ := Aside0.mk (blk_grown (g := gb116) (o := .cells #[.slice (some ⟨go51, 0, none⟩) x117000_3.length co54] 22 (0, 0)) (by (with_reducible repeat (first | refine blk_drewN ?_ _ | refine blk_drew ?_ | refine blk_alloc ?_ _)); exact BK116.out) hg (Kd.R_ne HO_7.out BK116.out (by decide))); have n4_ := Aside0.mk ((by rw [hw]; exact below_set (HB.out) GB52.out : Below w.heap.size w w59)); clear HO_7; clear HO_11; clear HO_117000; clear BK116; clear HB; have HO_7 := n0_; have HO_11 := n1_; have HO_117000 := n2_; have BK116 := n3_; have HB := n4_; clear n0_ n1_ n2_ n3_ n4_; clear hg hw hp_)); try go_wp2_with (first | ((with_reducible refine gate_store (t := 3) (p := 101) rfl ?_); (try (rw [drewN_self wr]; generalize hq_ : World.drewN wr _ = wr; have n0_ := Aside0.mk (Kd.R_at hq_ HO_7.out); have n1_ := Aside0.mk (Kd.R_at hq_ HO_11.out); have n2_ := Aside0.mk (Kd.R_at hq_ HO_117000.out); have n3_ := Aside0.mk (blk_at hq_ BK116.out); have n4_ := Aside0.mk (below_at hq_ HB.out); clear hq_ HO_7 HO_11 HO_117000 BK116 HB; have HO_7 := n0_; have HO_11 := n1_; have HO_117000 := n2_; have BK116 := n3_; have HB := n4_; clear n0_ n1_ n2_ n3_ n4_; (try (obtain ⟨hx51_0, hf51_0⟩ := Kd.R_celln 0 HO_117000.out ((rd x7_3 x14_3) : Int) (of_eq_true p51) (of_eq_true q51))); (try (have HP56 := Kd.R_putg HO_117000.out ((rd x7_3 x14_3) : Int) (wrap64 ((rd x117000_3 (rd x7_3 x14_3)) - 1)))))); refine store_event (t := 3) (p := 101) (v := ?vo_w57) (w1 := (wr.setCell ⟨go51, ((rd x7_3 x14_3) : Int).toNat, none⟩ (.int .i64 (wrap64 ((rd x117000_3 (rd x7_3 x14_3)) - 1))))) ?hg ?ho ?hn ?hr ?_; (case ho => rfl); (case hg => rfl); (case hn => rfl); (case hr => first | (go_simp; done) | (go_simp; rfl)); intro w57 hw; have hg : wr.grownBy w57 (some go51) := (by rw [hw]; exact HP56.2); have hp_ : Kd.R (Kd.int .i64) 3 w57 w.heap.size (fun k_ => some k_ ≠ (.slice (some ad125) x7_3.length co42 : Value).ownBlock ∧ some k_ ≠ (.slice (some ad127) x11_3.length co55 : Value).ownBlock) (.slice (some ⟨go51, 0, none⟩) x117000_3.length co54) y129 := (by rw [hw, Ny129.out]; exact HP56.1); clear HP56; have n0_ := Aside0.mk (Kd.R_after (v := (.slice (some ⟨go51, 0, none⟩) x117000_3.length co54)) (v1 := (.slice (some ⟨go51, 0, none⟩) x117000_3.length co54)) (ok := (fun k_ => some k_ ≠ (.slice (some ad127) x11_3.length co55 : Value).ownBlock)) (by (with_reducible repeat (first | apply Kd.R_alloc | apply Kd.R_drewN | apply Kd.R_drew)); exact HO_7.out) hg (.inl rfl)); have n1_ := Aside0.mk (Kd.R_after (v := (.slice (some ⟨go51, 0, none⟩) x117000_3.length co54)) (v1 := (.slice (some ⟨go51, 0, none⟩) x117000_3.length co54)) (ok := (fun k_ => some k_ ≠ (.slice (some ad125) x7_3.length co42 : Value).ownBlock)) (by (with_reducible repeat (first | apply Kd.R_alloc | apply Kd.R_drewN | apply Kd.R_drew)); exact HO_11.out) hg (.inl rfl)); have n2_ := Aside0.mk (hp_); have n3_ := Aside0.mk (blk_grown (g := gb116) (o := .cells #[.slice (some ⟨go51, 0, none⟩) x117000_3.length co54] 22 (0, 0)) (by (with_reducible repeat (first | refine blk_drewN ?_ _ | refine blk_drew ?_ | refine blk_alloc ?_ _)); exact BK116.out) hg (Kd.R_ne HO_117000.out BK116.out (by decide))); have n4_ := Aside0.mk ((by rw [hw]; exact below_set (HB.out) GB51.out : Below w.heap.size w w57)); clear HO_7; clear HO_11; clear HO_117000; clear BK116; clear HB; have HO_7 := n0_; have HO_11 := n1_; have HO_117000 := n2_; have BK116 := n3_; have HB := n4_; clear n0_ n1_ n2_ n3_ n4_; clear hg hw hp_; have p52 : 0 ≤ (x14_3 : Int) := of_decide_eq_true (by first | (with_reducible assumption) | assumption); have q52 : (x14_3 : Int) < ((x7_3.length : Int) : Int) := of_decide_eq_true (by first | (with_reducible assumption) | assumption); obtain ⟨go52, co52, eo52, gb52, gl52, cl52, HG52⟩ := Kd.R_form HO_7.out (by omega); (first | cases eo52 | (injection eo52 with ea_ en_ ec_; (first | subst ea_ | (injection ea_ with ea_; subst ea_)); subst ec_; clear en_)); have GB52 := Aside0.mk gb52; have GG52 := Aside0.mk HG52; clear gb52 gl52 HG52; (first | simp only [add_plain] at hx125_0 | skip); obtain ⟨hx52_0, hf52_0⟩ := Kd.R_celln 0 HO_7.out (x14_3 : Int) p52 q52; replace p52 := eq_true p52; replace q52 := eq_true q52; obtain ⟨hy58_, hz58_⟩ := Kd.R_celln 0 HO_7.out (x14_3 : Int) (of_decide_eq_true (by first | (with_reducible assumption) | assumption)) (of_decide_eq_true (by first | (with_reducible assumption) | assumption)); have HP58 := Kd.R_putg HO_7.out (x14_3 : Int) (-1)) | ((with_reducible refine gate_store (t := 3) (p := 104) rfl ?_); (try (rw [drewN_self w57]; generalize hq_ : World.drewN w57 _ = w57; have n0_ := Aside0.mk (Kd.R_at hq_ HO_7.out); have n1_ := Aside0.mk (Kd.R_at hq_ HO_11.out); have n2_ := Aside0.mk (Kd.R_at hq_ HO_117000.out); have n3_ := Aside0.mk (blk_at hq_ BK116.out); have n4_ := Aside0.mk (below_at hq_ HB.out); clear hq_ HO_7 HO_11 HO_117000 BK116 HB; have HO_7 := n0_; have HO_11 := n1_; have HO_117000 := n2_; have BK116 := n3_; have HB := n4_; clear n0_ n1_ n2_ n3_ n4_; (try (obtain ⟨hy58_, hz58_⟩ := Kd.R_celln 0 HO_7.out (x14_3 : Int) (of_decide_eq_true (by first | (with_reducible assumption) | assumption)) (of_decide_eq_true (by first | (with_reducible assumption) | assumption)))); (try (have HP58 := Kd.R_putg HO_7.out (x14_3 : Int) (-1))))); refine store_event (t := 3) (p := 104) (v := ?vo_w59) (w1 := (w57.setCell ⟨go52, (x14_3 : Int).toNat, none⟩ (.int .i64 (-1)))) ?hg ?ho ?hn ?hr ?_; (case ho => rfl); (case hg => rfl); (case hn => rfl); (case hr => first | (go_simp; done) | (go_simp; rfl)); intro w59 hw; have hg : w57.grownBy w59 (some go52) := (by rw [hw]; exact HP58.2); have hp_ : Kd.R (Kd.int .i64) 3 w59 w.heap.size (fun k_ => some k_ ≠ (.slice (some ad127) x11_3.length co55 : Value).ownBlock ∧ some k_ ≠ (.slice (some ⟨go51, 0, none⟩) x117000_3.length co54 : Value).ownBlock) (.slice (some ⟨go52, 0, none⟩) x7_3.length co42) y130 := (by rw [hw, Ny130.out]; exact HP58.1); clear HP58; have n0_ := Aside0.mk (hp_); have n1_ := Aside0.mk (Kd.R_after (v := (.slice (some ⟨go52, 0, none⟩) x7_3.length co42)) (v1 := (.slice (some ⟨go52, 0, none⟩) x7_3.length co42)) (ok := (fun k_ => some k_ ≠ (.slice (some ⟨go51, 0, none⟩) x117000_3.length co54 : Value).ownBlock)) (by (with_reducible repeat (first | apply Kd.R_alloc | apply Kd.R_drewN | apply Kd.R_drew)); exact Kd.R_mono HO_11.out (fun _ hk => ⟨hk.2, hk.1⟩)) hg (.inl rfl)); have n2_ := Aside0.mk (Kd.R_after (v := (.slice (some ⟨go52, 0, none⟩) x7_3.length co42)) (v1 := (.slice (some ⟨go52, 0, none⟩) x7_3.length co42)) (ok := (fun k_ => some k_ ≠ (.slice (some ad127) x11_3.length co55 : Value).ownBlock)) (by (with_reducible repeat (first | apply Kd.R_alloc | apply Kd.R_drewN | apply Kd.R_drew)); exact Kd.R_mono HO_117000.out (fun _ hk => ⟨hk.2, hk.1⟩)) hg (.inl rfl)); have n3_ := Aside0.mk (blk_grown (g := gb116) (o := .cells #[.slice (some ⟨go51, 0, none⟩) x117000_3.length co54] 22 (0, 0)) (by (with_reducible repeat (first | refine blk_drewN ?_ _ | refine blk_drew ?_ | refine blk_alloc ?_ _)); exact BK116.out) hg (Kd.R_ne HO_7.out BK116.out (by decide))); have n4_ := Aside0.mk ((by rw [hw]; exact below_set (HB.out) GB52.out : Below w.heap.size w w59)); clear HO_7; clear HO_11; clear HO_117000; clear BK116; clear HB; have HO_7 := n0_; have HO_11 := n1_; have HO_117000 := n2_; have BK116 := n3_; have HB := n4_; clear n0_ n1_ n2_ n3_ n4_; clear hg hw hp_)))
                                        (try simp only [← hl7_3])
                                        go_roundg k3
                                        case measure => have := HK1.out; have := HK2.out; have := HK3.out; omega
                                        case rel => exact ⟨(y130), (x11_3), (wrap64 (x14_3 - 1)), (y129), (.slice (some ⟨go51, 0, none⟩) x117000_3.length co54), (by first | rfl | (simp; done) | (simp [*]; done)), H', ⟨by have := HK1.out; have := HK2.out; have := HK3.out; omega⟩, ⟨by (try simp only [hl8_2]); (try simp only [hl7_3]); (with_reducible repeat (first | apply Kd.R_alloc | apply Kd.R_drewN | apply Kd.R_drew)); exact HO_7.out⟩, ⟨by (try simp only [hl8_2]); (try simp only [hl7_3]); (with_reducible repeat (first | apply Kd.R_alloc | apply Kd.R_drewN | apply Kd.R_drew)); exact Kd.R_mono HO_11.out (fun _ hk => ⟨hk.2, hk.1⟩)⟩, ⟨by (try simp only [hl8_2]); (try simp only [hl7_3]); (with_reducible repeat (first | apply Kd.R_alloc | apply Kd.R_drewN | apply Kd.R_drew)); exact Kd.R_mono HO_117000.out (fun _ hk => ⟨hk.2, hk.1⟩)⟩, ⟨by (try simp only [hl8_2]); (try simp only [hl7_3]); (with_reducible repeat (first | refine blk_drewN ?_ _ | refine blk_drew ?_ | refine blk_alloc ?_ _)); exact BK116.out⟩, ⟨by repeat (first | (with_reducible first | exact HB.out | apply below_alloc | apply pw_below_drewN | apply below_drew1 | refine below_set ?_ GE116.out) | exact HB.out)⟩⟩
                                      · rw [if_neg c50] at H
                                        have c50b0 : decide ((rd x11_3 (rd x7_3 x14_3)) < (rd x117000_3 (rd x7_3 x14_3))) = false := decide_eq_false c50
                                        clear c50
                                        have H' := Aside0.mk H
                                        clear H
                                        have p125 : 0 ≤ (x14_3 : Int) := of_decide_eq_true (by first | (with_reducible assumption) | assumption)
                                        have q125 : x14_3 < (x7_3.length : Int) := of_decide_eq_true (by first | (with_reducible assumption) | assumption)
                                        obtain ⟨ad125, e125, hx125_0⟩ := Kd.at_int (Kd.R_reads' HO_7.out).2.2 x14_3 p125 q125
                                        cases e125
                                        replace p125 := eq_true p125
                                        replace q125 := eq_true q125
                                        have hcz60_0 : wr.cell? ⟨gb116, 0, none⟩ = some (u117000) := (blk_cell BK116.out 0).trans rfl
                                        have hfz60_0 := blk_frozen BK116.out 0
                                        obtain ⟨Ao61, co61, eo61⟩ := Kd.R_slice HO_117000.out
                                        subst eo61
                                        have p126 : 0 ≤ ((rd x7_3 x14_3) : Int) := of_decide_eq_true (by first | (with_reducible assumption) | assumption)
                                        have q126 : (rd x7_3 x14_3) < (x117000_3.length : Int) := of_decide_eq_true (by first | (with_reducible assumption) | assumption)
                                        obtain ⟨ad126, e126, hx126_0⟩ := Kd.at_int (Kd.R_reads' HO_117000.out).2.2 (rd x7_3 x14_3) p126 q126
                                        cases e126
                                        replace p126 := eq_true p126
                                        replace q126 := eq_true q126
                                        obtain ⟨Ao62, co62, eo62⟩ := Kd.R_slice HO_11.out
                                        subst eo62
                                        have p127 : 0 ≤ ((rd x7_3 x14_3) : Int) := of_decide_eq_true (by first | (with_reducible assumption) | assumption)
                                        have q127 : (rd x7_3 x14_3) < (x11_3.length : Int) := of_decide_eq_true (by first | (with_reducible assumption) | assumption)
                                        obtain ⟨ad127, e127, hx127_0⟩ := Kd.at_int (Kd.R_reads' HO_11.out).2.2 (rd x7_3 x14_3) p127 q127
                                        cases e127
                                        replace p127 := eq_true p127
                                        replace q127 := eq_true q127
                                        go_wp2
                                        repeat (go_quiet (fail); try go_wp2)
                                        (try simp only [← hl7_3])
                                        go_roundg k3
                                        case measure => have := HK1.out; have := HK2.out; have := HK3.out; omega
                                        case rel => exact ⟨(x7_3), (x11_3), (wrap64 (x14_3 - 1)), (x117000_3), (.slice (some ad126) x117000_3.length co61), (by first | rfl | (simp; done) | (simp [*]; done)), H', ⟨by have := HK1.out; have := HK2.out; have := HK3.out; omega⟩, ⟨by (try simp only [hl8_2]); (try simp only [hl7_3]); (with_reducible repeat (first | apply Kd.R_alloc | apply Kd.R_drewN | apply Kd.R_drew)); exact HO_7.out⟩, ⟨by (try simp only [hl8_2]); (try simp only [hl7_3]); (with_reducible repeat (first | apply Kd.R_alloc | apply Kd.R_drewN | apply Kd.R_drew)); exact HO_11.out⟩, ⟨by (try simp only [hl8_2]); (try simp only [hl7_3]); (with_reducible repeat (first | apply Kd.R_alloc | apply Kd.R_drewN | apply Kd.R_drew)); exact HO_117000.out⟩, ⟨by (try simp only [hl8_2]); (try simp only [hl7_3]); (with_reducible repeat (first | refine blk_drewN ?_ _ | refine blk_drew ?_ | refine blk_alloc ?_ _)); exact BK116.out⟩, ⟨by repeat (first | (with_reducible first | exact HB.out | apply below_alloc | apply pw_below_drewN | apply below_drew1 | refine below_set ?_ GE116.out) | exact HB.out)⟩⟩
                                    · rw [if_neg c49] at H
                                      exact absurd H (by simp)
                                  · rw [if_neg c48] at H
                                    exact absurd H (by simp)
                                · rw [if_neg c47] at H
                                  exact absurd H (by simp)
                              · rw [if_neg c46] at H
                                have c46b0 : decide (0 ≤ (rd x7_3 x14_3)) = false := decide_eq_false c46
                                clear c46
                                have H' := Aside0.mk H
                                clear H
                                have p125 : 0 ≤ (x14_3 : Int) := of_decide_eq_true (by first | (with_reducible assumption) | assumption)
                                have q125 : x14_3 < (x7_3.length : Int) := of_decide_eq_true (by first | (with_reducible assumption) | assumption)
                                obtain ⟨ad125, e125, hx125_0⟩ := Kd.at_int (Kd.R_reads' HO_7.out).2.2 x14_3 p125 q125
                                cases e125
                                replace p125 := eq_true p125
                                replace q125 := eq_true q125
                                go_wp2
                                repeat (go_quiet (fail); try go_wp2)
                                (try simp only [← hl7_3])
                                go_roundg k3
                                case measure => have := HK1.out; have := HK2.out; have := HK3.out; omega
                                case rel => exact ⟨(x7_3), (x11_3), (wrap64 (x14_3 - 1)), (x117000_3), (u117000), (by first | rfl | (simp; done) | (simp [*]; done)), H', ⟨by have := HK1.out; have := HK2.out; have := HK3.out; omega⟩, ⟨by (try simp only [hl8_2]); (try simp only [hl7_3]); (with_reducible repeat (first | apply Kd.R_alloc | apply Kd.R_drewN | apply Kd.R_drew)); exact HO_7.out⟩, ⟨by (try simp only [hl8_2]); (try simp only [hl7_3]); (with_reducible repeat (first | apply Kd.R_alloc | apply Kd.R_drewN | apply Kd.R_drew)); exact HO_11.out⟩, ⟨by (try simp only [hl8_2]); (try simp only [hl7_3]); (with_reducible repeat (first | apply Kd.R_alloc | apply Kd.R_drewN | apply Kd.R_drew)); exact HO_117000.out⟩, ⟨by (try simp only [hl8_2]); (try simp only [hl7_3]); (with_reducible repeat (first | refine blk_drewN ?_ _ | refine blk_drew ?_ | refine blk_alloc ?_ _)); exact BK116.out⟩, ⟨by repeat (first | (with_reducible first | exact HB.out | apply below_alloc | apply pw_below_drewN | apply below_drew1 | refine below_set ?_ GE116.out) | exact HB.out)⟩⟩
                            · rw [if_neg c45] at H
                              exact absurd H (by simp)
                          · rw [if_neg c44] at H
                            exact absurd H (by simp)
                        · rw [if_neg c43] at H
                          have c43b0 : decide (0 ≤ x14_3) = false := decide_eq_false c43
                          clear c43
                          have H' := Aside0.mk H
                          clear H
                          go_wp2
                          repeat (go_quiet (fail); try go_wp2)
                          go_loopg [107] k3 (fun kq v107 w' => ∃ (x7_4 : List Int) (x11_4 : List Int) (x107_4 : Int) (x117000_4 : List Int) (u117000 : Value), v107 = .int .i64 x107_4 ∧ Aside0 (impl_spread.l3 kq x7_4 x11_4 (x7_3.length : Int) x107_4 x117000_4 = some r) ∧ Aside0 (kq ≤ k3) ∧ Aside0 (Kd.R (Kd.int .i64) 3 w' w.heap.size (fun k_ => some k_ ≠ (v119 : Value).ownBlock ∧ some k_ ≠ (u117000 : Value).ownBlock) (.slice Ao42 x7_3.length co42) x7_4) ∧ Aside0 (Kd.R (Kd.int .i64) 3 w' w.heap.size (fun k_ => some k_ ≠ ((.slice Ao42 x7_3.length co42) : Value).ownBlock ∧ some k_ ≠ (u117000 : Value).ownBlock) v119 x11_4) ∧ Aside0 (Kd.R (Kd.int .i64) 3 w' w.heap.size (fun k_ => some k_ ≠ ((.slice Ao42 x7_3.length co42) : Value).ownBlock ∧ some k_ ≠ (v119 : Value).ownBlock) u117000 x117000_4) ∧ Aside0 (w'.heap[gb116]? = some (.cells #[u117000] 22 (0, 0))) ∧ Aside0 (Below w.heap.size w w'))
                          case atStart => exact ⟨(x7_3), (x11_3), (0), (x117000_3), (u117000), (by first | rfl | (simp; done) | (simp [*]; done)), H', ⟨Nat.le_refl _⟩, ⟨by (try simp only [hl8_2]); (try simp only [hl7_3]); (with_reducible repeat (first | apply Kd.R_alloc | apply Kd.R_drewN | apply Kd.R_drew)); exact HO_7.out⟩, ⟨by (try simp only [hl8_2]); (try simp only [hl7_3]); (with_reducible repeat (first | apply Kd.R_alloc | apply Kd.R_drewN | apply Kd.R_drew)); exact HO_11.out⟩, ⟨by (try simp only [hl8_2]); (try simp only [hl7_3]); (with_reducible repeat (first | apply Kd.R_alloc | apply Kd.R_drewN | apply Kd.R_drew)); exact HO_117000.out⟩, ⟨by (try simp only [hl8_2]); (try simp only [hl7_3]); (with_reducible repeat (first | refine blk_drewN ?_ _ | refine blk_drew ?_ | refine blk_alloc ?_ _)); exact BK116.out⟩, ⟨by repeat (first | (with_reducible first | exact HB.out | apply below_alloc | apply pw_below_drewN | apply below_drew1 | refine below_set ?_ GE116.out) | exact HB.out)⟩⟩
                          case round =>
                            clear H'
                            try clear c1
                            try clear p1
                            try clear q1
                            try clear hx1
                            try clear c2
                            try clear p2
                            try clear c3
                            try clear p3
                            try clear q3
                            try clear hx3
                            try clear hf3
                            try clear c4
                            try clear c5
                            try clear p5
                            try clear q5
                            try clear hx5
                            try clear hf5
                            try clear c6
                            try clear p6
                            try clear c10
                            try clear c10b0
                            try clear c11
                            try clear c11b0
                            try clear c11b1
                            try clear c12
                            try clear p12
                            try clear q12
                            try clear hx12
                            try clear c16
                            try clear c16b0
                            try clear c16b1
                            try clear c17
                            try clear c17b0
                            try clear c17b1
                            try clear c27
                            try clear c27b0
                            try clear c28
                            try clear c28b0
                            try clear c29
                            try clear c29b0
                            try clear c30
                            try clear c30b0
                            try clear c30b1
                            try clear c30b2
                            try clear c31
                            try clear c31b0
                            try clear c32
                            try clear c32b0
                            try clear p33
                            try clear q33
                            try clear hx33
                            try clear hf33
                            try clear c34
                            try clear c34b0
                            try clear p35
                            try clear q35
                            try clear hx35
                            try clear hf35
                            try clear c43
                            try clear c43b0
                            try clear c44
                            try clear c44b0
                            try clear c45
                            try clear c45b0
                            try clear c46
                            try clear c46b0
                            try clear c47
                            try clear c47b0
                            try clear c48
                            try clear c48b0
                            try clear c49
                            try clear c49b0
                            try clear c50
                            try clear c50b0
                            try clear p51
                            try clear q51
                            try clear hx51
                            try clear hf51
                            try clear p52
                            try clear q52
                            try clear hx52
                            try clear hf52
                            try clear c61
                            try clear hcz21_0
                            try clear hcz53_0
                            try clear hcz60_0
                            try clear hfz21_0
                            try clear hfz53_0
                            try clear hfz60_0
                            try clear hx121_0
                            try clear hx123_0
                            try clear hx125_0
                            try clear hx126_0
                            try clear hx127_0
                            try clear hx128_0
                            try clear hx33_0
                            try clear hx35_0
                            try clear hx51_0
                            try clear hx52_0
                            try clear p1
                            try clear p12
                            try clear p121
                            try clear p123
                            try clear p125
                            try clear p126
                            try clear p127
                            try clear p128
                            try clear p2
                            try clear p3
                            try clear p33
                            try clear p35
                            try clear p51
                            try clear p52
                            try clear p6
                            try clear q1
                            try clear q12
                            try clear q121
                            try clear q123
                            try clear q125
                            try clear q126
                            try clear q127
                            try clear q128
                            try clear q3
                            try clear q33
                            try clear q35
                            try clear q51
                            try clear q52
                            obtain ⟨x7_4, x11_4, x107_4, x117000_4, u117000, rfl, HA, HK4, HO_7, HO_11, HO_117000, BK116, HB⟩ := hrel
                            have hl7_4 := (Kd.R_reads' HO_7.out).1
                            rw [hl7_4] at HO_7
                            (try simp only [hl7_4])
                            (try simp only [hl7_4] at BK116)
                            (try simp only [hl7_4] at HO_11)
                            (try simp only [hl7_4] at HO_117000)
                            cases gk with
                            | zero => exact absurd HA.out (by simp [impl_spread.l3])
                            | succ k4 =>
                              have H := HA.out
                              clear HA
                              simp only [impl_spread.l3] at H
                              by_cases c63 : x107_4 < (x7_3.length : Int)
                              · rw [if_pos c63] at H
                                have c63b0 : decide (x107_4 < (x7_3.length : Int)) = true := decide_eq_true c63
                                clear c63
                                try (have c63h0 := c63b0; simp only [hl8_2, hl7_3, hl7_4] at c63h0)
                                by_cases c64 : 0 ≤ x107_4
                                · rw [if_pos c64] at H
                                  have c64b0 : decide (0 ≤ x107_4) = true := decide_eq_true c64
                                  clear c64
                                  by_cases c65 : x107_4 < (x7_4.length : Int)
                                  · rw [if_pos c65] at H
                                    have c65b0 : decide (x107_4 < (x7_4.length : Int)) = true := decide_eq_true c65
                                    clear c65
                                    try (have c65h0 := c65b0; simp only [hl8_2, hl7_3, hl7_4] at c65h0)
                                    by_cases c66 : (rd x7_4 x107_4) ≥ 0
                                    · rw [if_pos c66] at H
                                      have c66b0 : decide (0 ≤ (rd x7_4 x107_4)) = true := decide_eq_true c66
                                      clear c66
                                      have H' := Aside0.mk H
                                      clear H
                                      have p131 : 0 ≤ (x107_4 : Int) := of_decide_eq_true (by first | (with_reducible assumption) | assumption)
                                      have q131 : x107_4 < (x7_4.length : Int) := of_decide_eq_true (by first | (with_reducible assumption) | assumption)
                                      obtain ⟨ad131, e131, hx131_0⟩ := Kd.at_int (Kd.R_reads' HO_7.out).2.2 x107_4 p131 q131
                                      cases e131
                                      replace p131 := eq_true p131
                                      replace q131 := eq_true q131
                                      go_wp2
                                      repeat (go_quiet (fail); try go_wp2)
                                      (try simp only [← hl7_4])
                                      go_roundg k4
                                      case measure => have := HK1.out; have := HK2.out; have := HK3.out; have := HK4.out; omega
                                      case rel => exact ⟨(x7_4), (x11_4), (wrap64 (x107_4 + 1)), (x117000_4), (u117000), (by first | rfl | (simp; done) | (simp [*]; done)), H', ⟨by have := HK1.out; have := HK2.out; have := HK3.out; have := HK4.out; omega⟩, ⟨by (try simp only [hl8_2]); (try simp only [hl7_3]); (try simp only [hl7_4]); (with_reducible repeat (first | apply Kd.R_alloc | apply Kd.R_drewN | apply Kd.R_drew)); exact HO_7.out⟩, ⟨by (try simp only [hl8_2]); (try simp only [hl7_3]); (try simp only [hl7_4]); (with_reducible repeat (first | apply Kd.R_alloc | apply Kd.R_drewN | apply Kd.R_drew)); exact HO_11.out⟩, ⟨by (try simp only [hl8_2]); (try simp only [hl7_3]); (try simp only [hl7_4]); (with_reducible repeat (first | apply Kd.R_alloc | apply Kd.R_drewN | apply Kd.R_drew)); exact HO_117000.out⟩, ⟨by (try simp only [hl8_2]); (try simp only [hl7_3]); (try simp only [hl7_4]); (with_reducible repeat (first | refine blk_drewN ?_ _ | refine blk_drew ?_ | refine blk_alloc ?_ _)); exact BK116.out⟩, ⟨by repeat (first | (with_reducible first | exact HB.out | apply below_alloc | apply pw_below_drewN | apply below_drew1 | refine below_set ?_ GE116.out) | exact HB.out)⟩⟩
                                    · rw [if_neg c66] at H
                                      have c66b0 : decide (0 ≤ (rd x7_4 x107_4)) = false := decide_eq_false c66
                                      clear c66
                                      have H' := Aside0.mk H
                                      clear H
                                      have p131 : 0 ≤ (x107_4 : Int) := of_decide_eq_true (by first | (with_reducible assumption) | assumption)
                                      have q131 : x107_4 < (x7_4.length : Int) := of_decide_eq_true (by first | (with_reducible assumption) | assumption)
                                      obtain ⟨ad131, e131, hx131_0⟩ := Kd.at_int (Kd.R_reads' HO_7.out).2.2 x107_4 p131 q131
                                      cases e131
                                      replace p131 := eq_true p131
                                      replace q131 := eq_true q131
                                      go_wp2
                                      repeat (go_quiet (fail); try go_wp2)
                                      go_loopg [18] k4 (fun kq v18 w' => ∃ (x18_5 : Int), v18 = .int .i64 x18_5 ∧ Aside0 (impl_spread.l4 kq x7_4 x11_4 x107_4 x18_5 (x7_3.length : Int) x107_4 x117000_4 = some r) ∧ Aside0 (kq ≤ k4) ∧ Aside0 (Kd.R (Kd.int .i64) 3 w' w.heap.size (fun k_ => some k_ ≠ (v119 : Value).ownBlock ∧ some k_ ≠ (u117000 : Value).ownBlock) (.slice (some ad131) x7_4.length co42) x7_4) ∧ Aside0 (Kd.R (Kd.int .i64) 3 w' w.heap.size (fun k_ => some k_ ≠ ((.slice (some ad131) x7_4.length co42) : Value).ownBlock ∧ some k_ ≠ (u117000 : Value).ownBlock) v119 x11_4) ∧ Aside0 (Kd.R (Kd.int .i64) 3 w' w.heap.size (fun k_ => some k_ ≠ ((.slice (some ad131) x7_4.length co42) : Value).ownBlock ∧ some k_ ≠ (v119 : Value).ownBlock) u117000 x117000_4) ∧ Aside0 (w'.heap[gb116]? = some (.cells #[u117000] 22 (0, 0))) ∧ Aside0 (Below w.heap.size w w'))
                                      case atStart => exact ⟨(0), (by first | rfl | (simp; done) | (simp [*]; done)), H', ⟨Nat.le_refl _⟩, ⟨by (try simp only [hl8_2]); (try simp only [hl7_3]); (try simp only [hl7_4]); (with_reducible repeat (first | apply Kd.R_alloc | apply Kd.R_drewN | apply Kd.R_drew)); exact HO_7.out⟩, ⟨by (try simp only [hl8_2]); (try simp only [hl7_3]); (try simp only [hl7_4]); (with_reducible repeat (first | apply Kd.R_alloc | apply Kd.R_drewN | apply Kd.R_drew)); exact HO_11.out⟩, ⟨by (try simp only [hl8_2]); (try simp only [hl7_3]); (try simp only [hl7_4]); (with_reducible repeat (first | apply Kd.R_alloc | apply Kd.R_drewN | apply Kd.R_drew)); exact HO_117000.out⟩, ⟨by (try simp only [hl8_2]); (try simp only [hl7_3]); (try simp only [hl7_4]); (with_reducible repeat (first | refine blk_drewN ?_ _ | refine blk_drew ?_ | refine blk_alloc ?_ _)); exact BK116.out⟩, ⟨by repeat (first | (with_reducible first | exact HB.out | apply below_alloc | apply pw_below_drewN | apply below_drew1 | refine below_set ?_ GE116.out) | exact HB.out)⟩⟩
                                      case round =>
                                        clear H'
                                        try clear c1
                                        try clear p1
                                        try clear q1
                                        try clear hx1
                                        try clear c2
                                        try clear p2
                                        try clear c3
                                        try clear p3
                                        try clear q3
                                        try clear hx3
                                        try clear hf3
                                        try clear c4
                                        try clear c5
                                        try clear p5
                                        try clear q5
                                        try clear hx5
                                        try clear hf5
                                        try clear c6
                                        try clear p6
                                        try clear c10
                                        try clear c10b0
                                        try clear c11
                                        try clear c11b0
                                        try clear c11b1
                                        try clear c12
                                        try clear p12
                                        try clear q12
                                        try clear hx12
                                        try clear p13
                                        try clear q13
                                        try clear hx13
                                        try clear c16
                                        try clear c16b0
                                        try clear c16b1
                                        try clear c17
                                        try clear c17b0
                                        try clear c17b1
                                        try clear c27
                                        try clear c27b0
                                        try clear c28
                                        try clear c28b0
                                        try clear c29
                                        try clear c29b0
                                        try clear c30
                                        try clear c30b0
                                        try clear c30b1
                                        try clear c30b2
                                        try clear c31
                                        try clear c31b0
                                        try clear c32
                                        try clear c32b0
                                        try clear p33
                                        try clear q33
                                        try clear hx33
                                        try clear hf33
                                        try clear c34
                                        try clear c34b0
                                        try clear p35
                                        try clear q35
                                        try clear hx35
                                        try clear hf35
                                        try clear c43
                                        try clear c43b0
                                        try clear c44
                                        try clear c44b0
                                        try clear c45
                                        try clear c45b0
                                        try clear c46
                                        try clear c46b0
                                        try clear c47
                                        try clear c47b0
                                        try clear c48
                                        try clear c48b0
                                        try clear c49
                                        try clear c49b0
                                        try clear c50
                                        try clear c50b0
                                        try clear p51
                                        try clear q51
                                        try clear hx51
                                        try clear hf51
                                        try clear p52
                                        try clear q52
                                        try clear hx52
                                        try clear hf52
                                        try clear c61
                                        try clear c63
                                        try clear c63b0
                                        try clear c64
                                        try clear c64b0
                                        try clear p64
                                        try clear c65
                                        try clear c65b0
                                        try clear c66
                                        try clear c66b0
                                        try clear hcz21_0
                                        try clear hcz53_0
                                        try clear hcz60_0
                                        try clear hfz21_0
                                        try clear hfz53_0
                                        try clear hfz60_0
                                        try clear hx121_0
                                        try clear hx123_0
                                        try clear hx125_0
                                        try clear hx126_0
                                        try clear hx127_0
                                        try clear hx128_0
                                        try clear hx131_0
                                        try clear hx33_0
                                        try clear hx35_0
                                        try clear hx51_0
                                        try clear hx52_0
                                        try clear p1
                                        try clear p12
                                        try clear p121
                                        try clear p123
                                        try clear p125
                                        try clear p126
                                        try clear p127
                                        try clear p128
                                        try clear p131
                                        try clear p2
                                        try clear p3
                                        try clear p33
                                        try clear p35
                                        try clear p5
                                        try clear p51
                                        try clear p52
                                        try clear p6
                                        try clear q1
                                        try clear q12
                                        try clear q121
                                        try clear q123
                                        try clear q125
                                        try clear q126
                                        try clear q127
                                        try clear q128
                                        try clear q131
                                        try clear q3
                                        try clear q33
                                        try clear q35
                                        try clear q5
                                        try clear q51
                                        try clear q52
                                        obtain ⟨x18_5, rfl, HA, HK5, HO_7, HO_11, HO_117000, BK116, HB⟩ := hrel
                                        cases gk with
                                        | zero => exact absurd HA.out (by simp [impl_spread.l4])
                                        | succ k5 =>
                                          have H := HA.out
                                          clear HA
                                          simp only [impl_spread.l4] at H
                                          by_cases c67 : 0 ≤ x18_5
                                          · rw [if_pos c67] at H
                                            have c67b0 : decide (0 ≤ x18_5) = true := decide_eq_true c67
                                            clear c67
                                            by_cases c68 : x18_5 < (x117000_4.length : Int)
                                            · rw [if_pos c68] at H
                                              have c68b0 : decide (x18_5 < (x117000_4.length : Int)) = true := decide_eq_true c68
                                              clear c68
                                              try (have c68h0 := c68b0; simp only [hl8_2, hl7_3, hl7_4] at c68h0)
                                              by_cases c69 : x18_5 < (x11_4.length : Int)
                                              · rw [if_pos c69] at H
                                                have c69b0 : decide (x18_5 < (x11_4.length : Int)) = true := decide_eq_true c69
                                                clear c69
                                                try (have c69h0 := c69b0; simp only [hl8_2, hl7_3, hl7_4] at c69h0)
                                                by_cases c70 : (rd x117000_4 x18_5) ≥ (rd x11_4 x18_5)
                                                · rw [if_pos c70] at H
                                                  have c70b0 : decide ((rd x11_4 x18_5) ≤ (rd x117000_4 x18_5)) = true := decide_eq_true c70
                                                  clear c70
                                                  have H' := Aside0.mk H
                                                  clear H
                                                  have hcz71_0 : wr.cell? ⟨gb116, 0, none⟩ = some (u117000) := (blk_cell BK116.out 0).trans rfl
                                                  have hfz71_0 := blk_frozen BK116.out 0
                                                  obtain ⟨Ao72, co72, eo72⟩ := Kd.R_slice HO_117000.out
                                                  subst eo72
                                                  have p132 : 0 ≤ (x18_5 : Int) := of_decide_eq_true (by first | (with_reducible assumption) | assumption)
                                                  have q132 : x18_5 < (x117000_4.length : Int) := of_decide_eq_true (by first | (with_reducible assumption) | assumption)
                                                  obtain ⟨ad132, e132, hx132_0⟩ := Kd.at_int (Kd.R_reads' HO_117000.out).2.2 x18_5 p132 q132
                                                  cases e132
                                                  replace p132 := eq_true p132
                                                  replace q132 := eq_true q132
                                                  obtain ⟨Ao73, co73, eo73⟩ := Kd.R_slice HO_11.out
                                                  subst eo73
                                                  have p133 : 0 ≤ (x18_5 : Int) := of_decide_eq_true (by first | (with_reducible assumption) | assumption)
                                                  have q133 : x18_5 < (x11_4.length : Int) := of_decide_eq_true (by first | (with_reducible assumption) | assumption)
                                                  obtain ⟨ad133, e133, hx133_0⟩ := Kd.at_int (Kd.R_reads' HO_11.out).2.2 x18_5 p133 q133
                                                  cases e133
                                                  replace p133 := eq_true p133
                                                  replace q133 := eq_true q133
                                                  go_wp2
                                                  repeat (go_quiet (fail); try go_wp2)
                                                  go_roundg k5
                                                  case measure => have := HK1.out; have := HK2.out; have := HK3.out; have := HK4.out; have := HK5.out; omega
                                                  case rel => exact ⟨(wrap64 (x18_5 + 1)), (by first | rfl | (simp; done) | (simp [*]; done)), H', ⟨by have := HK1.out; have := HK2.out; have := HK3.out; have := HK4.out; have := HK5.out; omega⟩, ⟨by (try simp only [hl8_2]); (try simp only [hl7_3]); (try simp only [hl7_4]); (with_reducible repeat (first | apply Kd.R_alloc | apply Kd.R_drewN | apply Kd.R_drew)); exact HO_7.out⟩, ⟨by (try simp only [hl8_2]); (try simp only [hl7_3]); (try simp only [hl7_4]); (with_reducible repeat (first | apply Kd.R_alloc | apply Kd.R_drewN | apply Kd.R_drew)); exact HO_11.out⟩, ⟨by (try simp only [hl8_2]); (try simp only [hl7_3]); (try simp only [hl7_4]); (with_reducible repeat (first | apply Kd.R_alloc | apply Kd.R_drewN | apply Kd.R_drew)); exact HO_117000.out⟩, ⟨by (try simp only [hl8_2]); (try simp only [hl7_3]); (try simp only [hl7_4]); (with_reducible repeat (first | refine blk_drewN ?_ _ | refine blk_drew ?_ | refine blk_alloc ?_ _)); exact BK116.out⟩, ⟨by repeat (first | (with_reducible first | exact HB.out | apply below_alloc | apply pw_below_drewN | apply below_drew1 | refine below_set ?_ GE116.out) | exact HB.out)⟩⟩
                                                · rw [if_neg c70] at H
                                                  have c70b0 : decide ((rd x11_4 x18_5) ≤ (rd x117000_4 x18_5)) = false := decide_eq_false c70
                                                  clear c70
                                                  by_cases c74 : 0 ≤ x107_4
                                                  · rw [if_pos c74] at H
                                                    have c74b0 : decide (0 ≤ x107_4) = true := decide_eq_true c74
                                                    clear c74
                                                    by_cases c75 : x107_4 < (x7_4.length : Int)
                                                    · rw [if_pos c75] at H
                                                      have c75b0 : decide (x107_4 < (x7_4.length : Int)) = true := decide_eq_true c75
                                                      clear c75
                                                      try (have c75h0 := c75b0; simp only [hl8_2, hl7_3, hl7_4] at c75h0)
                                                      obtain ⟨y134, hy134⟩ : ∃ y_ : List Int, y_ = (x7_4.set (x107_4 : Int).toNat x18_5) := ⟨_, rfl⟩
                                                      replace H : (impl_spread.l3 k5 y134 x11_4 (x7_3.length : Int) (wrap64 (x107_4 + 1)) (x117000_4.set (x18_5 : Int).toNat (wrap64 ((rd x117000_4 x18_5) + 1)))) = some r := by first | (rw [hy134]; with_reducible exact H) | (have H2_ := (Option.bind_some _ _).symm.trans H; rw [hy134]; with_reducible exact H2_) | (have H2_ := (Option.bind_some _ _).symm.trans H; with_reducible exact H2_) | with_reducible exact H | (rw [hy134]; exact H) | exact H
                                                      have Ny134 := Aside0.mk hy134
                                                      clear hy134
                                                      obtain ⟨y136, hy136⟩ : ∃ y_ : List Int, y_ = (x117000_4.set (x18_5 : Int).toNat (wrap64 ((rd x117000_4 x18_5) + 1))) := ⟨_, rfl⟩
                                                      replace H : (impl_spread.l3 k5 y134 x11_4 (x7_3.length : Int) (wrap64 (x107_4 + 1)) y136) = some r := by first | (rw [hy136]; with_reducible exact H) | (have H2_ := (Option.bind_some _ _).symm.trans H; rw [hy136]; with_reducible exact H2_) | (have H2_ := (Option.bind_some _ _).symm.trans H; with_reducible exact H2_) | with_reducible exact H | (rw [hy136]; exact H) | exact H
                                                      have Ny136 := Aside0.mk hy136
                                                      clear hy136
                                                      have H' := Aside0.mk H
                                                      clear H
                                                      have hcz78_0 : wr.cell? ⟨gb116, 0, none⟩ = some (u117000) := (blk_cell BK116.out 0).trans rfl
                                                      have hfz78_0 := blk_frozen BK116.out 0
                                                      obtain ⟨Ao79, co79, eo79⟩ := Kd.R_slice HO_117000.out
                                                      subst eo79
                                                      have p132 : 0 ≤ (x18_5 : Int) := of_decide_eq_true (by first | (with_reducible assumption) | assumption)
                                                      have q132 : x18_5 < (x117000_4.length : Int) := of_decide_eq_true (by first | (with_reducible assumption) | assumption)
                                                      obtain ⟨ad132, e132, hx132_0⟩ := Kd.at_int (Kd.R_reads' HO_117000.out).2.2 x18_5 p132 q132
                                                      cases e132
                                                      replace p132 := eq_true p132
                                                      replace q132 := eq_true q132
                                                      obtain ⟨Ao80, co80, eo80⟩ := Kd.R_slice HO_11.out
                                                      subst eo80
                                                      have p133 : 0 ≤ (x18_5 : Int) := of_decide_eq_true (by first | (with_reducible assumption) | assumption)
                                                      have q133 : x18_5 < (x11_4.length : Int) := of_decide_eq_true (by first | (with_reducible assumption) | assumption)
                                                      obtain ⟨ad133, e133, hx133_0⟩ := Kd.at_int (Kd.R_reads' HO_11.out).2.2 x18_5 p133 q133
                                                      cases e133
                                                      replace p133 := eq_true p133
                                                      replace q133 := eq_true q133
                                                      have p76 : 0 ≤ (x107_4 : Int) := of_decide_eq_true (by first | (with_reducible assumption) | assumption)
                                                      have q76 : (x107_4 : Int) < ((x7_4.length : Int) : Int) := of_decide_eq_true (by first | (with_reducible assumption) | assumption)
                                                      obtain ⟨go76, co76, eo76, gb76, gl76, cl76, HG76⟩ := Kd.R_form HO_7.out (by omega)
                                                      (first | cases eo76 | (injection eo76 with ea_ en_ ec_; (first | subst ea_ | (injection ea_ with ea_; subst ea_)); subst ec_; clear en_))
                                                      have GB76 := Aside0.mk gb76
                                                      have GG76 := Aside0.mk HG76
                                                      clear gb76 gl76 HG76
                                                      (first | simp only [add_plain] at hx131_0 | skip)
                                                      obtain ⟨hx76_0, hf76_0⟩ := Kd.R_celln 0 HO_7.out (x107_4 : Int) p76 q76
                                                      replace p76 := eq_true p76
                                                      replace q76 := eq_true q76
                                                      have HP81 := Kd.R_putg HO_7.out (x107_4 : Int) x18_5
                                                      go_wp2_with (first | ((with_reducible refine gate_store (t := 3) (p := 128) rfl ?_); (try (rw [drewN_self wr]; generalize hq_ : World.drewN wr _ = wr; have n0_ := Aside0.mk (Kd.R_at hq_ HO_7.out); have n1_ := Aside0.mk (Kd.R_at hq_ HO_11.out); have n2_ := Aside0.mk (Kd.R_at hq_ HO_117000.out); have n3_ := Aside0.mk (blk_at hq_ BK116.out); have n4_ := Aside0.mk (below_at hq_ HB.out); clear hq_ HO_7 HO_11 HO_117000 BK116 HB; have HO_7 := n0_; have HO_11 := n1_; have HO_117000 := n2_; have BK116 := n3_; have HB := n4_; clear n0_ n1_ n2_ n3_ n4_; (try (obtain ⟨hx76_0, hf76_0⟩ := Kd.R_celln 0 HO_7.out (x107_4 : Int) (of_eq_true p76) (of_eq_true q76))); (try (have HP81 := Kd.R_putg HO_7.out (x107_4 : Int) x18_5)))); refine store_event (t := 3) (p := 128) (v := ?vo_w82) (w1 := (wr.setCell ⟨go76, (x107_4 : Int).toNat, none⟩ (.int .i64 x18_5))) ?hg ?ho ?hn ?hr ?_; (case ho => rfl); (case hg => rfl); (case hn => rfl); (case hr => first | (go_simp; done) | (go_simp; rfl)); intro w82 hw; have hg : wr.grownBy w82 (some go76) := (by rw [hw]; exact HP81.2); have hp_ : Kd.R (Kd.int .i64) 3 w82 w.heap.size (fun k_ => some k_ ≠ (.slice (some ad133) x11_4.length co80 : Value).ownBlock ∧ some k_ ≠ (.slice (some ad132) x117000_4.length co79 : Value).ownBlock) (.slice (some ⟨go76, 0, none⟩) x7_4.length co42) y134 := (by rw [hw, Ny134.out]; exact HP81.1); clear HP81; have n0_ := Aside0.mk (hp_); have n1_ := Aside0.mk (Kd.R_after (v := (.slice (some ⟨go76, 0, none⟩) x7_4.length co42)) (v1 := (.slice (some ⟨go76, 0, none⟩) x7_4.length co42)) (ok := (fun k_ => some k_ ≠ (.slice (some ad132) x117000_4.length co79 : Value).ownBlock)) (by (with_reducible repeat (first | apply Kd.R_alloc | apply Kd.R_drewN | apply Kd.R_drew)); exact Kd.R_mono HO_11.out (fun _ hk => ⟨hk.2, hk.1⟩)) hg (.inl rfl)); have n2_ := Aside0.mk (Kd.R_after (v := (.slice (some ⟨go76, 0, none⟩) x7_4.length co42)) (v1 := (.slice (some ⟨go76, 0, none⟩) x7_4.length co42)) (ok := (fun k_ => some k_ ≠ (.slice (some ad133) x11_4.length co80 : Value).ownBlock)) (by (with_reducible repeat (first | apply Kd.R_alloc | apply Kd.R_drewN | apply Kd.R_drew)); exact Kd.R_mono HO_117000.out (fun _ hk => ⟨hk.2, hk.1⟩)) hg (.inl rfl)); have n3_ := Aside0.mk (blk_grown (g := gb116) (o := .cells #[.slice (some ad132) x117000_4.length co79] 22 (0, 0)) (by (with_reducible repeat (first | refine blk_drewN ?_ _ | refine blk_drew ?_ | refine blk_alloc ?_ _)); exact BK116.out) hg (Kd.R_ne HO_7.out BK116.out (by decide))); have n4_ := Aside0.mk ((by rw [hw]; exact below_set (HB.out) GB76.out : Below w.heap.size w w82)); clear HO_7; clear HO_11; clear HO_117000; clear BK116; clear HB; have HO_7 := n0_; have HO_11 := n1_; have HO_117000 := n2_; have BK116 := n3_; have HB := n4_; clear n0_ n1_ n2_ n3_ n4_; clear hg hw hp_; have hcz83_0 : w82.cell? ⟨gb116, 0, none⟩ = some (.slice (some ad132) x117000_4.length co79) := (blk_cell BK116.out 0).trans rfl; have hfz83_0 := blk_frozen BK116.out 0; have p135 : 0 ≤ (x18_5 : Int) := of_decide_eq_true (by first | (with_reducible assumption) | assumption); have q135 : x18_5 < (x117000_4.length : Int) := of_decide_eq_true (by first | (with_reducible assumption) | assumption); obtain ⟨ad135, e135, hx135_0⟩ := Kd.at_int (Kd.R_reads' HO_117000.out).2.2 x18_5 p135 q135; obtain rfl : ad132 = ad135 := (by injection e135); replace p135 := eq_true p135; replace q135 := eq_true q135; have p77 : 0 ≤ (x18_5 : Int) := of_decide_eq_true (by first | (with_reducible assumption) | assumption); have q77 : (x18_5 : Int) < ((x117000_4.length : Int) : Int) := of_decide_eq_true (by first | (with_reducible assumption) | assumption); obtain ⟨go77, co77, eo77, gb77, gl77, cl77, HG77⟩ := Kd.R_form HO_117000.out (by omega); (first | cases eo77 | (injection eo77 with ea_ en_ ec_; (first | subst ea_ | (injection ea_ with ea_; subst ea_)); subst ec_; clear en_)); have GB77 := Aside0.mk gb77; have GG77 := Aside0.mk HG77; clear gb77 gl77 HG77; (first | simp only [add_plain] at hx132_0 | skip); (first | simp only [add_plain] at hx135_0 | skip); obtain ⟨hx77_0, hf77_0⟩ := Kd.R_celln 0 HO_117000.out (x18_5 : Int) p77 q77; replace p77 := eq_true p77; replace q77 := eq_true q77; obtain ⟨hy84_, hz84_⟩ := Kd.R_celln 0 HO_117000.out (x18_5 : Int) (of_decide_eq_true (by first | (with_reducible assumption) | assumption)) (of_decide_eq_true (by first | (with_reducible assumption) | assumption)); have HP84 := Kd.R_putg HO_117000.out (x18_5 : Int) (wrap64 ((rd x117000_4 x18_5) + 1))) | ((with_reducible refine gate_store (t := 3) (p := 134) rfl ?_); (try (rw [drewN_self w82]; generalize hq_ : World.drewN w82 _ = w82; have n0_ := Aside0.mk (Kd.R_at hq_ HO_7.out); have n1_ := Aside0.mk (Kd.R_at hq_ HO_11.out); have n2_ := Aside0.mk (Kd.R_at hq_ HO_117000.out); have n3_ := Aside0.mk (blk_at hq_ BK116.out); have n4_ := Aside0.mk (below_at hq_ HB.out); clear hq_ HO_7 HO_11 HO_117000 BK116 HB; have HO_7 := n0_; have HO_11 := n1_; have HO_117000 := n2_; have BK116 := n3_; have HB := n4_; clear n0_ n1_ n2_ n3_ n4_; (try (obtain ⟨hy84_, hz84_⟩ := Kd.R_celln 0 HO_117000.out (x18_5 : Int) (of_decide_eq_true (by first | (with_reducible assumption) | assumption)) (of_decide_eq_true (by first | (with_reducible assumption) | assumption)))); (try (have HP84 := Kd.R_putg HO_117000.out (x18_5 : Int) (wrap64 ((rd x117000_4 x18_5) + 1)))))); refine store_event (t := 3) (p := 134) (v := ?vo_w85) (w1 := (w82.setCell ⟨go77, (x18_5 : Int).toNat, none⟩ (.int .i64 (wrap64 ((rd x117000_4 x18_5) + 1))))) ?hg ?ho ?hn ?hr ?_; (case ho => rfl); (case hg => rfl); (case hn => rfl); (case hr => first | (go_simp; done) | (go_simp; rfl)); intro w85 hw; have hg : w82.grownBy w85 (some go77) := (by rw [hw]; exact HP84.2); have hp_ : Kd.R (Kd.int .i64) 3 w85 w.heap.size (fun k_ => some k_ ≠ (.slice (some ad133) x11_4.length co80 : Value).ownBlock ∧ some k_ ≠ (.slice (some ⟨go76, 0, none⟩) x7_4.length co42 : Value).ownBlock) (.slice (some ⟨go77, 0, none⟩) x117000_4.length co79) y136 := (by rw [hw, Ny136.out]; exact HP84.1); clear HP84; have n0_ := Aside0.mk (Kd.R_after (v := (.slice (some ⟨go77, 0, none⟩) x117000_4.length co79)) (v1 := (.slice (some ⟨go77, 0, none⟩) x117000_4.length co79)) (ok := (fun k_ => some k_ ≠ (.slice (some ad133) x11_4.length co80 : Value).ownBlock)) (by (with_reducible repeat (first | apply Kd.R_alloc | apply Kd.R_drewN | apply Kd.R_drew)); exact HO_7.out) hg (.inl rfl)); have n1_ := Aside0.mk (Kd.R_after (v := (.slice (some ⟨go77, 0, none⟩) x117000_4.length co79)) (v1 := (.slice (some ⟨go77, 0, none⟩) x117000_4.length co79)) (ok := (fun k_ => some k_ ≠ (.slice (some ⟨go76, 0, none⟩) x7_4.length co42 : Value).ownBlock)) (by (with_reducible repeat (first | apply Kd.R_alloc | apply Kd.R_drewN | apply Kd.R_drew)); exact Kd.R_mono HO_11.out (fun _ hk => ⟨hk.2, hk.1⟩)) hg (.inl rfl)); have n2_ := Aside0.mk (hp_); have n3_ := Aside0.mk (blk_grown (g := gb116) (o := .cells #[.slice (some ⟨go77, 0, none⟩) x117000_4.length co79] 22 (0, 0)) (by (with_reducible repeat (first | refine blk_drewN ?_ _ | refine blk_drew ?_ | refine blk_alloc ?_ _)); exact BK116.out) hg (Kd.R_ne HO_117000.out BK116.out (by decide))); have n4_ := Aside0.mk ((by rw [hw]; exact below_set (HB.out) GB77.out : Below w.heap.size w w85)); clear HO_7; clear HO_11; clear HO_117000; clear BK116; clear HB; have HO_7 := n0_; have HO_11 := n1_; have HO_117000 := n2_; have BK116 := n3_; have HB := n4_; clear n0_ n1_ n2_ n3_ n4_; clear hg hw hp_))
                                                      repeat (go_quiet (first | ((with_reducible refine gate_store (t := 3) (p := 128) rfl ?_); (try (rw [drewN_self wr]; generalize hq_ : World.drewN wr _ = wr; have n0_ := Aside0.mk (Kd.R_at hq_ HO_7.out); have n1_ := Aside0.mk (Kd.R_at hq_ HO_11.out); have n2_ := Aside0.mk (Kd.R_at hq_ HO_117000.out); have n3_ := Aside0.mk (blk_at hq_ BK116.out); have n4_ := Aside0.mk (below_at hq_ HB.out); clear hq_ HO_7 HO_11 HO_117000 BK116 HB; have HO_7 := n0_; have HO_11 := n1_; have HO_117000 := n2_; have BK116 := n3_; have HB := n4_; clear n0_ n1_ n2_ n3_ n4_; (try (obtain ⟨hx76_0, hf76_0⟩ := Kd.R_celln 0 HO_7.out (x107_4 : Int) (of_eq_true p76) (of_eq_true q76))); (try (have HP81 := Kd.R_putg HO_7.out (x107_4 : Int) x18_5)))); refine store_event (t := 3) (p := 128) (v := ?vo_w82) (w1 := (wr.setCell ⟨go76, (x107_4 : Int).toNat, none⟩ (.int .i64 x18_5))) ?hg ?ho ?hn ?hr ?_; (case ho => rfl); (case hg => rfl); (case hn => rfl); (case hr => first | (go_simp; done) | (go_simp; rfl)); intro w82 hw; have hg : wr.grownBy w82 (some go76) := (by rw [hw]; exact HP81.2); have hp_ : Kd.R (Kd.int .i64) 3 w82 w.heap.size (fun k_ => some k_ ≠ (.slice (some ad133) x11_4.length co80 : Value).ownBlock ∧ some k_ ≠ (.slice (some ad132) x117000_4.length co79 : Value).ownBlock) (.slice (some ⟨go76, 0, none⟩) x7_4.length co42) y134 := (by rw [hw, Ny134.out]; exact HP81.1); clear HP81; have n0_ := Aside0.mk (hp_); have n1_ := Aside0.mk (Kd.R_after (v := (.slice (some ⟨go76, 0, none⟩) x7_4.length co42)) (v1 := (.slice (some ⟨go76, 0, none⟩) x7_4.length co42)) (ok := (fun k_ => some k_ ≠ (.slice (some ad132) x117000_4.length co79 : Value).ownBlock)) (by (with_reducible repeat (first | apply Kd.R_alloc | apply Kd.R_drewN | apply Kd.R_drew)); exact Kd.R_mono HO_11.out (fun _ hk => ⟨hk.2, hk.1⟩)) hg (.inl rfl)); have n2_ := Aside0.mk (Kd.R_after (v := (.slice (some ⟨go76, 0, none⟩) x7_4.length co42)) (v1 := (.slice (some ⟨go76, 0, none⟩) x7_4.length co42)) (ok := (fun k_ => some k_ ≠ (.slice (some ad133) x11_4.length co80 : Value).ownBlock)) (by (with_reducible repeat (first | apply Kd.R_alloc | apply Kd.R_drewN | apply Kd.R_drew)); exact Kd.R_mono HO_117000.out (fun _ hk => ⟨hk.2, hk.1⟩)) hg (.inl rfl)); have n3_ := Aside0.mk (blk_grown (g := gb116) (o := .cells #[.slice (some ad132) x117000_4.length co79] 22 (0, 0)) (by (with_reducible repeat (first | refine blk_drewN ?_ _ | refine blk_drew ?_ | refine blk_alloc ?_ _)); exact BK116.out) hg (Kd.R_ne HO_7.out BK116.out (by decide))); have n4_ := Aside0.mk ((by rw [hw]; exact below_set (HB.out) GB76.out : Below w.heap.size w w82)); clear HO_7; clear HO_11; clear HO_117000; clear BK116; clear HB; have HO_7 := n0_; have HO_11 := n1_; have HO_117000 := n2_; have BK116 := n3_; have HB := n4_; clear n0_ n1_ n2_ n3_ n4_; clear hg hw hp_; have hcz83_0 : w82.cell? ⟨gb116, 0, none⟩ = some (.slice (some ad132) x117000_4.length co79) := (blk_cell BK116.out 0).trans rfl; have hfz83_0 := blk_frozen BK116.out 0; have p135 : 0 ≤ (x18_5 : Int) := of_decide_eq_true (by first | (with_reducible assumption) | assumption); have q135 : x18_5 < (x117000_4.length : Int) := of_decide_eq_true (by first | (with_reducible assumption) | assumption); obtain ⟨ad135, e135, hx135_0⟩ := Kd.at_int (Kd.R_reads' HO_117000.out).2.2 x18_5 p135 q135; obtain rfl : ad132 = ad135 := (by injection e135); replace p135 := eq_true p135; replace q135 := eq_true q135; have p77 : 0 ≤ (x18_5 : Int) := of_decide_eq_true (by first | (with_reducible assumption) | assumption); have q77 : (x18_5 : Int) < ((x117000_4.length : Int) : Int) := of_decide_eq_true (by first | (with_reducible assumption) | assumption); obtain ⟨go77, co77, eo77, gb77, gl77, cl77, HG77⟩ := Kd.R_form HO_117000.out (by omega); (first | cases eo77 | (injection eo77 with ea_ en_ ec_; (first | subst ea_ | (injection ea_ with ea_; subst ea_)); subst ec_; clear en_)); have GB77 := Aside0.mk gb77; have GG77 := Aside0.mk HG77; clear gb77 gl77 HG77; (first | simp only [add_plain] at hx132_0 | skip); (first | simp only [add_plain] at hx135_0 | skip); obtain ⟨hx77_0, hf77_0⟩ := Kd.R_celln 0 HO_117000.out (x18_5 : Int) p77 q77; replace p77 := eq_true p77; replace q77 := eq_true q77; obtain ⟨hy84_, hz84_⟩ := Kd.R_celln 0 HO_117000.out (x18_5 : Int) (of_decide_eq_true (by first | (with_reducible assumption) | assumption)) (of_decide_eq_true (by first | (with_reducible assumption) | assumption)); have HP84 := Kd.R_putg HO_117000.out (x18_5 : Int) (wrap64 ((rd x117000_4 x18_5) + 1))) | ((with_reducible refine gate_store (t := 3) (p := 134) rfl ?_); (try (rw [drewN_self w82]; generalize hq_ : World.drewN w82 _ = w82; have n0_ := Aside0.mk (Kd.R_at hq_ HO_7.out); have n1_ := Aside0.mk (Kd.R_at hq_ HO_11.out); have n2_ := Aside0.mk (Kd.R_at hq_ HO_117000.out); have n3_ := Aside0.mk (blk_at hq_ BK116.out); have n4_ := Aside0.mk (below_at hq_ HB.out); clear hq_ HO_7 HO_11 HO_117000 BK116 HB; have HO_7 := n0_; have HO_11 := n1_; have HO_117000 := n2_; have BK116 := n3_; have HB := n4_; clear n0_ n1_ n2_ n3_ n4_; (try (obtain ⟨hy84_, hz84_⟩ := Kd.R_celln 0 HO_117000.out (x18_5 : Int) (of_decide_eq_true (by first | (with_reducible assumption) | assumption)) (of_decide_eq_true (by first | (with_reducible assumption) | assumption)))); (try (have HP84 := Kd.R_putg HO_117000.out (x18_5 : Int) (wrap64 ((rd x117000_4 x18_5) + 1)))))); refine store_event (t := 3) (p := 134) (v := ?vo_w85) (w1 := (w82.setCell ⟨go77, (x18_5 : Int).toNat, none⟩ (.int .i64 (wrap64 ((rd x117000_4 x18_5) + 1))))) ?hg ?ho ?hn ?hr ?_; (case ho => rfl); (case hg => rfl); (case hn => rfl); (case hr => first | (go_simp; done) | (go_simp; rfl)); intro w85 hw; have hg : w82.grownBy w85 (some go77) := (by rw [hw]; exact HP84.2); have hp_ : Kd.R (Kd.int .i64) 3 w85 w.heap.size (fun k_ => some k_ ≠ (.slice (some ad133) x11_4.length co80 : Value).ownBlock ∧ some k_ ≠ (.slice (some ⟨go76, 0, none⟩) x7_4.length co42 : Value).ownBlock) (.slice (some ⟨go77, 0, none⟩) x117000_4.length co79) y136 := (by rw [hw, Ny136.out]; exact HP84.1); clear HP84; have n0_ := Aside0.mk (Kd.R_after (v := (.slice (some ⟨go77, 0, none⟩) x117000_4.length co79)) (v1 := (.slice (some ⟨go77, 0, none⟩) x117000_4.length co79)) (ok := (fun k_ => some k_ ≠ (.slice (some ad133) x11_4.length co80 : Value).ownBlock)) (by (with_reducible repeat (first | apply Kd.R_alloc | apply Kd.R_drewN | apply Kd.R_drew)); exact HO_7.out) hg (.inl rfl)); have n1_ := Aside0.mk (Kd.R_after (v := (.slice (some ⟨go77, 0, none⟩) x117000_4.length co79)) (v1 := (.slice (some ⟨go77, 0, none⟩) x117000_4.length co79)) (ok := (fun k_ => some k_ ≠ (.slice (some ⟨go76, 0, none⟩) x7_4.length co42 : Value).ownBlock)) (by (with_reducible repeat (first | apply Kd.R_alloc | apply Kd.R_drewN | apply Kd.R_drew)); exact Kd.R_mono HO_11.out (fun _ hk => ⟨hk.2, hk.1⟩)) hg (.inl rfl)); have n2_ := Aside0.mk (hp_); have n3_ := Aside0.mk (blk_grown (g := gb116) (o := .cells #[.slice (some ⟨go77, 0, none⟩) x117000_4.length co79] 22 (0, 0)) (by (with_reducible repeat (first | refine blk_drewN ?_ _ | refine blk_drew ?_ | refine blk_alloc ?_ _)); exact BK116.out) hg (Kd.R_ne HO_117000.out BK116.out (by decide))); have n4_ := Aside0.mk ((by rw [hw]; exact below_set (HB.out) GB77.out : Below w.heap.size w w85)); clear HO_7; clear HO_11; clear HO_117000; clear BK116; clear HB; have HO_7 := n0_; have HO_11 := n1_; have HO_117000 := n2_; have BK116 := n3_; have HB := n4_; clear n0_ n1_ n2_ n3_ n4_; clear hg hw hp_)); try go_wp2_with (first | ((with_reducible refine gate_store (t := 3) (p := 128) rfl ?_); (try (rw [drewN_self wr]; generalize hq_ : World.drewN wr _ = wr; have n0_ := Aside0.mk (Kd.R_at hq_ HO_7.out); have n1_ := Aside0.mk (Kd.R_at hq_ HO_11.out); have n2_ := Aside0.mk (Kd.R_at hq_ HO_117000.out); have n3_ := Aside0.mk (blk_at hq_ BK116.out); have n4_ := Aside0.mk (below_at hq_ HB.out); clear hq_ HO_7 HO_11 HO_117000 BK116 HB; have HO_7 := n0_; have HO_11 := n1_; have HO_117000 := n2_; have BK116 := n3_; have HB := n4_; clear n0_ n1_ n2_ n3_ n4_; (try (obtain ⟨hx76_0, hf76_0⟩ := Kd.R_celln 0 HO_7.out (x107_4 : Int) (of_eq_true p76) (of_eq_true q76))); (try (have HP81 := Kd.R_putg HO_7.out (x107_4 : Int) x18_5)))); refine store_event (t := 3) (p := 128) (v := ?vo_w82) (w1 := (wr.setCell ⟨go76, (x107_4 : Int).toNat, none⟩ (.int .i64 x18_5))) ?hg ?ho ?hn ?hr ?_; (case ho => rfl); (case hg => rfl); (case hn => rfl); (case hr => first | (go_simp; done) | (go_simp; rfl)); intro w82 hw; have hg : wr.grownBy w82 (some go76) := (by rw [hw]; exact HP81.2); have hp_ : Kd.R (Kd.int .i64) 3 w82 w.heap.size (fun k_ => some k_ ≠ (.slice (some ad133) x11_4.length co80 : Value).ownBlock ∧ some k_ ≠ (.slice (some ad132) x117000_4.length co79 : Value).ownBlock) (.slice (some ⟨go76, 0, none⟩) x7_4.length co42) y134 := (by rw [hw, Ny134.out]; exact HP81.1); clear HP81; have n0_ := Aside0.mk (hp_); have n1_ := Aside0.mk (Kd.R_after (v := (.slice (some ⟨go76, 0, none⟩) x7_4.length co42)) (v1 := (.slice (some ⟨go76, 0, none⟩) x7_4.length co42)) (ok := (fun k_ => some k_ ≠ (.slice (some ad132) x117000_4.length co79 : Value).ownBlock)) (by (with_reducible repeat (first | apply Kd.R_alloc | apply Kd.R_drewN | apply Kd.R_drew)); exact Kd.R_mono HO_11.out (fun _ hk => ⟨hk.2, hk.1⟩)) hg (.inl rfl)); have n2_ := Aside0.mk (Kd.R_after (v := (.slice (some ⟨go76, 0, none⟩) x7_4.length co42)) (v1 := (.slice (some ⟨go76, 0, none⟩) x7_4.length co42)) (ok := (fun k_ => some k_ ≠ (.slice (some ad133) x11_4.length co80 : Value).ownBlock)) (by (with_reducible repeat (first | apply Kd.R_alloc | apply Kd.R_drewN | apply Kd.R_drew)); exact Kd.R_mono HO_117000.out (fun _ hk => ⟨hk.2, hk.1⟩)) hg (.inl rfl)); have n3_ := Aside0.mk (blk_grown (g := gb116) (o := .cells #[.slice (some ad132) x117000_4.length co79] 22 (0, 0)) (by (with_reducible repeat (first | refine blk_drewN ?_ _ | refine blk_drew ?_ | refine blk_alloc ?_ _)); exact BK116.out) hg (Kd.R_ne HO_7.out BK116.out (by decide))); have n4_ := Aside0.mk ((by rw [hw]; exact below_set (HB.out) GB76.out : Below w.heap.size w w82)); clear HO_7; clear HO_11; clear HO_117000; clear BK116; clear HB; have HO_7 := n0_; have HO_11 := n1_; have HO_117000 := n2_; have BK116 := n3_; have HB := n4_; clear n0_ n1_ n2_ n3_ n4_; clear hg hw hp_; have hcz83_0 : w82.cell? ⟨gb116, 0, none⟩ = some (.slice (some ad132) x117000_4.length co79) := (blk_cell BK116.out 0).trans rfl; have hfz83_0 := blk_frozen BK116.out 0; have p135 : 0 ≤ (x18_5 : Int) := of_decide_eq_true (by first | (with_reducible assumption) | assumption); have q135 : x18_5 < (x117000_4.length : Int) := of_decide_eq_true (by first | (with_reducible assumption) | assumption); obtain ⟨ad135, e135, hx135_0⟩ := Kd.at_int (Kd.R_reads' HO_117000.out).2.2 x18_5 p135 q135; obtain rfl : ad132 = ad135 := (by injection e135); replace p135 := eq_true p135; replace q135 := eq_true q135; have p77 : 0 ≤ (x18_5 : Int) := of_decide_eq_true (by first | (with_reducible assumption) | assumption); have q77 : (x18_5 : Int) < ((x117000_4.length : Int) : Int) := of_decide_eq_true (by first | (with_reducible assumption) | assumption); obtain ⟨go77, co77, eo77, gb77, gl77, cl77, HG77⟩ := Kd.R_form HO_117000.out (by omega); (first | cases eo77 | (injection eo77 with ea_ en_ ec_; (first | subst ea_ | (injection ea_ with ea_; subst ea_)); subst ec_; clear en_)); have GB77 := Aside0.mk gb77; have GG77 := Aside0.mk HG77; clear gb77 gl77 HG77; (first | simp only [add_plain] at hx132_0 | skip); (first | simp only [add_plain] at hx135_0 | skip); obtain ⟨hx77_0, hf77_0⟩ := Kd.R_celln 0 HO_117000.out (x18_5 : Int) p77 q77; replace p77 := eq_true p77; replace q77 := eq_true q77; obtain ⟨hy84_, hz84_⟩ := Kd.R_celln 0 HO_117000.out (x18_5 : Int) (of_decide_eq_true (by first | (with_reducible assumption) | assumption)) (of_decide_eq_true (by first | (with_reducible assumption) | assumption)); have HP84 := Kd.R_putg HO_117000.out (x18_5 : Int) (wrap64 ((rd x117000_4 x18_5) + 1))) | ((with_reducible refine gate_store (t := 3) (p := 134) rfl ?_); (try (rw [drewN_self w82]; generalize hq_ : World.drewN w82 _ = w82; have n0_ := Aside0.mk (Kd.R_at hq_ HO_7.out); have n1_ := Aside0.mk (Kd.R_at hq_ HO_11.out); have n2_ := Aside0.mk (Kd.R_at hq_ HO_117000.out); have n3_ := Aside0.mk (blk_at hq_ BK116.out); have n4_ := Aside0.mk (below_at hq_ HB.out); clear hq_ HO_7 HO_11 HO_117000 BK116 HB; have HO_7 := n0_; have HO_11 := n1_; have HO_117000 := n2_; have BK116 := n3_; have HB := n4_; clear n0_ n1_ n2_ n3_ n4_; (try (obtain ⟨hy84_, hz84_⟩ := Kd.R_celln 0 HO_117000.out (x18_5 : Int) (of_decide_eq_true (by first | (with_reducible assumption) | assumption)) (of_decide_eq_true (by first | (with_reducible assumption) | assumption)))); (try (have HP84 := Kd.R_putg HO_117000.out (x18_5 : Int) (wrap64 ((rd x117000_4 x18_5) + 1)))))); refine store_event (t := 3) (p := 134) (v := ?vo_w85) (w1 := (w82.setCell ⟨go77, (x18_5 : Int).toNat, none⟩ (.int .i64 (wrap64 ((rd x117000_4 x18_5) + 1))))) ?hg ?ho ?hn ?hr ?_; (case ho => rfl); (case hg => rfl); (case hn => rfl); (case hr => first | (go_simp; done) | (go_simp; rfl)); intro w85 hw; have hg : w82.grownBy w85 (some go77) := (by rw [hw]; exact HP84.2); have hp_ : Kd.R (Kd.int .i64) 3 w85 w.heap.size (fun k_ => some k_ ≠ (.slice (some ad133) x11_4.length co80 : Value).ownBlock ∧ some k_ ≠ (.slice (some ⟨go76, 0, none⟩) x7_4.length co42 : Value).ownBlock) (.slice (some ⟨go77, 0, none⟩) x117000_4.length co79) y136 := (by rw [hw, Ny136.out]; exact HP84.1); clear HP84; have n0_ := Aside0.mk (Kd.R_after (v := (.slice (some ⟨go77, 0, none⟩) x117000_4.length co79)) (v1 := (.slice (some ⟨go77, 0, none⟩) x117000_4.length co79)) (ok := (fun k_ => some k_ ≠ (.slice (some ad133) x11_4.length co80 : Value).ownBlock)) (by (with_reducible repeat (first | apply Kd.R_alloc | apply Kd.R_drewN | apply Kd.R_drew)); exact HO_7.out) hg (.inl rfl)); have n1_ := Aside0.mk (Kd.R_after (v := (.slice (some ⟨go77, 0, none⟩) x117000_4.length co79)) (v1 := (.slice (some ⟨go77, 0, none⟩) x117000_4.length co79)) (ok := (fun k_ => some k_ ≠ (.slice (some ⟨go76, 0, none⟩) x7_4.length co42 : Value).ownBlock)) (by (with_reducible repeat (first | apply Kd.R_alloc | apply Kd.R_drewN | apply Kd.R_drew)); exact Kd.R_mono HO_11.out (fun _ hk => ⟨hk.2, hk.1⟩)) hg (.inl rfl)); have n2_ := Aside0.mk (hp_); have n3_ := Aside0.mk (blk_grown (g := gb116) (o := .cells #[.slice (some ⟨go77, 0, none⟩) x117000_4.length co79] 22 (0, 0)) (by (with_reducible repeat (first | refine blk_drewN ?_ _ | refine blk_drew ?_ | refine blk_alloc ?_ _)); exact BK116.out) hg (Kd.R_ne HO_117000.out BK116.out (by decide))); have n4_ := Aside0.mk ((by rw [hw]; exact below_set (HB.out) GB77.out : Below w.heap.size w w85)); clear HO_7; clear HO_11; clear HO_117000; clear BK116; clear HB; have HO_7 := n0_; have HO_11 := n1_; have HO_117000 := n2_; have BK116 := n3_; have HB := n4_; clear n0_ n1_ n2_ n3_ n4_; clear hg hw hp_)))
                                                      (try simp only [← hl7_4])
                                                      go_roundg k5
                                                      case measure => have := HK1.out; have := HK2.out; have := HK3.out; have := HK4.out; have := HK5.out; omega
                                                      case rel => exact ⟨(y134), (x11_4), (wrap64 (x107_4 + 1)), (y136), (.slice (some ⟨go77, 0, none⟩) x117000_4.length co79), (by first | rfl | (simp; done) | (simp [*]; done)), H', ⟨by have := HK1.out; have := HK2.out; have := HK3.out; have := HK4.out; have := HK5.out; omega⟩, ⟨by (try simp only [hl8_2]); (try simp only [hl7_3]); (try simp only [hl7_4]); (with_reducible repeat (first | apply Kd.R_alloc | apply Kd.R_drewN | apply Kd.R_drew)); exact HO_7.out⟩, ⟨by (try simp only [hl8_2]); (try simp only [hl7_3]); (try simp only [hl7_4]); (with_reducible repeat (first | apply Kd.R_alloc | apply Kd.R_drewN | apply Kd.R_drew)); exact HO_11.out⟩, ⟨by (try simp only [hl8_2]); (try simp only [hl7_3]); (try simp only [hl7_4]); (with_reducible repeat (first | apply Kd.R_alloc | apply Kd.R_drewN | apply Kd.R_drew)); exact Kd.R_mono HO_117000.out (fun _ hk => ⟨hk.2, hk.1⟩)⟩, ⟨by (try simp only [hl8_2]); (try simp only [hl7_3]); (try simp only [hl7_4]); (with_reducible repeat (first | refine blk_drewN ?_ _ | refine blk_drew ?_ | refine blk_alloc ?_ _)); exact BK116.out⟩, ⟨by repeat (first | (with_reducible first | exact HB.out | apply below_alloc | apply pw_below_drewN | apply below_drew1 | refine below_set ?_ GE116.out) | exact HB.out)⟩⟩
                                                    · rw [if_neg c75] at H
                                                      exact absurd H (by simp)
                                                  · rw [if_neg c74] at H
                                                    exact absurd H (by simp)
                                              · rw [if_neg c69] at H
                                                exact absurd H (by simp)
                                            · rw [if_neg c68] at H
                                              exact absurd H (by simp)
                                          · rw [if_neg c67] at H
                                            exact absurd H (by simp)
                                  · rw [if_neg c65] at H
                                    exact absurd H (by simp)
                                · rw [if_neg c64] at H
                                  exact absurd H (by simp)
                              · rw [if_neg c63] at H
                                have c63b0 : decide (x107_4 < (x7_3.length : Int)) = false := decide_eq_false c63
                                clear c63
                                try (have c63h0 := c63b0; simp only [hl8_2, hl7_3, hl7_4] at c63h0)
                                obtain rfl := Option.some.inj H
                                go_wp2
                                repeat (go_quiet (fail); try go_wp2)
                                go_ret
                                exact ⟨_, by first | rfl | (simp [errW_none, errW_some] <;> rfl) | (simp [*, errW_none, errW_some] <;> rfl), by (with_reducible repeat (first | apply Kd.R_alloc | apply Kd.R_drewN | apply Kd.R_drew)); exact Kd.R_mono HO_7.out (fun _ hk => trivial), by repeat (first | (with_reducible first | exact HB.out | apply below_alloc | apply pw_below_drewN | apply below_drew1 | refine below_set ?_ GE116.out) | exact HB.out)⟩
            · rw [if_neg c17] at H
              exact absurd H (by simp)
          · rw [if_neg c16] at H
            exact absurd H (by simp)
  · rw [if_neg c4] at H
    exact absurd H (by simp)

end Go.Proofs.Ytgcliajajcinpaa.P
