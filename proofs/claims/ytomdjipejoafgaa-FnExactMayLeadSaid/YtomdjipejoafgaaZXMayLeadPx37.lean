-- Written by programs of this session (wip/prune.py, wip/xp.py), out of the translation and the printed words; what the law does not reach is left out. Not trusted: Lean checks it.
import Derived.Test.YtomdjipejoafgaaZXMayLeadPx0
import Derived.Test.YtomdjipejoafgaaZXMayLeadPx17
import Derived.Test.YtomdjipejoafgaaZXMayLeadPx21
import Derived.Test.YtomdjipejoafgaaZXMayLeadPx25
import Derived.Test.YtomdjipejoafgaaZXMayLeadPx36
import Derived.Test.YtomdjipejoafgaaZXMayLeadPx73
import Derived.Test.YtomdjipejoafgaaZXMayLeadPxok
section
namespace Go.Proofs.Ytomdjipejoafgaa.P
open Go.RowKit Go.Proofs.YtomdjipejoafgaaW.PrintWords Go.Proofs.YtomdjipejoafgaaW.PrintLast Go.Proofs.YtomdjipejoafgaaW.PrintMore
attribute [local go_sem] max2_int min2_int max_two min_two max_three min_three max_four min_four   -- for this text's walks alone
set_option linter.unusedVariables false
set_option linter.unusedSimpArgs false
def laws_FnExactMayLead.j0 : Nat → Bool → List (S139) → List (S143) → List (S145) → List (S108) → List (S111) → List (S114) → Option (Bool)
 | 0, _, _, _, _, _, _, _ => none
 | k + 1, x38, x102000, x102001, x102002, x124000, x124001, x124002 => if x38 = true then (some false) else ((laws_toElection.f k x102000 x102001 x102002).bind fun bt126 => ((laws_eqElection.f k x124000 x124001 x124002 bt126.1 bt126.2.1 bt126.2.2).bind fun t135 => (if t135 = true then (some true) else (some false))))
def laws_FnExactMayLead.f (k : Nat) (l0_0 : List (S139)) (l0_1 : List (S143)) (l0_2 : List (S145)) (a1 : Int) : Option (Bool) := (laws_szElection.f k l0_0 l0_1 l0_2 1048576).bind fun t102 => (if t102 < 0 then (some true) else ((laws_toElection.f k l0_0 l0_1 l0_2).bind fun bt103 => ((spec_MayLead.f k bt103.1 bt103.2.1 bt103.2.2 a1).bind fun bt112 => ((laws_toElection.f k l0_0 l0_1 l0_2).bind fun bt114 => ((impl_MayLead.f k bt114.1 bt114.2.1 bt114.2.2 a1).bind fun bt124 => (if (bt124.1 != bt112.1) = true then (laws_FnExactMayLead.j0 k true l0_0 l0_1 l0_2 bt114.1 bt114.2.1 bt114.2.2) else (laws_FnExactMayLead.j0 k (bt124.2 != bt112.2) l0_0 l0_1 l0_2 bt114.1 bt114.2.1 bt114.2.2)))))))
set_option maxHeartbeats 8000000 in
set_option maxRecDepth 100000 in
theorem laws_FnExactMayLead.calls (k : Nat) (A0_0 : Option Addr) (c0_0 : Nat) (l0_0 : List (S139)) (A0_1 : Option Addr) (c0_1 : Nat) (l0_1 : List (S143)) (A0_2 : Option Addr) (c0_2 : Nat) (l0_2 : List (S145)) (a1 : Int) (r : Bool) (w : World) (hr0_0 : Kd.C k139 w A0_0 l0_0.length l0_0) (hc0_0 : l0_0.length ≤ c0_0) (hr0_1 : Kd.C k143 w A0_1 l0_1.length l0_1) (hc0_1 : l0_1.length ≤ c0_1) (hr0_2 : Kd.C k145 w A0_2 l0_2.length l0_2) (hc0_2 : l0_2.length ≤ c0_2) (h : laws_FnExactMayLead.f k l0_0 l0_1 l0_2 a1 = some r) :
  Calls Try.prog 11 #[.agg #[.slice A0_0 l0_0.length c0_0, .slice A0_1 l0_1.length c0_1, .slice A0_2 l0_2.length c0_2], .int .i64 a1] w fun e w' => e = .returned (.bool r) ∧ Below w.heap.size w w' := by
 have hu47 := Try.underlying47
 have hu54 := Try.underlying54
 have HR0_0 := Aside0.mk hr0_0
 have HC0_0 := Aside0.mk hc0_0
 clear hr0_0 hc0_0
 have HR0_1 := Aside0.mk hr0_1
 have HC0_1 := Aside0.mk hc0_1
 clear hr0_1 hc0_1
 have HR0_2 := Aside0.mk hr0_2
 have HC0_2 := Aside0.mk hc0_2
 clear hr0_2 hc0_2
 have HB := Aside0.mk (Below.refl w.heap.size w)
 have H : ((laws_szElection.f k l0_0 l0_1 l0_2 1048576).bind fun t102 => (if t102 < 0 then (some true) else ((laws_toElection.f k l0_0 l0_1 l0_2).bind fun bt103 => ((spec_MayLead.f k bt103.1 bt103.2.1 bt103.2.2 a1).bind fun bt112 => ((laws_toElection.f k l0_0 l0_1 l0_2).bind fun bt114 => ((impl_MayLead.f k bt114.1 bt114.2.1 bt114.2.2 a1).bind fun bt124 => (if (bt124.1 != bt112.1) = true then (laws_FnExactMayLead.j0 k true l0_0 l0_1 l0_2 bt114.1 bt114.2.1 bt114.2.2) else (laws_FnExactMayLead.j0 k (bt124.2 != bt112.2) l0_0 l0_1 l0_2 bt114.1 bt114.2.1 bt114.2.2)))))))) = some r := h
 clear h
 replace H := Option.bind_eq_some_iff.mp H
 obtain ⟨t102, A30, H⟩ := H
 have A3 := Aside0.mk A30
 clear A30
 by_cases c4 : t102 < 0
 ·rw [if_pos c4] at H
  have c4b0 : decide (t102 < 0) = true := decide_eq_true c4
  clear c4
  obtain rfl := Option.some.inj H
  go_enter Try.func11, Try.ntmps11
  go_wp2_with (first | ((with_reducible refine Zt (N := 2) rfl ?_); refine Zs ?hg (N := 2) ?hd (cs := #[.slice A0_0 l0_0.length c0_0, .slice A0_1 l0_1.length c0_1, .slice A0_2 l0_2.length c0_2]) (t := 47) ?hr ?_; (case hd => rfl); (case hg => rfl); (case hr => first | (go_simp; done) | (go_simp; rfl)); intro gb101 hg w5 hbox hb; have n0_ := Aside0.mk (Zk (by repeat (first | (with_reducible first | exact HB.out | apply Ze | apply Za | apply Zd) | exact HB.out)) hb); have n1_ := Aside0.mk (hbox); have n2_ := Aside0.mk ((by rw [hg]; exact (Zj (by repeat (first | (with_reducible first | exact HB.out | apply Ze | apply Za | apply Zd) | exact HB.out))) : w.heap.size ≤ gb101)); have n3_ := n2_; clear HB; have HB := n0_; have BK101 := n1_; have GW101 := n2_; have GE101 := n3_; clear n0_ n1_ n2_ n3_; clear hb hbox hg; have hcz6_0 : w5.cell? ⟨gb101, 0, none⟩ = some (.slice A0_0 l0_0.length c0_0) := (Zb BK101.out 0).trans rfl; have hcz6_1 : w5.cell? ⟨gb101, 1, none⟩ = some (.slice A0_1 l0_1.length c0_1) := (Zb BK101.out 1).trans rfl; have hcz6_2 : w5.cell? ⟨gb101, 2, none⟩ = some (.slice A0_2 l0_2.length c0_2) := (Zb BK101.out 2).trans rfl; have hfz6_0 := Zc BK101.out 0; have hfz6_1 := Zc BK101.out 1; have hfz6_2 := Zc BK101.out 2) | ((with_reducible refine Zp (f := 28) rfl ?_); refine Zw (some 13) rfl rfl Try.func28 (by kernel_rfl) rfl #[.agg #[.slice A0_0 l0_0.length c0_0, .slice A0_1 l0_1.length c0_1, .slice A0_2 l0_2.length c0_2], .int .i64 1048576] rfl (by (try simp only [List.map_toArray, List.map_cons, List.map_nil]); first | done | rfl | (simp only [List.length_drop, List.length_take]; rfl)) ?_; (with_reducible refine (laws_szElection.calls k _ _ l0_0 _ _ l0_1 _ _ l0_2 1048576 t102 _ ?side1 ?side2 ?side3 ?side4 ?side5 ?side6 A3.out).mono ?_); (case side1 => repeat (first | exact (Kd.C_below HR0_0.out HB.out) | (with_reducible refine Kd.C_alloc ?_ _) | (with_reducible refine Kd.C_drewN ?_ _) | (with_reducible refine Kd.C_drew ?_))); (case side2 => exact HC0_0.out); (case side3 => repeat (first | exact (Kd.C_below HR0_1.out HB.out) | (with_reducible refine Kd.C_alloc ?_ _) | (with_reducible refine Kd.C_drewN ?_ _) | (with_reducible refine Kd.C_drew ?_))); (case side4 => exact HC0_1.out); (case side5 => repeat (first | exact (Kd.C_below HR0_2.out HB.out) | (with_reducible refine Kd.C_alloc ?_ _) | (with_reducible refine Kd.C_drewN ?_ _) | (with_reducible refine Kd.C_drew ?_))); (case side6 => exact HC0_2.out); rintro e w7 ⟨rfl, hb⟩; refine ⟨_, rfl, ?_⟩; have n0_ := Aside0.mk (Zl (g := gb101) (o := .cells #[.slice A0_0 l0_0.length c0_0, .slice A0_1 l0_1.length c0_1, .slice A0_2 l0_2.length c0_2] 47 (0, 0)) (by (with_reducible repeat (first | refine Zg ?_ _ | refine Zi ?_ | refine Zh ?_ _)); exact BK101.out) hb); have n1_ := Aside0.mk (Zk (by repeat (first | (with_reducible first | exact HB.out | apply Ze | apply Za | apply Zd | refine Zf ?_ GE101.out) | exact HB.out)) hb); clear BK101; clear HB; have BK101 := n0_; have HB := n1_; clear n0_ n1_; (try clear hb)))
  go_ret
  exact ⟨by first | rfl | (simp [errW_none, errW_some] <;> rfl) | (simp [*, errW_none, errW_some] <;> rfl), by repeat (first | (with_reducible first | exact HB.out | apply Ze | apply Za | apply Zd | refine Zf ?_ GE101.out) | exact HB.out)⟩
 ·rw [if_neg c4] at H
  have c4b0 : decide (t102 < 0) = false := decide_eq_false c4
  clear c4
  replace H := Option.bind_eq_some_iff.mp H
  obtain ⟨⟨t103, t106, t109⟩, A80, H⟩ := H
  replace H : ((spec_MayLead.f k t103 t106 t109 a1).bind fun bt112 => ((laws_toElection.f k l0_0 l0_1 l0_2).bind fun bt114 => ((impl_MayLead.f k bt114.1 bt114.2.1 bt114.2.2 a1).bind fun bt124 => (if (bt124.1 != bt112.1) = true then (laws_FnExactMayLead.j0 k true l0_0 l0_1 l0_2 bt114.1 bt114.2.1 bt114.2.2) else (laws_FnExactMayLead.j0 k (bt124.2 != bt112.2) l0_0 l0_1 l0_2 bt114.1 bt114.2.1 bt114.2.2))))) = some r := H
  have A8 := Aside0.mk A80
  clear A80
  replace H := Option.bind_eq_some_iff.mp H
  obtain ⟨⟨t112, t113⟩, A90, H⟩ := H
  replace H : ((laws_toElection.f k l0_0 l0_1 l0_2).bind fun bt114 => ((impl_MayLead.f k bt114.1 bt114.2.1 bt114.2.2 a1).bind fun bt124 => (if (bt124.1 != t112) = true then (laws_FnExactMayLead.j0 k true l0_0 l0_1 l0_2 bt114.1 bt114.2.1 bt114.2.2) else (laws_FnExactMayLead.j0 k (bt124.2 != t113) l0_0 l0_1 l0_2 bt114.1 bt114.2.1 bt114.2.2)))) = some r := H
  have A9 := Aside0.mk A90
  clear A90
  replace H := Option.bind_eq_some_iff.mp H
  obtain ⟨⟨t114, t117, t120⟩, A100, H⟩ := H
  replace H : ((impl_MayLead.f k t114 t117 t120 a1).bind fun bt124 => (if (bt124.1 != t112) = true then (laws_FnExactMayLead.j0 k true l0_0 l0_1 l0_2 t114 t117 t120) else (laws_FnExactMayLead.j0 k (bt124.2 != t113) l0_0 l0_1 l0_2 t114 t117 t120))) = some r := H
  have A10 := Aside0.mk A100
  clear A100
  replace H := Option.bind_eq_some_iff.mp H
  obtain ⟨⟨t124, t125⟩, A110, H⟩ := H
  replace H : (if (t124 != t112) = true then (laws_FnExactMayLead.j0 k true l0_0 l0_1 l0_2 t114 t117 t120) else (laws_FnExactMayLead.j0 k (t125 != t113) l0_0 l0_1 l0_2 t114 t117 t120)) = some r := H
  have A11 := Aside0.mk A110
  clear A110
  have HC12 := Aside0.mk H
  clear H
  go_enter Try.func11, Try.ntmps11
  go_upto_region 8 with (first | ((with_reducible refine Zt (N := 2) rfl ?_); refine Zs ?hg (N := 2) ?hd (cs := #[.slice A0_0 l0_0.length c0_0, .slice A0_1 l0_1.length c0_1, .slice A0_2 l0_2.length c0_2]) (t := 47) ?hr ?_; (case hd => rfl); (case hg => rfl); (case hr => first | (go_simp; done) | (go_simp; rfl)); intro gb101 hg w13 hbox hb; have n0_ := Aside0.mk (Zk (by repeat (first | (with_reducible first | exact HB.out | apply Ze | apply Za | apply Zd) | exact HB.out)) hb); have n1_ := Aside0.mk (hbox); have n2_ := Aside0.mk ((by rw [hg]; exact (Zj (by repeat (first | (with_reducible first | exact HB.out | apply Ze | apply Za | apply Zd) | exact HB.out))) : w.heap.size ≤ gb101)); have n3_ := n2_; clear HB; have HB := n0_; have BK101 := n1_; have GW101 := n2_; have GE101 := n3_; clear n0_ n1_ n2_ n3_; clear hb hbox hg; have hcz14_0 : w13.cell? ⟨gb101, 0, none⟩ = some (.slice A0_0 l0_0.length c0_0) := (Zb BK101.out 0).trans rfl; have hcz14_1 : w13.cell? ⟨gb101, 1, none⟩ = some (.slice A0_1 l0_1.length c0_1) := (Zb BK101.out 1).trans rfl; have hcz14_2 : w13.cell? ⟨gb101, 2, none⟩ = some (.slice A0_2 l0_2.length c0_2) := (Zb BK101.out 2).trans rfl; have hfz14_0 := Zc BK101.out 0; have hfz14_1 := Zc BK101.out 1; have hfz14_2 := Zc BK101.out 2) | ((with_reducible refine Zp (f := 28) rfl ?_); refine Zw (some 13) rfl rfl Try.func28 (by kernel_rfl) rfl #[.agg #[.slice A0_0 l0_0.length c0_0, .slice A0_1 l0_1.length c0_1, .slice A0_2 l0_2.length c0_2], .int .i64 1048576] rfl (by (try simp only [List.map_toArray, List.map_cons, List.map_nil]); first | done | rfl | (simp only [List.length_drop, List.length_take]; rfl)) ?_; (with_reducible refine (laws_szElection.calls k _ _ l0_0 _ _ l0_1 _ _ l0_2 1048576 t102 _ ?side1 ?side2 ?side3 ?side4 ?side5 ?side6 A3.out).mono ?_); (case side1 => repeat (first | exact (Kd.C_below HR0_0.out HB.out) | (with_reducible refine Kd.C_alloc ?_ _) | (with_reducible refine Kd.C_drewN ?_ _) | (with_reducible refine Kd.C_drew ?_))); (case side2 => exact HC0_0.out); (case side3 => repeat (first | exact (Kd.C_below HR0_1.out HB.out) | (with_reducible refine Kd.C_alloc ?_ _) | (with_reducible refine Kd.C_drewN ?_ _) | (with_reducible refine Kd.C_drew ?_))); (case side4 => exact HC0_1.out); (case side5 => repeat (first | exact (Kd.C_below HR0_2.out HB.out) | (with_reducible refine Kd.C_alloc ?_ _) | (with_reducible refine Kd.C_drewN ?_ _) | (with_reducible refine Kd.C_drew ?_))); (case side6 => exact HC0_2.out); rintro e w15 ⟨rfl, hb⟩; refine ⟨_, rfl, ?_⟩; have n0_ := Aside0.mk (Zl (g := gb101) (o := .cells #[.slice A0_0 l0_0.length c0_0, .slice A0_1 l0_1.length c0_1, .slice A0_2 l0_2.length c0_2] 47 (0, 0)) (by (with_reducible repeat (first | refine Zg ?_ _ | refine Zi ?_ | refine Zh ?_ _)); exact BK101.out) hb); have n1_ := Aside0.mk (Zk (by repeat (first | (with_reducible first | exact HB.out | apply Ze | apply Za | apply Zd | refine Zf ?_ GE101.out) | exact HB.out)) hb); clear BK101; clear HB; have BK101 := n0_; have HB := n1_; clear n0_ n1_; (try clear hb); have hcz16_0 : w15.cell? ⟨gb101, 0, none⟩ = some (.slice A0_0 l0_0.length c0_0) := (Zb BK101.out 0).trans rfl; have hcz16_1 : w15.cell? ⟨gb101, 1, none⟩ = some (.slice A0_1 l0_1.length c0_1) := (Zb BK101.out 1).trans rfl; have hcz16_2 : w15.cell? ⟨gb101, 2, none⟩ = some (.slice A0_2 l0_2.length c0_2) := (Zb BK101.out 2).trans rfl; have hfz16_0 := Zc BK101.out 0; have hfz16_1 := Zc BK101.out 1; have hfz16_2 := Zc BK101.out 2) | ((with_reducible refine Zp (f := 30) rfl ?_); refine Zw (some 18) rfl rfl Try.func30 (by kernel_rfl) rfl #[.agg #[.slice A0_0 l0_0.length c0_0, .slice A0_1 l0_1.length c0_1, .slice A0_2 l0_2.length c0_2]] rfl (by (try simp only [List.map_toArray, List.map_cons, List.map_nil]); first | done | rfl | (simp only [List.length_drop, List.length_take]; rfl)) ?_; (with_reducible refine (laws_toElection.calls k _ _ l0_0 _ _ l0_1 _ _ l0_2 t103 t106 t109 _ ?side1 ?side2 ?side3 ?side4 ?side5 ?side6 A8.out).mono ?_); (case side1 => repeat (first | exact (Kd.C_below HR0_0.out HB.out) | (with_reducible refine Kd.C_alloc ?_ _) | (with_reducible refine Kd.C_drewN ?_ _) | (with_reducible refine Kd.C_drew ?_))); (case side2 => exact HC0_0.out); (case side3 => repeat (first | exact (Kd.C_below HR0_1.out HB.out) | (with_reducible refine Kd.C_alloc ?_ _) | (with_reducible refine Kd.C_drewN ?_ _) | (with_reducible refine Kd.C_drew ?_))); (case side4 => exact HC0_1.out); (case side5 => repeat (first | exact (Kd.C_below HR0_2.out HB.out) | (with_reducible refine Kd.C_alloc ?_ _) | (with_reducible refine Kd.C_drewN ?_ _) | (with_reducible refine Kd.C_drew ?_))); (case side6 => exact HC0_2.out); rintro e w17 ⟨v104, v107, v110, rfl, ho0, ho1, ho2, hb⟩; refine ⟨_, rfl, ?_⟩; have n0_ := Aside0.mk (Kd.S_lower ho0 (Zj (by repeat (first | (with_reducible first | exact HB.out | apply Ze | apply Za | apply Zd | refine Zf ?_ GE101.out) | exact HB.out)))); have n1_ := Aside0.mk (Kd.R_lower ho1 (Zj (by repeat (first | (with_reducible first | exact HB.out | apply Ze | apply Za | apply Zd | refine Zf ?_ GE101.out) | exact HB.out)))); have n2_ := Aside0.mk (Kd.R_lower ho2 (Zj (by repeat (first | (with_reducible first | exact HB.out | apply Ze | apply Za | apply Zd | refine Zf ?_ GE101.out) | exact HB.out)))); have n3_ := Aside0.mk (Zl (g := gb101) (o := .cells #[.slice A0_0 l0_0.length c0_0, .slice A0_1 l0_1.length c0_1, .slice A0_2 l0_2.length c0_2] 47 (0, 0)) (by (with_reducible repeat (first | refine Zg ?_ _ | refine Zi ?_ | refine Zh ?_ _)); exact BK101.out) hb); have n4_ := Aside0.mk (Zk (by repeat (first | (with_reducible first | exact HB.out | apply Ze | apply Za | apply Zd | refine Zf ?_ GE101.out) | exact HB.out)) hb); clear BK101; clear HB; have HO105 := n0_; have HO108 := n1_; have HO111 := n2_; have BK101 := n3_; have HB := n4_; clear n0_ n1_ n2_ n3_ n4_; (try clear hb); (try clear ho0); (try clear ho1); (try clear ho2); obtain ⟨Ao18, co18, eo18⟩ := Kd.S_slice HO105.out; subst eo18; obtain ⟨Ao19, co19, eo19⟩ := Kd.R_slice HO108.out; subst eo19; obtain ⟨Ao20, co20, eo20⟩ := Kd.R_slice HO111.out; subst eo20) | ((with_reducible refine Zp (f := 50) rfl ?_); refine Zw (some 20) rfl rfl Try.func50 (by kernel_rfl) rfl #[.agg #[.slice Ao18 t103.length co18, .slice Ao19 t106.length co19, .slice Ao20 t109.length co20], .int .i64 a1] rfl (by (try simp only [List.map_toArray, List.map_cons, List.map_nil]); first | done | rfl | (simp only [List.length_drop, List.length_take]; rfl)) ?_; (with_reducible refine (spec_MayLead.calls k _ _ t103 _ _ t106 _ _ t109 a1 t112 t113 _ ?side1 ?side2 ?side3 ?side4 ?side5 ?side6 A9.out).mono ?_); (case side1 => repeat (first | exact (Kd.S_reads' HO105.out).2.2 | (with_reducible refine Kd.C_alloc ?_ _) | (with_reducible refine Kd.C_drewN ?_ _) | (with_reducible refine Kd.C_drew ?_))); (case side2 => exact (Kd.S_reads' HO105.out).2.1); (case side3 => repeat (first | exact (Kd.R_reads' HO108.out).2.2 | (with_reducible refine Kd.C_alloc ?_ _) | (with_reducible refine Kd.C_drewN ?_ _) | (with_reducible refine Kd.C_drew ?_))); (case side4 => exact (Kd.R_reads' HO108.out).2.1); (case side5 => repeat (first | exact (Kd.R_reads' HO111.out).2.2 | (with_reducible refine Kd.C_alloc ?_ _) | (with_reducible refine Kd.C_drewN ?_ _) | (with_reducible refine Kd.C_drew ?_))); (case side6 => exact (Kd.R_reads' HO111.out).2.1); rintro e w21 ⟨rfl, hb⟩; refine ⟨_, rfl, ?_⟩; have n0_ := Aside0.mk (Kd.S_below (by (with_reducible repeat (first | apply Kd.S_alloc | apply Kd.S_drewN | apply Kd.S_drew)); exact HO105.out) hb); have n1_ := Aside0.mk (Kd.R_below (by (with_reducible repeat (first | apply Kd.R_alloc | apply Kd.R_drewN | apply Kd.R_drew)); exact HO108.out) hb); have n2_ := Aside0.mk (Kd.R_below (by (with_reducible repeat (first | apply Kd.R_alloc | apply Kd.R_drewN | apply Kd.R_drew)); exact HO111.out) hb); have n3_ := Aside0.mk (Zl (g := gb101) (o := .cells #[.slice A0_0 l0_0.length c0_0, .slice A0_1 l0_1.length c0_1, .slice A0_2 l0_2.length c0_2] 47 (0, 0)) (by (with_reducible repeat (first | refine Zg ?_ _ | refine Zi ?_ | refine Zh ?_ _)); exact BK101.out) hb); have n4_ := Aside0.mk (Zk (by repeat (first | (with_reducible first | exact HB.out | apply Ze | apply Za | apply Zd | refine Zf ?_ GE101.out) | exact HB.out)) hb); clear HO105; clear HO108; clear HO111; clear BK101; clear HB; have HO105 := n0_; have HO108 := n1_; have HO111 := n2_; have BK101 := n3_; have HB := n4_; clear n0_ n1_ n2_ n3_ n4_; (try clear hb); have hcz22_0 : w21.cell? ⟨gb101, 0, none⟩ = some (.slice A0_0 l0_0.length c0_0) := (Zb BK101.out 0).trans rfl; have hcz22_1 : w21.cell? ⟨gb101, 1, none⟩ = some (.slice A0_1 l0_1.length c0_1) := (Zb BK101.out 1).trans rfl; have hcz22_2 : w21.cell? ⟨gb101, 2, none⟩ = some (.slice A0_2 l0_2.length c0_2) := (Zb BK101.out 2).trans rfl; have hfz22_0 := Zc BK101.out 0; have hfz22_1 := Zc BK101.out 1; have hfz22_2 := Zc BK101.out 2) | ((with_reducible refine Zp (f := 30) rfl ?_); refine Zw (some 24) rfl rfl Try.func30 (by kernel_rfl) rfl #[.agg #[.slice A0_0 l0_0.length c0_0, .slice A0_1 l0_1.length c0_1, .slice A0_2 l0_2.length c0_2]] rfl (by (try simp only [List.map_toArray, List.map_cons, List.map_nil]); first | done | rfl | (simp only [List.length_drop, List.length_take]; rfl)) ?_; (with_reducible refine (laws_toElection.calls k _ _ l0_0 _ _ l0_1 _ _ l0_2 t114 t117 t120 _ ?side1 ?side2 ?side3 ?side4 ?side5 ?side6 A10.out).mono ?_); (case side1 => repeat (first | exact (Kd.C_below HR0_0.out HB.out) | (with_reducible refine Kd.C_alloc ?_ _) | (with_reducible refine Kd.C_drewN ?_ _) | (with_reducible refine Kd.C_drew ?_))); (case side2 => exact HC0_0.out); (case side3 => repeat (first | exact (Kd.C_below HR0_1.out HB.out) | (with_reducible refine Kd.C_alloc ?_ _) | (with_reducible refine Kd.C_drewN ?_ _) | (with_reducible refine Kd.C_drew ?_))); (case side4 => exact HC0_1.out); (case side5 => repeat (first | exact (Kd.C_below HR0_2.out HB.out) | (with_reducible refine Kd.C_alloc ?_ _) | (with_reducible refine Kd.C_drewN ?_ _) | (with_reducible refine Kd.C_drew ?_))); (case side6 => exact HC0_2.out); rintro e w23 ⟨v115, v118, v121, rfl, ho0, ho1, ho2, hb⟩; refine ⟨_, rfl, ?_⟩; have n0_ := Aside0.mk (Kd.S_elder' (by (with_reducible repeat (first | apply Kd.S_alloc | apply Kd.S_drewN | apply Kd.S_drew)); exact HO105.out) (Kd.S_base ho0) hb); have n1_ := Aside0.mk (Kd.R_elder' (by (with_reducible repeat (first | apply Kd.R_alloc | apply Kd.R_drewN | apply Kd.R_drew)); exact HO108.out) (Kd.R_base ho1) hb); have n2_ := Aside0.mk (Kd.R_elder' (by (with_reducible repeat (first | apply Kd.R_alloc | apply Kd.R_drewN | apply Kd.R_drew)); exact HO111.out) (Kd.R_base ho2) hb); have n3_ := Aside0.mk (Kd.S_lower (Kd.S_new' ho0 (Kd.S_lt (by (with_reducible repeat (first | apply Kd.S_alloc | apply Kd.S_drewN | apply Kd.S_drew)); exact HO105.out))) (Zj (by repeat (first | (with_reducible first | exact HB.out | apply Ze | apply Za | apply Zd | refine Zf ?_ GE101.out) | exact HB.out)))); have n4_ := Aside0.mk (Kd.R_lower (Kd.R_new' ho1 (Kd.R_lt (by (with_reducible repeat (first | apply Kd.R_alloc | apply Kd.R_drewN | apply Kd.R_drew)); exact HO108.out))) (Zj (by repeat (first | (with_reducible first | exact HB.out | apply Ze | apply Za | apply Zd | refine Zf ?_ GE101.out) | exact HB.out)))); have n5_ := Aside0.mk (Kd.R_lower (Kd.R_new' ho2 (Kd.R_lt (by (with_reducible repeat (first | apply Kd.R_alloc | apply Kd.R_drewN | apply Kd.R_drew)); exact HO111.out))) (Zj (by repeat (first | (with_reducible first | exact HB.out | apply Ze | apply Za | apply Zd | refine Zf ?_ GE101.out) | exact HB.out)))); have n6_ := Aside0.mk (Zl (g := gb101) (o := .cells #[.slice A0_0 l0_0.length c0_0, .slice A0_1 l0_1.length c0_1, .slice A0_2 l0_2.length c0_2] 47 (0, 0)) (by (with_reducible repeat (first | refine Zg ?_ _ | refine Zi ?_ | refine Zh ?_ _)); exact BK101.out) hb); have n7_ := Aside0.mk (Zk (by repeat (first | (with_reducible first | exact HB.out | apply Ze | apply Za | apply Zd | refine Zf ?_ GE101.out) | exact HB.out)) hb); clear HO105; clear HO108; clear HO111; clear BK101; clear HB; have HO105 := n0_; have HO108 := n1_; have HO111 := n2_; have HO116 := n3_; have HO119 := n4_; have HO122 := n5_; have BK101 := n6_; have HB := n7_; clear n0_ n1_ n2_ n3_ n4_ n5_ n6_ n7_; (try clear hb); (try clear ho0); (try clear ho1); (try clear ho2)) | ((with_reducible refine Zt (N := 8) rfl ?_); refine Zs ?hg (N := 8) ?hd (cs := #[.slice none 0 0, .slice none 0 0, .slice none 0 0]) (t := 54) ?hr ?_; (case hd => rfl); (case hg => rfl); (case hr => first | (go_simp; done) | (go_simp; rfl)); intro gb123 hg w24 hbox hb; have n0_ := Aside0.mk (Kd.S_below (by (with_reducible repeat (first | apply Kd.S_alloc | apply Kd.S_drewN | apply Kd.S_drew)); exact HO105.out) hb); have n1_ := Aside0.mk (Kd.R_below (by (with_reducible repeat (first | apply Kd.R_alloc | apply Kd.R_drewN | apply Kd.R_drew)); exact HO108.out) hb); have n2_ := Aside0.mk (Kd.R_below (by (with_reducible repeat (first | apply Kd.R_alloc | apply Kd.R_drewN | apply Kd.R_drew)); exact HO111.out) hb); have n3_ := Aside0.mk (Kd.S_below (by (with_reducible repeat (first | apply Kd.S_alloc | apply Kd.S_drewN | apply Kd.S_drew)); exact HO116.out) hb); have n4_ := Aside0.mk (Kd.R_below (by (with_reducible repeat (first | apply Kd.R_alloc | apply Kd.R_drewN | apply Kd.R_drew)); exact HO119.out) hb); have n5_ := Aside0.mk (Kd.R_below (by (with_reducible repeat (first | apply Kd.R_alloc | apply Kd.R_drewN | apply Kd.R_drew)); exact HO122.out) hb); have n6_ := Aside0.mk (Zl (g := gb101) (o := .cells #[.slice A0_0 l0_0.length c0_0, .slice A0_1 l0_1.length c0_1, .slice A0_2 l0_2.length c0_2] 47 (0, 0)) (by (with_reducible repeat (first | refine Zg ?_ _ | refine Zi ?_ | refine Zh ?_ _)); exact BK101.out) hb); have n7_ := Aside0.mk (Zk (by repeat (first | (with_reducible first | exact HB.out | apply Ze | apply Za | apply Zd | refine Zf ?_ GE101.out) | exact HB.out)) hb); have n8_ := Aside0.mk (hbox); have n9_ := Aside0.mk ((by rw [hg]; exact (Zj (by repeat (first | (with_reducible first | exact HB.out | apply Ze | apply Za | apply Zd | refine Zf ?_ GE101.out) | exact HB.out))) : w.heap.size ≤ gb123)); have n10_ := n9_; have n11_ := Aside0.mk ((by rw [hg]; exact Nat.ne_of_lt (Zu (g := gb101) (o := .cells #[.slice A0_0 l0_0.length c0_0, .slice A0_1 l0_1.length c0_1, .slice A0_2 l0_2.length c0_2] 47 (0, 0)) (by (with_reducible repeat (first | refine Zg ?_ _ | refine Zi ?_ | refine Zh ?_ _)); exact BK101.out)) : gb101 ≠ gb123)); have n12_ := Aside0.mk n11_.out.symm; clear HO105; clear HO108; clear HO111; clear HO116; clear HO119; clear HO122; clear BK101; clear HB; have HO105 := n0_; have HO108 := n1_; have HO111 := n2_; have HO116 := n3_; have HO119 := n4_; have HO122 := n5_; have BK101 := n6_; have HB := n7_; have BK123 := n8_; have GW123 := n9_; have GE123 := n10_; have NB101_123 := n11_; have NB123_101 := n12_; clear n0_ n1_ n2_ n3_ n4_ n5_ n6_ n7_ n8_ n9_ n10_ n11_ n12_; clear hb hbox hg; obtain ⟨Ao25, co25, eo25⟩ := Kd.S_slice HO116.out; subst eo25; have hnb26 := NB123_101.out; have hnc26 := NB101_123.out; have hcz27_0 : w24.cell? ⟨gb123, 0, none⟩ = some (.slice none 0 0) := (Zb BK123.out 0).trans rfl; have hcz27_1 : w24.cell? ⟨gb123, 1, none⟩ = some (.slice none 0 0) := (Zb BK123.out 1).trans rfl; have hcz27_2 : w24.cell? ⟨gb123, 2, none⟩ = some (.slice none 0 0) := (Zb BK123.out 2).trans rfl; have hfz27_0 := Zc BK123.out 0; have hfz27_1 := Zc BK123.out 1; have hfz27_2 := Zc BK123.out 2; obtain ⟨Ao28, co28, eo28⟩ := Kd.R_slice HO119.out; subst eo28; obtain ⟨Ao29, co29, eo29⟩ := Kd.R_slice HO122.out; subst eo29) | ((with_reducible refine Zp (f := 51) rfl ?_); refine Zw (some 28) rfl rfl Try.func51 (by kernel_rfl) rfl #[.agg #[.slice Ao25 t114.length co25, .slice Ao28 t117.length co28, .slice Ao29 t120.length co29], .int .i64 a1] rfl (by (try simp only [List.map_toArray, List.map_cons, List.map_nil]); first | done | rfl | (simp only [List.length_drop, List.length_take]; rfl)) ?_; (with_reducible refine (impl_MayLead.calls k _ _ t114 _ _ t117 _ _ t120 a1 t124 t125 _ ?side1 ?side2 ?side3 ?side4 ?side5 ?side6 A11.out).mono ?_); (case side1 => refine (Kd.S_reads' (e := 108) (base := w.heap.size) (ok := fun k_ => (True ∧ some k_ ≠ (.slice Ao18 t103.length co18 : Value).ownBlock)) (n := t114.length) (c := co25) ?_).2.2; exact (by (with_reducible repeat (first | apply Kd.S_alloc | apply Kd.S_drewN | apply Kd.S_drew)); exact (Kd.S_mono (Kd.S_far (p := ⟨gb123, 2, none⟩) (Kd.S_far (p := ⟨gb123, 1, none⟩) (Kd.S_far (p := ⟨gb123, 0, none⟩) (Kd.S_types HO116.out BK123.out (by decide)) (fun _ hk => hk.2) (.slice Ao25 t114.length co25)) (fun _ hk => hk.2) (.slice Ao28 t117.length co28)) (fun _ hk => hk.2) (.slice Ao29 t120.length co29)) (fun _ h_ => h_.1)))); (case side2 => exact (Kd.S_reads' HO116.out).2.1); (case side3 => refine (Kd.R_reads' (e := 111) (base := w.heap.size) (ok := fun k_ => (True ∧ some k_ ≠ (.slice Ao19 t106.length co19 : Value).ownBlock)) (n := t117.length) (c := co28) ?_).2.2; exact (by (with_reducible repeat (first | apply Kd.R_alloc | apply Kd.R_drewN | apply Kd.R_drew)); exact (Kd.R_mono (Kd.R_far (p := ⟨gb123, 2, none⟩) (Kd.R_far (p := ⟨gb123, 1, none⟩) (Kd.R_far (p := ⟨gb123, 0, none⟩) (Kd.R_types HO119.out BK123.out (by decide)) (fun _ hk => hk.2) (.slice Ao25 t114.length co25)) (fun _ hk => hk.2) (.slice Ao28 t117.length co28)) (fun _ hk => hk.2) (.slice Ao29 t120.length co29)) (fun _ h_ => h_.1)))); (case side4 => exact (Kd.R_reads' HO119.out).2.1); (case side5 => refine (Kd.R_reads' (e := 114) (base := w.heap.size) (ok := fun k_ => (True ∧ some k_ ≠ (.slice Ao20 t109.length co20 : Value).ownBlock)) (n := t120.length) (c := co29) ?_).2.2; exact (by (with_reducible repeat (first | apply Kd.R_alloc | apply Kd.R_drewN | apply Kd.R_drew)); exact (Kd.R_mono (Kd.R_far (p := ⟨gb123, 2, none⟩) (Kd.R_far (p := ⟨gb123, 1, none⟩) (Kd.R_far (p := ⟨gb123, 0, none⟩) (Kd.R_types HO122.out BK123.out (by decide)) (fun _ hk => hk.2) (.slice Ao25 t114.length co25)) (fun _ hk => hk.2) (.slice Ao28 t117.length co28)) (fun _ hk => hk.2) (.slice Ao29 t120.length co29)) (fun _ h_ => h_.1)))); (case side6 => exact (Kd.R_reads' HO122.out).2.1); rintro e w30 ⟨rfl, hb⟩; refine ⟨_, rfl, ?_⟩; have n0_ := Aside0.mk (Kd.S_below (by (with_reducible repeat (first | apply Kd.S_alloc | apply Kd.S_drewN | apply Kd.S_drew)); exact (Kd.S_mono (Kd.S_far (p := ⟨gb123, 2, none⟩) (Kd.S_far (p := ⟨gb123, 1, none⟩) (Kd.S_far (p := ⟨gb123, 0, none⟩) (Kd.S_types HO105.out BK123.out (by decide)) (fun _ hk => hk.2) (.slice Ao25 t114.length co25)) (fun _ hk => hk.2) (.slice Ao28 t117.length co28)) (fun _ hk => hk.2) (.slice Ao29 t120.length co29)) (fun _ h_ => h_.1))) hb); have n1_ := Aside0.mk (Kd.R_below (by (with_reducible repeat (first | apply Kd.R_alloc | apply Kd.R_drewN | apply Kd.R_drew)); exact (Kd.R_mono (Kd.R_far (p := ⟨gb123, 2, none⟩) (Kd.R_far (p := ⟨gb123, 1, none⟩) (Kd.R_far (p := ⟨gb123, 0, none⟩) (Kd.R_types HO108.out BK123.out (by decide)) (fun _ hk => hk.2) (.slice Ao25 t114.length co25)) (fun _ hk => hk.2) (.slice Ao28 t117.length co28)) (fun _ hk => hk.2) (.slice Ao29 t120.length co29)) (fun _ h_ => h_.1))) hb); have n2_ := Aside0.mk (Kd.R_below (by (with_reducible repeat (first | apply Kd.R_alloc | apply Kd.R_drewN | apply Kd.R_drew)); exact (Kd.R_mono (Kd.R_far (p := ⟨gb123, 2, none⟩) (Kd.R_far (p := ⟨gb123, 1, none⟩) (Kd.R_far (p := ⟨gb123, 0, none⟩) (Kd.R_types HO111.out BK123.out (by decide)) (fun _ hk => hk.2) (.slice Ao25 t114.length co25)) (fun _ hk => hk.2) (.slice Ao28 t117.length co28)) (fun _ hk => hk.2) (.slice Ao29 t120.length co29)) (fun _ h_ => h_.1))) hb); have n3_ := Aside0.mk (Kd.S_below (by (with_reducible repeat (first | apply Kd.S_alloc | apply Kd.S_drewN | apply Kd.S_drew)); exact (Kd.S_mono (Kd.S_far (p := ⟨gb123, 2, none⟩) (Kd.S_far (p := ⟨gb123, 1, none⟩) (Kd.S_far (p := ⟨gb123, 0, none⟩) (Kd.S_types HO116.out BK123.out (by decide)) (fun _ hk => hk.2) (.slice Ao25 t114.length co25)) (fun _ hk => hk.2) (.slice Ao28 t117.length co28)) (fun _ hk => hk.2) (.slice Ao29 t120.length co29)) (fun _ h_ => h_.1))) hb); have n4_ := Aside0.mk (Kd.R_below (by (with_reducible repeat (first | apply Kd.R_alloc | apply Kd.R_drewN | apply Kd.R_drew)); exact (Kd.R_mono (Kd.R_far (p := ⟨gb123, 2, none⟩) (Kd.R_far (p := ⟨gb123, 1, none⟩) (Kd.R_far (p := ⟨gb123, 0, none⟩) (Kd.R_types HO119.out BK123.out (by decide)) (fun _ hk => hk.2) (.slice Ao25 t114.length co25)) (fun _ hk => hk.2) (.slice Ao28 t117.length co28)) (fun _ hk => hk.2) (.slice Ao29 t120.length co29)) (fun _ h_ => h_.1))) hb); have n5_ := Aside0.mk (Kd.R_below (by (with_reducible repeat (first | apply Kd.R_alloc | apply Kd.R_drewN | apply Kd.R_drew)); exact (Kd.R_mono (Kd.R_far (p := ⟨gb123, 2, none⟩) (Kd.R_far (p := ⟨gb123, 1, none⟩) (Kd.R_far (p := ⟨gb123, 0, none⟩) (Kd.R_types HO122.out BK123.out (by decide)) (fun _ hk => hk.2) (.slice Ao25 t114.length co25)) (fun _ hk => hk.2) (.slice Ao28 t117.length co28)) (fun _ hk => hk.2) (.slice Ao29 t120.length co29)) (fun _ h_ => h_.1))) hb); have n6_ := Aside0.mk (Zl (g := gb101) (o := .cells #[.slice A0_0 l0_0.length c0_0, .slice A0_1 l0_1.length c0_1, .slice A0_2 l0_2.length c0_2] 47 (0, 0)) (by (with_reducible repeat (first | refine Zg ?_ _ | refine Zi ?_ | refine Zh ?_ _)); refine Zq ?_ NB101_123.out _; (with_reducible repeat (first | refine Zg ?_ _ | refine Zi ?_ | refine Zh ?_ _)); refine Zq ?_ NB101_123.out _; (with_reducible repeat (first | refine Zg ?_ _ | refine Zi ?_ | refine Zh ?_ _)); refine Zq ?_ NB101_123.out _; (with_reducible repeat (first | refine Zg ?_ _ | refine Zi ?_ | refine Zh ?_ _)); exact BK101.out) hb); have n7_ := Aside0.mk (Zl (g := gb123) (o := .cells #[.slice Ao25 t114.length co25, .slice Ao28 t117.length co28, .slice Ao29 t120.length co29] 54 (0, 0)) (by (with_reducible repeat (first | refine Zg ?_ _ | refine Zi ?_ | refine Zh ?_ _)); refine Zv (cs := #[.slice Ao25 t114.length co25, .slice Ao28 t117.length co28, .slice none 0 0]) ?_ 2 _ rfl; (with_reducible repeat (first | refine Zg ?_ _ | refine Zi ?_ | refine Zh ?_ _)); refine Zv (cs := #[.slice Ao25 t114.length co25, .slice none 0 0, .slice none 0 0]) ?_ 1 _ rfl; (with_reducible repeat (first | refine Zg ?_ _ | refine Zi ?_ | refine Zh ?_ _)); refine Zv (cs := #[.slice none 0 0, .slice none 0 0, .slice none 0 0]) ?_ 0 _ rfl; (with_reducible repeat (first | refine Zg ?_ _ | refine Zi ?_ | refine Zh ?_ _)); exact BK123.out) hb); have n8_ := Aside0.mk (Zk (by repeat (first | (with_reducible first | exact HB.out | apply Ze | apply Za | apply Zd | refine Zf ?_ GE101.out | refine Zf ?_ GE123.out) | exact HB.out)) hb); clear HO105; clear HO108; clear HO111; clear HO116; clear HO119; clear HO122; clear BK101; clear BK123; clear HB; have HO105 := n0_; have HO108 := n1_; have HO111 := n2_; have HO116 := n3_; have HO119 := n4_; have HO122 := n5_; have BK101 := n6_; have BK123 := n7_; have HB := n8_; clear n0_ n1_ n2_ n3_ n4_ n5_ n6_ n7_ n8_; (try clear hb)))
  (try simp only [Act.put, List.setIfInBounds_toArray, List.set_cons_zero, List.set_cons_succ])
  go_cut [38] (fun v38 wc => ∃ (kq : Nat) (x38_11 : Bool), v38 = .bool x38_11 ∧ Aside0 (laws_FnExactMayLead.j0 kq x38_11 l0_0 l0_1 l0_2 t114 t117 t120 = some r) ∧ Aside0 (kq ≤ k) ∧ Aside0 (Kd.S k108 108 wc w.heap.size (fun _ => True) (.slice Ao25 t114.length co25) t114) ∧ Aside0 (Kd.R k111 111 wc w.heap.size (fun _ => True) (.slice Ao28 t117.length co28) t117) ∧ Aside0 (Kd.R k114 114 wc w.heap.size (fun _ => True) (.slice Ao29 t120.length co29) t120) ∧ Aside0 (wc.heap[gb101]? = some (.cells #[(.slice A0_0 l0_0.length c0_0), (.slice A0_1 l0_1.length c0_1), (.slice A0_2 l0_2.length c0_2)] 47 (0, 0))) ∧ Aside0 (wc.heap[gb123]? = some (.cells #[(.slice Ao25 t114.length co25), (.slice Ao28 t117.length co28), (.slice Ao29 t120.length co29)] 54 (0, 0))) ∧ Aside0 (Below w.heap.size w wc))
  case first =>
   have H := HC12.out
   clear HC12
   by_cases c31 : (t124 != t112) = true
   ·rw [if_pos c31] at H
    have c31b0 : (t124 != t112) = true := c31
    (try (have c31b1 : decide (t124 = t112) = false := by simpa using c31))
    (try (have c31b2 : (t124 == t112) = false := by simpa using c31))
    (try (have c31b3 : ¬ (t124 = t112) := by simpa using c31))
    clear c31
    (first | rw [c31b0] | (simp only [Zm, Zn]; rw [c31b0]) | skip)
    have H' := Aside0.mk H
    clear H
    go_wp2
    go_meet
    case rel => exact ⟨_, (true), (by first | rfl | (simp; done) | (simp [*]; done)), H', ⟨by first | omega | exact Nat.le_refl _⟩, ⟨by (with_reducible repeat (first | apply Kd.S_alloc | apply Kd.S_drewN | apply Kd.S_drew)); exact Kd.S_mono HO116.out (fun _ hk => trivial)⟩, ⟨by (with_reducible repeat (first | apply Kd.R_alloc | apply Kd.R_drewN | apply Kd.R_drew)); exact Kd.R_mono HO119.out (fun _ hk => trivial)⟩, ⟨by (with_reducible repeat (first | apply Kd.R_alloc | apply Kd.R_drewN | apply Kd.R_drew)); exact Kd.R_mono HO122.out (fun _ hk => trivial)⟩, ⟨by (with_reducible repeat (first | refine Zg ?_ _ | refine Zi ?_ | refine Zh ?_ _)); exact BK101.out⟩, ⟨by (with_reducible repeat (first | refine Zg ?_ _ | refine Zi ?_ | refine Zh ?_ _)); exact BK123.out⟩, ⟨by repeat (first | (with_reducible first | exact HB.out | apply Ze | apply Za | apply Zd | refine Zf ?_ GE101.out | refine Zf ?_ GE123.out) | exact HB.out)⟩⟩
   ·rw [if_neg c31] at H
    have c31b0 : (t124 != t112) = false := by simpa using c31
    (try (have c31b1 : decide (t124 = t112) = true := by simpa using c31))
    (try (have c31b2 : (t124 == t112) = true := by simpa using c31))
    clear c31
    (first | rw [c31b0] | (simp only [Zm, Zn]; rw [c31b0]) | skip)
    have H' := Aside0.mk H
    clear H
    go_wp2
    go_meet
    case rel => exact ⟨_, ((t125 != t113)), (by first | rfl | (simp; done) | (simp [*]; done)), H', ⟨by first | omega | exact Nat.le_refl _⟩, ⟨by (with_reducible repeat (first | apply Kd.S_alloc | apply Kd.S_drewN | apply Kd.S_drew)); exact Kd.S_mono HO116.out (fun _ hk => trivial)⟩, ⟨by (with_reducible repeat (first | apply Kd.R_alloc | apply Kd.R_drewN | apply Kd.R_drew)); exact Kd.R_mono HO119.out (fun _ hk => trivial)⟩, ⟨by (with_reducible repeat (first | apply Kd.R_alloc | apply Kd.R_drewN | apply Kd.R_drew)); exact Kd.R_mono HO122.out (fun _ hk => trivial)⟩, ⟨by (with_reducible repeat (first | refine Zg ?_ _ | refine Zi ?_ | refine Zh ?_ _)); exact BK101.out⟩, ⟨by (with_reducible repeat (first | refine Zg ?_ _ | refine Zi ?_ | refine Zh ?_ _)); exact BK123.out⟩, ⟨by repeat (first | (with_reducible first | exact HB.out | apply Ze | apply Za | apply Zd | refine Zf ?_ GE101.out | refine Zf ?_ GE123.out) | exact HB.out)⟩⟩
  case rest =>
   clear HC12
   try clear c4
   try clear c4b0
   try clear hcz14_0
   try clear hcz14_1
   try clear hcz14_2
   try clear hcz16_0
   try clear hcz16_1
   try clear hcz16_2
   try clear hcz22_0
   try clear hcz22_1
   try clear hcz22_2
   try clear hcz27_0
   try clear hcz27_1
   try clear hcz27_2
   try clear hfz14_0
   try clear hfz14_1
   try clear hfz14_2
   try clear hfz16_0
   try clear hfz16_1
   try clear hfz16_2
   try clear hfz22_0
   try clear hfz22_1
   try clear hfz22_2
   try clear hfz27_0
   try clear hfz27_1
   try clear hfz27_2
   obtain ⟨kq, x38_11, rfl, HA, HJ11, HO_124000, HO_124001, HO_124002, BK101, BK123, HB⟩ := hcut
   cases kq with
   | zero => exact absurd HA.out (by simp [laws_FnExactMayLead.j0])
   | succ kj11 =>
    have H := HA.out
    clear HA
    simp only [laws_FnExactMayLead.j0] at H
    by_cases c32 : x38_11 = true
    ·subst c32
     rw [if_pos rfl] at H
     obtain rfl := Option.some.inj H
     go_wp2
     go_ret
     exact ⟨by first | rfl | (simp [errW_none, errW_some] <;> rfl) | (simp [*, errW_none, errW_some] <;> rfl), by repeat (first | (with_reducible first | exact HB.out | apply Ze | apply Za | apply Zd | refine Zf ?_ GE101.out | refine Zf ?_ GE123.out) | exact HB.out)⟩
    ·replace c32 := Bool.eq_false_iff.mpr c32
     subst c32
     rw [if_neg (show ¬ (false = true) by decide)] at H
     replace H := Option.bind_eq_some_iff.mp H
     obtain ⟨⟨t126, t129, t132⟩, A330, H⟩ := H
     replace H : ((laws_eqElection.f kj11 t114 t117 t120 t126 t129 t132).bind fun t135 => (if t135 = true then (some true) else (some false))) = some r := H
     have A33 := Aside0.mk A330
     clear A330
     replace H := Option.bind_eq_some_iff.mp H
     obtain ⟨t135, A340, H⟩ := H
     have A34 := Aside0.mk A340
     clear A340
     by_cases c35 : t135 = true
     ·subst c35
      rw [if_pos rfl] at H
      obtain rfl := Option.some.inj H
      try go_wp2
      have n0_ := Aside0.mk (Kd.S_drew HO_124000.out)
      have n1_ := Aside0.mk (Kd.R_drew HO_124001.out)
      have n2_ := Aside0.mk (Kd.R_drew HO_124002.out)
      have n3_ := Aside0.mk (Zi BK101.out)
      have n4_ := Aside0.mk (Zi BK123.out)
      have n5_ := Aside0.mk (Zd HB.out)
      clear HO_124000
      clear HO_124001
      clear HO_124002
      clear BK101
      clear BK123
      clear HB
      have HO_124000 := n0_
      have HO_124001 := n1_
      have HO_124002 := n2_
      have BK101 := n3_
      have BK123 := n4_
      have HB := n5_
      clear n0_ n1_ n2_ n3_ n4_ n5_
      refine start_ (n := 5) (S := fun w' => w'.cell? ⟨gb123, 0, none⟩ = some (.slice Ao25 t114.length co25) ∧ w'.cell? ⟨gb123, 1, none⟩ = some (.slice Ao28 t117.length co28) ∧ w'.cell? ⟨gb123, 2, none⟩ = some (.slice Ao29 t120.length co29) ∧ w'.cell? ⟨gb101, 0, none⟩ = some (.slice A0_0 l0_0.length c0_0) ∧ w'.cell? ⟨gb101, 1, none⟩ = some (.slice A0_1 l0_1.length c0_1) ∧ w'.cell? ⟨gb101, 2, none⟩ = some (.slice A0_2 l0_2.length c0_2)) (ds := []) #[false, false, false, false, false] (by kernel_rfl) rfl rfl ⟨(Zb BK123.out 0).trans rfl, (Zb BK123.out 1).trans rfl, (Zb BK123.out 2).trans rfl, (Zb BK101.out 0).trans rfl, (Zb BK101.out 1).trans rfl, (Zb BK101.out 2).trans rfl⟩ (fun hHeld => ?_)
      generalize wc.drew = w36 at HO_124000 HO_124001 HO_124002 BK101 BK123 HB hHeld ⊢
      refine take_ (i := 0) (N := some 39) (v := ?_) (a' := ?_) #[true, false, false, false, false] rfl rfl (by kernel_rfl) (fun _ _ _ h => h) (Or.inl ⟨by rfl, ?_⟩) hHeld ?_ ?_
      rotate_left
      ·rintro w' ⟨s0, s1, s2, s3, s4, s5⟩
       go_simp
       with_reducible rfl
      rotate_left
      ·simp only [Act.put, List.setIfInBounds_toArray, List.set_cons_zero, List.set_cons_succ, Zm, Zn]
       rfl
      refine take_ (i := 1) (N := some 40) (v := ?_) (a' := ?_) #[true, true, false, false, false] rfl rfl (by kernel_rfl) (fun _ _ _ h => h) (Or.inl ⟨by rfl, ?_⟩) hHeld ?_ ?_
      rotate_left
      ·rintro w' ⟨s0, s1, s2, s3, s4, s5⟩
       go_simp
       with_reducible rfl
      rotate_left
      ·simp only [Act.put, List.setIfInBounds_toArray, List.set_cons_zero, List.set_cons_succ, Zm, Zn]
       rfl
      refine one_ (i := 2) (N := some 41) #[true, true, true, false, false] rfl rfl (by kernel_rfl) (by decide) (fun K hK => ?_)
      refine goes_ Try.func30 (by kernel_rfl) rfl #[.agg #[.slice A0_0 l0_0.length c0_0, .slice A0_1 l0_1.length c0_1, .slice A0_2 l0_2.length c0_2]] (by rfl) rfl rfl (by (try simp only [List.map_toArray, List.map_cons, List.map_nil]); first | done | rfl | (simp only [List.length_drop, List.length_take]; rfl)) ?_
      with_reducible refine (laws_toElection.calls kj11 _ _ l0_0 _ _ l0_1 _ _ l0_2 t126 t129 t132 _ ?side1 ?side2 ?side3 ?side4 ?side5 ?side6 A33.out).mono ?_
      (case side1 => repeat (first | exact (Kd.C_below HR0_0.out HB.out) | (with_reducible refine Kd.C_alloc ?_ _) | (with_reducible refine Kd.C_drewN ?_ _) | (with_reducible refine Kd.C_drew ?_)))
      (case side2 => exact HC0_0.out)
      (case side3 => repeat (first | exact (Kd.C_below HR0_1.out HB.out) | (with_reducible refine Kd.C_alloc ?_ _) | (with_reducible refine Kd.C_drewN ?_ _) | (with_reducible refine Kd.C_drew ?_)))
      (case side4 => exact HC0_1.out)
      (case side5 => repeat (first | exact (Kd.C_below HR0_2.out HB.out) | (with_reducible refine Kd.C_alloc ?_ _) | (with_reducible refine Kd.C_drewN ?_ _) | (with_reducible refine Kd.C_drew ?_)))
      (case side6 => exact HC0_2.out)
      rintro e w37 ⟨v127, v130, v133, rfl, ho0, ho1, ho2, hb⟩
      refine ⟨_, rfl, ?_⟩
      have n0_ := Aside0.mk (Kd.S_elder' (by (with_reducible repeat (first | apply Kd.S_alloc | apply Kd.S_drewN | apply Kd.S_drew)); exact HO_124000.out) (Kd.S_base ho0) hb)
      have n1_ := Aside0.mk (Kd.R_elder' (by (with_reducible repeat (first | apply Kd.R_alloc | apply Kd.R_drewN | apply Kd.R_drew)); exact HO_124001.out) (Kd.R_base ho1) hb)
      have n2_ := Aside0.mk (Kd.R_elder' (by (with_reducible repeat (first | apply Kd.R_alloc | apply Kd.R_drewN | apply Kd.R_drew)); exact HO_124002.out) (Kd.R_base ho2) hb)
      have n3_ := Aside0.mk (Kd.S_lower (Kd.S_new' ho0 (Kd.S_lt (by (with_reducible repeat (first | apply Kd.S_alloc | apply Kd.S_drewN | apply Kd.S_drew)); exact HO_124000.out))) (Zj (by repeat (first | (with_reducible first | exact HB.out | apply Ze | apply Za | apply Zd | refine Zf ?_ GE101.out | refine Zf ?_ GE123.out) | exact HB.out))))
      have n4_ := Aside0.mk (Kd.R_lower (Kd.R_new' ho1 (Kd.R_lt (by (with_reducible repeat (first | apply Kd.R_alloc | apply Kd.R_drewN | apply Kd.R_drew)); exact HO_124001.out))) (Zj (by repeat (first | (with_reducible first | exact HB.out | apply Ze | apply Za | apply Zd | refine Zf ?_ GE101.out | refine Zf ?_ GE123.out) | exact HB.out))))
      have n5_ := Aside0.mk (Kd.R_lower (Kd.R_new' ho2 (Kd.R_lt (by (with_reducible repeat (first | apply Kd.R_alloc | apply Kd.R_drewN | apply Kd.R_drew)); exact HO_124002.out))) (Zj (by repeat (first | (with_reducible first | exact HB.out | apply Ze | apply Za | apply Zd | refine Zf ?_ GE101.out | refine Zf ?_ GE123.out) | exact HB.out))))
      have n6_ := Aside0.mk (Zl (g := gb101) (o := .cells #[.slice A0_0 l0_0.length c0_0, .slice A0_1 l0_1.length c0_1, .slice A0_2 l0_2.length c0_2] 47 (0, 0)) (by (with_reducible repeat (first | refine Zg ?_ _ | refine Zi ?_ | refine Zh ?_ _)); exact BK101.out) hb)
      have n7_ := Aside0.mk (Zl (g := gb123) (o := .cells #[.slice Ao25 t114.length co25, .slice Ao28 t117.length co28, .slice Ao29 t120.length co29] 54 (0, 0)) (by (with_reducible repeat (first | refine Zg ?_ _ | refine Zi ?_ | refine Zh ?_ _)); exact BK123.out) hb)
      have n8_ := Aside0.mk (Zk (by repeat (first | (with_reducible first | exact HB.out | apply Ze | apply Za | apply Zd | refine Zf ?_ GE101.out | refine Zf ?_ GE123.out) | exact HB.out)) hb)
      clear HO_124000
      clear HO_124001
      clear HO_124002
      clear BK101
      clear BK123
      clear HB
      have HO_124000 := n0_
      have HO_124001 := n1_
      have HO_124002 := n2_
      have HO128 := n3_
      have HO131 := n4_
      have HO134 := n5_
      have BK101 := n6_
      have BK123 := n7_
      have HB := n8_
      clear n0_ n1_ n2_ n3_ n4_ n5_ n6_ n7_ n8_
      (try clear hb)
      (try clear hb2)
      (try clear hk)
      (try clear hi)
      (try clear ho0)
      (try clear ho1)
      (try clear ho2)
      obtain ⟨Ao38, co38, eo38⟩ := Kd.S_slice HO128.out
      (first | subst eo38 | (injection eo38 with f1_ f2_ f3_; have f4_ := f1_.symm; have f5_ := f3_.symm; clear f1_ f2_ f3_; subst f4_; subst f5_))
      obtain ⟨Ao39, co39, eo39⟩ := Kd.R_slice HO131.out
      (first | subst eo39 | (injection eo39 with f1_ f2_ f3_; have f4_ := f1_.symm; have f5_ := f3_.symm; clear f1_ f2_ f3_; subst f4_; subst f5_))
      obtain ⟨Ao40, co40, eo40⟩ := Kd.R_slice HO134.out
      (first | subst eo40 | (injection eo40 with f1_ f2_ f3_; have f4_ := f1_.symm; have f5_ := f3_.symm; clear f1_ f2_ f3_; subst f4_; subst f5_))
      refine hK.out _ _ ⟨(Zb BK123.out 0).trans rfl, (Zb BK123.out 1).trans rfl, (Zb BK123.out 2).trans rfl, (Zb BK101.out 0).trans rfl, (Zb BK101.out 1).trans rfl, (Zb BK101.out 2).trans rfl⟩ (fun hHeld => ?_)
      clear hK K
      refine norm_ (a' := ?_) ?_ ?_
      rotate_left
      ·show Act.put _ (some 41) _ = _
       simp only [Act.put, List.setIfInBounds_toArray, List.set_cons_zero, List.set_cons_succ, Zm, Zn]
       rfl
      refine one_ (i := 3) (N := some 42) #[true, true, true, true, false] rfl rfl (by kernel_rfl) (by decide) (fun K hK => ?_)
      refine goes_ Try.func32 (by kernel_rfl) rfl #[.agg #[.slice Ao25 t114.length co25, .slice Ao28 t117.length co28, .slice Ao29 t120.length co29], .agg #[.slice Ao38 t126.length co38, .slice Ao39 t129.length co39, .slice Ao40 t132.length co40]] (by rfl) rfl rfl (by (try simp only [List.map_toArray, List.map_cons, List.map_nil]); first | done | rfl | (simp only [List.length_drop, List.length_take]; rfl)) ?_
      with_reducible refine (laws_eqElection.calls kj11 _ _ t114 _ _ t117 _ _ t120 _ _ t126 _ _ t129 _ _ t132 true _ ?side1 ?side2 ?side3 ?side4 ?side5 ?side6 ?side7 ?side8 ?side9 ?side10 ?side11 ?side12 A34.out).mono ?_
      (case side1 => repeat (first | exact (Kd.S_reads' HO_124000.out).2.2 | (with_reducible refine Kd.C_alloc ?_ _) | (with_reducible refine Kd.C_drewN ?_ _) | (with_reducible refine Kd.C_drew ?_)))
      (case side2 => exact (Kd.S_reads' HO_124000.out).2.1)
      (case side3 => repeat (first | exact (Kd.R_reads' HO_124001.out).2.2 | (with_reducible refine Kd.C_alloc ?_ _) | (with_reducible refine Kd.C_drewN ?_ _) | (with_reducible refine Kd.C_drew ?_)))
      (case side4 => exact (Kd.R_reads' HO_124001.out).2.1)
      (case side5 => repeat (first | exact (Kd.R_reads' HO_124002.out).2.2 | (with_reducible refine Kd.C_alloc ?_ _) | (with_reducible refine Kd.C_drewN ?_ _) | (with_reducible refine Kd.C_drew ?_)))
      (case side6 => exact (Kd.R_reads' HO_124002.out).2.1)
      (case side7 => repeat (first | exact (Kd.S_reads' HO128.out).2.2 | (with_reducible refine Kd.C_alloc ?_ _) | (with_reducible refine Kd.C_drewN ?_ _) | (with_reducible refine Kd.C_drew ?_)))
      (case side8 => exact (Kd.S_reads' HO128.out).2.1)
      (case side9 => repeat (first | exact (Kd.R_reads' HO131.out).2.2 | (with_reducible refine Kd.C_alloc ?_ _) | (with_reducible refine Kd.C_drewN ?_ _) | (with_reducible refine Kd.C_drew ?_)))
      (case side10 => exact (Kd.R_reads' HO131.out).2.1)
      (case side11 => repeat (first | exact (Kd.R_reads' HO134.out).2.2 | (with_reducible refine Kd.C_alloc ?_ _) | (with_reducible refine Kd.C_drewN ?_ _) | (with_reducible refine Kd.C_drew ?_)))
      (case side12 => exact (Kd.R_reads' HO134.out).2.1)
      rintro e w41 ⟨rfl, hb⟩
      refine ⟨_, rfl, ?_⟩
      have n0_ := Aside0.mk (Kd.S_below (by (with_reducible repeat (first | apply Kd.S_alloc | apply Kd.S_drewN | apply Kd.S_drew)); exact HO_124000.out) hb)
      have n1_ := Aside0.mk (Kd.R_below (by (with_reducible repeat (first | apply Kd.R_alloc | apply Kd.R_drewN | apply Kd.R_drew)); exact HO_124001.out) hb)
      have n2_ := Aside0.mk (Kd.R_below (by (with_reducible repeat (first | apply Kd.R_alloc | apply Kd.R_drewN | apply Kd.R_drew)); exact HO_124002.out) hb)
      have n3_ := Aside0.mk (Kd.S_below (by (with_reducible repeat (first | apply Kd.S_alloc | apply Kd.S_drewN | apply Kd.S_drew)); exact HO128.out) hb)
      have n4_ := Aside0.mk (Kd.R_below (by (with_reducible repeat (first | apply Kd.R_alloc | apply Kd.R_drewN | apply Kd.R_drew)); exact HO131.out) hb)
      have n5_ := Aside0.mk (Kd.R_below (by (with_reducible repeat (first | apply Kd.R_alloc | apply Kd.R_drewN | apply Kd.R_drew)); exact HO134.out) hb)
      have n6_ := Aside0.mk (Zl (g := gb101) (o := .cells #[.slice A0_0 l0_0.length c0_0, .slice A0_1 l0_1.length c0_1, .slice A0_2 l0_2.length c0_2] 47 (0, 0)) (by (with_reducible repeat (first | refine Zg ?_ _ | refine Zi ?_ | refine Zh ?_ _)); exact BK101.out) hb)
      have n7_ := Aside0.mk (Zl (g := gb123) (o := .cells #[.slice Ao25 t114.length co25, .slice Ao28 t117.length co28, .slice Ao29 t120.length co29] 54 (0, 0)) (by (with_reducible repeat (first | refine Zg ?_ _ | refine Zi ?_ | refine Zh ?_ _)); exact BK123.out) hb)
      have n8_ := Aside0.mk (Zk (by repeat (first | (with_reducible first | exact HB.out | apply Ze | apply Za | apply Zd | refine Zf ?_ GE101.out | refine Zf ?_ GE123.out) | exact HB.out)) hb)
      clear HO_124000
      clear HO_124001
      clear HO_124002
      clear HO128
      clear HO131
      clear HO134
      clear BK101
      clear BK123
      clear HB
      have HO_124000 := n0_
      have HO_124001 := n1_
      have HO_124002 := n2_
      have HO128 := n3_
      have HO131 := n4_
      have HO134 := n5_
      have BK101 := n6_
      have BK123 := n7_
      have HB := n8_
      clear n0_ n1_ n2_ n3_ n4_ n5_ n6_ n7_ n8_
      (try clear hb)
      (try clear hb2)
      (try clear hk)
      (try clear hi)
      refine hK.out _ _ ⟨(Zb BK123.out 0).trans rfl, (Zb BK123.out 1).trans rfl, (Zb BK123.out 2).trans rfl, (Zb BK101.out 0).trans rfl, (Zb BK101.out 1).trans rfl, (Zb BK101.out 2).trans rfl⟩ (fun hHeld => ?_)
      clear hK K
      refine norm_ (a' := ?_) ?_ ?_
      rotate_left
      ·show Act.put _ (some 42) _ = _
       simp only [Act.put, List.setIfInBounds_toArray, List.set_cons_zero, List.set_cons_succ, Zm, Zn]
       rfl
      refine Zr (i := 4) (N := some 43) (v := ?_) (a' := ?_) #[true, true, true, true, true] rfl rfl (by kernel_rfl) (fun _ _ _ h => h) (Or.inl ⟨by rfl, ?_⟩) ?_ ?_
      rotate_left
      ·intro w'
       go_simp
       with_reducible rfl
      rotate_left
      ·simp only [Act.put, List.setIfInBounds_toArray, List.set_cons_zero, List.set_cons_succ, Zm, Zn]
       rfl
      refine done_ (by kernel_rfl) ?_
      try go_wp2
      go_ret
      exact ⟨by first | rfl | (simp [errW_none, errW_some] <;> rfl) | (simp [*, errW_none, errW_some] <;> rfl), by repeat (first | (with_reducible first | exact HB.out | apply Ze | apply Za | apply Zd | refine Zf ?_ GE101.out | refine Zf ?_ GE123.out) | exact HB.out)⟩
     ·replace c35 := Bool.eq_false_iff.mpr c35
      subst c35
      rw [if_neg (show ¬ (false = true) by decide)] at H
      obtain rfl := Option.some.inj H
      try go_wp2
      have n0_ := Aside0.mk (Kd.S_drew HO_124000.out)
      have n1_ := Aside0.mk (Kd.R_drew HO_124001.out)
      have n2_ := Aside0.mk (Kd.R_drew HO_124002.out)
      have n3_ := Aside0.mk (Zi BK101.out)
      have n4_ := Aside0.mk (Zi BK123.out)
      have n5_ := Aside0.mk (Zd HB.out)
      clear HO_124000
      clear HO_124001
      clear HO_124002
      clear BK101
      clear BK123
      clear HB
      have HO_124000 := n0_
      have HO_124001 := n1_
      have HO_124002 := n2_
      have BK101 := n3_
      have BK123 := n4_
      have HB := n5_
      clear n0_ n1_ n2_ n3_ n4_ n5_
      refine start_ (n := 5) (S := fun w' => w'.cell? ⟨gb123, 0, none⟩ = some (.slice Ao25 t114.length co25) ∧ w'.cell? ⟨gb123, 1, none⟩ = some (.slice Ao28 t117.length co28) ∧ w'.cell? ⟨gb123, 2, none⟩ = some (.slice Ao29 t120.length co29) ∧ w'.cell? ⟨gb101, 0, none⟩ = some (.slice A0_0 l0_0.length c0_0) ∧ w'.cell? ⟨gb101, 1, none⟩ = some (.slice A0_1 l0_1.length c0_1) ∧ w'.cell? ⟨gb101, 2, none⟩ = some (.slice A0_2 l0_2.length c0_2)) (ds := []) #[false, false, false, false, false] (by kernel_rfl) rfl rfl ⟨(Zb BK123.out 0).trans rfl, (Zb BK123.out 1).trans rfl, (Zb BK123.out 2).trans rfl, (Zb BK101.out 0).trans rfl, (Zb BK101.out 1).trans rfl, (Zb BK101.out 2).trans rfl⟩ (fun hHeld => ?_)
      generalize wc.drew = w42 at HO_124000 HO_124001 HO_124002 BK101 BK123 HB hHeld ⊢
      refine take_ (i := 0) (N := some 39) (v := ?_) (a' := ?_) #[true, false, false, false, false] rfl rfl (by kernel_rfl) (fun _ _ _ h => h) (Or.inl ⟨by rfl, ?_⟩) hHeld ?_ ?_
      rotate_left
      ·rintro w' ⟨s0, s1, s2, s3, s4, s5⟩
       go_simp
       with_reducible rfl
      rotate_left
      ·simp only [Act.put, List.setIfInBounds_toArray, List.set_cons_zero, List.set_cons_succ, Zm, Zn]
       rfl
      refine take_ (i := 1) (N := some 40) (v := ?_) (a' := ?_) #[true, true, false, false, false] rfl rfl (by kernel_rfl) (fun _ _ _ h => h) (Or.inl ⟨by rfl, ?_⟩) hHeld ?_ ?_
      rotate_left
      ·rintro w' ⟨s0, s1, s2, s3, s4, s5⟩
       go_simp
       with_reducible rfl
      rotate_left
      ·simp only [Act.put, List.setIfInBounds_toArray, List.set_cons_zero, List.set_cons_succ, Zm, Zn]
       rfl
      refine one_ (i := 2) (N := some 41) #[true, true, true, false, false] rfl rfl (by kernel_rfl) (by decide) (fun K hK => ?_)
      refine goes_ Try.func30 (by kernel_rfl) rfl #[.agg #[.slice A0_0 l0_0.length c0_0, .slice A0_1 l0_1.length c0_1, .slice A0_2 l0_2.length c0_2]] (by rfl) rfl rfl (by (try simp only [List.map_toArray, List.map_cons, List.map_nil]); first | done | rfl | (simp only [List.length_drop, List.length_take]; rfl)) ?_
      with_reducible refine (laws_toElection.calls kj11 _ _ l0_0 _ _ l0_1 _ _ l0_2 t126 t129 t132 _ ?side1 ?side2 ?side3 ?side4 ?side5 ?side6 A33.out).mono ?_
      (case side1 => repeat (first | exact (Kd.C_below HR0_0.out HB.out) | (with_reducible refine Kd.C_alloc ?_ _) | (with_reducible refine Kd.C_drewN ?_ _) | (with_reducible refine Kd.C_drew ?_)))
      (case side2 => exact HC0_0.out)
      (case side3 => repeat (first | exact (Kd.C_below HR0_1.out HB.out) | (with_reducible refine Kd.C_alloc ?_ _) | (with_reducible refine Kd.C_drewN ?_ _) | (with_reducible refine Kd.C_drew ?_)))
      (case side4 => exact HC0_1.out)
      (case side5 => repeat (first | exact (Kd.C_below HR0_2.out HB.out) | (with_reducible refine Kd.C_alloc ?_ _) | (with_reducible refine Kd.C_drewN ?_ _) | (with_reducible refine Kd.C_drew ?_)))
      (case side6 => exact HC0_2.out)
      rintro e w43 ⟨v127, v130, v133, rfl, ho0, ho1, ho2, hb⟩
      refine ⟨_, rfl, ?_⟩
      have n0_ := Aside0.mk (Kd.S_elder' (by (with_reducible repeat (first | apply Kd.S_alloc | apply Kd.S_drewN | apply Kd.S_drew)); exact HO_124000.out) (Kd.S_base ho0) hb)
      have n1_ := Aside0.mk (Kd.R_elder' (by (with_reducible repeat (first | apply Kd.R_alloc | apply Kd.R_drewN | apply Kd.R_drew)); exact HO_124001.out) (Kd.R_base ho1) hb)
      have n2_ := Aside0.mk (Kd.R_elder' (by (with_reducible repeat (first | apply Kd.R_alloc | apply Kd.R_drewN | apply Kd.R_drew)); exact HO_124002.out) (Kd.R_base ho2) hb)
      have n3_ := Aside0.mk (Kd.S_lower (Kd.S_new' ho0 (Kd.S_lt (by (with_reducible repeat (first | apply Kd.S_alloc | apply Kd.S_drewN | apply Kd.S_drew)); exact HO_124000.out))) (Zj (by repeat (first | (with_reducible first | exact HB.out | apply Ze | apply Za | apply Zd | refine Zf ?_ GE101.out | refine Zf ?_ GE123.out) | exact HB.out))))
      have n4_ := Aside0.mk (Kd.R_lower (Kd.R_new' ho1 (Kd.R_lt (by (with_reducible repeat (first | apply Kd.R_alloc | apply Kd.R_drewN | apply Kd.R_drew)); exact HO_124001.out))) (Zj (by repeat (first | (with_reducible first | exact HB.out | apply Ze | apply Za | apply Zd | refine Zf ?_ GE101.out | refine Zf ?_ GE123.out) | exact HB.out))))
      have n5_ := Aside0.mk (Kd.R_lower (Kd.R_new' ho2 (Kd.R_lt (by (with_reducible repeat (first | apply Kd.R_alloc | apply Kd.R_drewN | apply Kd.R_drew)); exact HO_124002.out))) (Zj (by repeat (first | (with_reducible first | exact HB.out | apply Ze | apply Za | apply Zd | refine Zf ?_ GE101.out | refine Zf ?_ GE123.out) | exact HB.out))))
      have n6_ := Aside0.mk (Zl (g := gb101) (o := .cells #[.slice A0_0 l0_0.length c0_0, .slice A0_1 l0_1.length c0_1, .slice A0_2 l0_2.length c0_2] 47 (0, 0)) (by (with_reducible repeat (first | refine Zg ?_ _ | refine Zi ?_ | refine Zh ?_ _)); exact BK101.out) hb)
      have n7_ := Aside0.mk (Zl (g := gb123) (o := .cells #[.slice Ao25 t114.length co25, .slice Ao28 t117.length co28, .slice Ao29 t120.length co29] 54 (0, 0)) (by (with_reducible repeat (first | refine Zg ?_ _ | refine Zi ?_ | refine Zh ?_ _)); exact BK123.out) hb)
      have n8_ := Aside0.mk (Zk (by repeat (first | (with_reducible first | exact HB.out | apply Ze | apply Za | apply Zd | refine Zf ?_ GE101.out | refine Zf ?_ GE123.out) | exact HB.out)) hb)
      clear HO_124000
      clear HO_124001
      clear HO_124002
      clear BK101
      clear BK123
      clear HB
      have HO_124000 := n0_
      have HO_124001 := n1_
      have HO_124002 := n2_
      have HO128 := n3_
      have HO131 := n4_
      have HO134 := n5_
      have BK101 := n6_
      have BK123 := n7_
      have HB := n8_
      clear n0_ n1_ n2_ n3_ n4_ n5_ n6_ n7_ n8_
      (try clear hb)
      (try clear hb2)
      (try clear hk)
      (try clear hi)
      (try clear ho0)
      (try clear ho1)
      (try clear ho2)
      obtain ⟨Ao44, co44, eo44⟩ := Kd.S_slice HO128.out
      (first | subst eo44 | (injection eo44 with f1_ f2_ f3_; have f4_ := f1_.symm; have f5_ := f3_.symm; clear f1_ f2_ f3_; subst f4_; subst f5_))
      obtain ⟨Ao45, co45, eo45⟩ := Kd.R_slice HO131.out
      (first | subst eo45 | (injection eo45 with f1_ f2_ f3_; have f4_ := f1_.symm; have f5_ := f3_.symm; clear f1_ f2_ f3_; subst f4_; subst f5_))
      obtain ⟨Ao46, co46, eo46⟩ := Kd.R_slice HO134.out
      (first | subst eo46 | (injection eo46 with f1_ f2_ f3_; have f4_ := f1_.symm; have f5_ := f3_.symm; clear f1_ f2_ f3_; subst f4_; subst f5_))
      refine hK.out _ _ ⟨(Zb BK123.out 0).trans rfl, (Zb BK123.out 1).trans rfl, (Zb BK123.out 2).trans rfl, (Zb BK101.out 0).trans rfl, (Zb BK101.out 1).trans rfl, (Zb BK101.out 2).trans rfl⟩ (fun hHeld => ?_)
      clear hK K
      refine norm_ (a' := ?_) ?_ ?_
      rotate_left
      ·show Act.put _ (some 41) _ = _
       simp only [Act.put, List.setIfInBounds_toArray, List.set_cons_zero, List.set_cons_succ, Zm, Zn]
       rfl
      refine one_ (i := 3) (N := some 42) #[true, true, true, true, false] rfl rfl (by kernel_rfl) (by decide) (fun K hK => ?_)
      refine goes_ Try.func32 (by kernel_rfl) rfl #[.agg #[.slice Ao25 t114.length co25, .slice Ao28 t117.length co28, .slice Ao29 t120.length co29], .agg #[.slice Ao44 t126.length co44, .slice Ao45 t129.length co45, .slice Ao46 t132.length co46]] (by rfl) rfl rfl (by (try simp only [List.map_toArray, List.map_cons, List.map_nil]); first | done | rfl | (simp only [List.length_drop, List.length_take]; rfl)) ?_
      with_reducible refine (laws_eqElection.calls kj11 _ _ t114 _ _ t117 _ _ t120 _ _ t126 _ _ t129 _ _ t132 false _ ?side1 ?side2 ?side3 ?side4 ?side5 ?side6 ?side7 ?side8 ?side9 ?side10 ?side11 ?side12 A34.out).mono ?_
      (case side1 => repeat (first | exact (Kd.S_reads' HO_124000.out).2.2 | (with_reducible refine Kd.C_alloc ?_ _) | (with_reducible refine Kd.C_drewN ?_ _) | (with_reducible refine Kd.C_drew ?_)))
      (case side2 => exact (Kd.S_reads' HO_124000.out).2.1)
      (case side3 => repeat (first | exact (Kd.R_reads' HO_124001.out).2.2 | (with_reducible refine Kd.C_alloc ?_ _) | (with_reducible refine Kd.C_drewN ?_ _) | (with_reducible refine Kd.C_drew ?_)))
      (case side4 => exact (Kd.R_reads' HO_124001.out).2.1)
      (case side5 => repeat (first | exact (Kd.R_reads' HO_124002.out).2.2 | (with_reducible refine Kd.C_alloc ?_ _) | (with_reducible refine Kd.C_drewN ?_ _) | (with_reducible refine Kd.C_drew ?_)))
      (case side6 => exact (Kd.R_reads' HO_124002.out).2.1)
      (case side7 => repeat (first | exact (Kd.S_reads' HO128.out).2.2 | (with_reducible refine Kd.C_alloc ?_ _) | (with_reducible refine Kd.C_drewN ?_ _) | (with_reducible refine Kd.C_drew ?_)))
      (case side8 => exact (Kd.S_reads' HO128.out).2.1)
      (case side9 => repeat (first | exact (Kd.R_reads' HO131.out).2.2 | (with_reducible refine Kd.C_alloc ?_ _) | (with_reducible refine Kd.C_drewN ?_ _) | (with_reducible refine Kd.C_drew ?_)))
      (case side10 => exact (Kd.R_reads' HO131.out).2.1)
      (case side11 => repeat (first | exact (Kd.R_reads' HO134.out).2.2 | (with_reducible refine Kd.C_alloc ?_ _) | (with_reducible refine Kd.C_drewN ?_ _) | (with_reducible refine Kd.C_drew ?_)))
      (case side12 => exact (Kd.R_reads' HO134.out).2.1)
      rintro e w47 ⟨rfl, hb⟩
      refine ⟨_, rfl, ?_⟩
      have n0_ := Aside0.mk (Kd.S_below (by (with_reducible repeat (first | apply Kd.S_alloc | apply Kd.S_drewN | apply Kd.S_drew)); exact HO_124000.out) hb)
      have n1_ := Aside0.mk (Kd.R_below (by (with_reducible repeat (first | apply Kd.R_alloc | apply Kd.R_drewN | apply Kd.R_drew)); exact HO_124001.out) hb)
      have n2_ := Aside0.mk (Kd.R_below (by (with_reducible repeat (first | apply Kd.R_alloc | apply Kd.R_drewN | apply Kd.R_drew)); exact HO_124002.out) hb)
      have n3_ := Aside0.mk (Kd.S_below (by (with_reducible repeat (first | apply Kd.S_alloc | apply Kd.S_drewN | apply Kd.S_drew)); exact HO128.out) hb)
      have n4_ := Aside0.mk (Kd.R_below (by (with_reducible repeat (first | apply Kd.R_alloc | apply Kd.R_drewN | apply Kd.R_drew)); exact HO131.out) hb)
      have n5_ := Aside0.mk (Kd.R_below (by (with_reducible repeat (first | apply Kd.R_alloc | apply Kd.R_drewN | apply Kd.R_drew)); exact HO134.out) hb)
      have n6_ := Aside0.mk (Zl (g := gb101) (o := .cells #[.slice A0_0 l0_0.length c0_0, .slice A0_1 l0_1.length c0_1, .slice A0_2 l0_2.length c0_2] 47 (0, 0)) (by (with_reducible repeat (first | refine Zg ?_ _ | refine Zi ?_ | refine Zh ?_ _)); exact BK101.out) hb)
      have n7_ := Aside0.mk (Zl (g := gb123) (o := .cells #[.slice Ao25 t114.length co25, .slice Ao28 t117.length co28, .slice Ao29 t120.length co29] 54 (0, 0)) (by (with_reducible repeat (first | refine Zg ?_ _ | refine Zi ?_ | refine Zh ?_ _)); exact BK123.out) hb)
      have n8_ := Aside0.mk (Zk (by repeat (first | (with_reducible first | exact HB.out | apply Ze | apply Za | apply Zd | refine Zf ?_ GE101.out | refine Zf ?_ GE123.out) | exact HB.out)) hb)
      clear HO_124000
      clear HO_124001
      clear HO_124002
      clear HO128
      clear HO131
      clear HO134
      clear BK101
      clear BK123
      clear HB
      have HO_124000 := n0_
      have HO_124001 := n1_
      have HO_124002 := n2_
      have HO128 := n3_
      have HO131 := n4_
      have HO134 := n5_
      have BK101 := n6_
      have BK123 := n7_
      have HB := n8_
      clear n0_ n1_ n2_ n3_ n4_ n5_ n6_ n7_ n8_
      (try clear hb)
      (try clear hb2)
      (try clear hk)
      (try clear hi)
      refine hK.out _ _ ⟨(Zb BK123.out 0).trans rfl, (Zb BK123.out 1).trans rfl, (Zb BK123.out 2).trans rfl, (Zb BK101.out 0).trans rfl, (Zb BK101.out 1).trans rfl, (Zb BK101.out 2).trans rfl⟩ (fun hHeld => ?_)
      clear hK K
      refine norm_ (a' := ?_) ?_ ?_
      rotate_left
      ·show Act.put _ (some 42) _ = _
       simp only [Act.put, List.setIfInBounds_toArray, List.set_cons_zero, List.set_cons_succ, Zm, Zn]
       rfl
      refine Zr (i := 4) (N := some 43) (v := ?_) (a' := ?_) #[true, true, true, true, true] rfl rfl (by kernel_rfl) (fun _ _ _ h => h) (Or.inl ⟨by rfl, ?_⟩) ?_ ?_
      rotate_left
      ·intro w'
       go_simp
       with_reducible rfl
      rotate_left
      ·simp only [Act.put, List.setIfInBounds_toArray, List.set_cons_zero, List.set_cons_succ, Zm, Zn]
       rfl
      refine done_ (by kernel_rfl) ?_
      try go_wp2
      go_ret
      exact ⟨by first | rfl | (simp [errW_none, errW_some] <;> rfl) | (simp [*, errW_none, errW_some] <;> rfl), by repeat (first | (with_reducible first | exact HB.out | apply Ze | apply Za | apply Zd | refine Zf ?_ GE101.out | refine Zf ?_ GE123.out) | exact HB.out)⟩
def laws_FnExactMayLead.Pure : Prop := ∀ (x0 : S47) (a1 : Int), (ok47 x0) → ((Lit.int .i64 a1).wf = true) → ∃ k, laws_FnExactMayLead.f k x0.f0 x0.f1 x0.f2 a1 = some true
end Go.Proofs.Ytomdjipejoafgaa.P
end
