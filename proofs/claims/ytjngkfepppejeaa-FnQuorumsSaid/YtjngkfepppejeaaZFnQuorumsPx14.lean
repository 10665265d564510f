-- Written by programs of this session (wip/prune.py, wip/xp.py), out of the translation and the printed words; what the law does not reach is left out. Not trusted: Lean checks it.
import Derived.Test.YtjngkfepppejeaaZFnQuorumsPx0
import Derived.Test.YtjngkfepppejeaaZFnQuorumsPx13
import Derived.Test.YtjngkfepppejeaaZFnQuorumsPx4
section
namespace Go.Proofs.Ytjngkfepppejeaa.P
open Go.RowKit Go.Proofs.YtjngkfepppejeaaW.PrintWords Go.Proofs.YtjngkfepppejeaaW.PrintLast Go.Proofs.YtjngkfepppejeaaW.PrintMore
attribute [local go_sem] max2_int min2_int max_two min_two max_three min_three max_four min_four   -- for this text's walks alone
set_option linter.unusedVariables false
set_option linter.unusedSimpArgs false
mutual
def laws_FnQuorums.j0 : Nat → List Int → List Int → Bool → Bool → List (List Int) → Bool → Bool → List Int → Int → Option (Bool)
  | 0, _, _, _, _, _, _, _, _, _ => none
  | k + 1, x1, x6, x7, x8, x11, x12, x103, x109000, x109001 => if x103 = true then (some false) else (if x12 = true then (laws_FnQuorums.l0 k x1 x6 x7 x8 x11 0 x109000 (x109000.length : Int) 0 x109000 x109001) else (laws_FnQuorums.j5 k x1))
def laws_FnQuorums.j5 : Nat → List Int → Option (Bool)
  | 0, _ => none
  | k + 1, x1 => (spec_DrawReadWrite.f k x1).bind fun bt131 => ((impl_ReadWrite.f k bt131.1 bt131.2.1 bt131.2.2.1 bt131.2.2.2).bind fun bt138 => ((spec_ReadWrite.f k bt131.1 bt131.2.1 bt131.2.2.1 bt131.2.2.2).bind fun bt140 => (if (bt138.2 != bt140.2) = true then (laws_FnQuorums.j6 k bt131.2.2.1 bt131.2.2.2 bt138.1 bt138.2 true bt131.1 bt131.2.1) else (laws_FnQuorums.j6 k bt131.2.2.1 bt131.2.2.2 bt138.1 bt138.2 (bt138.1 != bt140.1) bt131.1 bt131.2.1))))
def laws_FnQuorums.j6 : Nat → Int → Int → Bool → Bool → Bool → List Int → Int → Option (Bool)
  | 0, _, _, _, _, _, _, _ => none
  | k + 1, x29, x30, x31, x32, x202, x138000, x138001 => if x202 = true then (some false) else (if x32 = true then (laws_FnQuorums.j7 k x29 x30 x31 x138000 x138001) else (laws_FnQuorums.j7 k x29 x30 false x138000 x138001))
def laws_FnQuorums.j7 : Nat → Int → Int → Bool → List Int → Int → Option (Bool)
  | 0, _, _, _, _, _ => none
  | k + 1, x29, x30, x206, x138000, x138001 => if x206 = true then ((impl_LeastQuorums.f k x138000 x29).bind fun bt142 => ((impl_LeastQuorums.f k x138000 x30).bind fun bt146 => (if bt142.2 = true then (laws_FnQuorums.j8 k bt142.1 bt146.1 (!bt146.2)) else (laws_FnQuorums.j8 k bt142.1 bt146.1 true)))) else (some true)
def laws_FnQuorums.j8 : Nat → List (List Int) → List (List Int) → Bool → Option (Bool)
  | 0, _, _, _ => none
  | k + 1, x35, x37, x228 => if x228 = true then (some false) else (laws_FnQuorums.l3 k x35 x37 (x35.length : Int) 0)
def laws_FnQuorums.l3 : Nat → List (List Int) → List (List Int) → Int → Int → Option (Bool)
  | 0, _, _, _, _ => none
  | k + 1, x35, x37, x230, x231 => if x231 < x230 then (if 0 ≤ x231 then (if x231 < (x35.length : Int) then (laws_FnQuorums.l4 k x35 x37 (rd_L1 x35 x231) x230 x231 (x37.length : Int) 0) else (none)) else (none)) else (some true)
def laws_FnQuorums.l4 : Nat → List (List Int) → List (List Int) → List Int → Int → Int → Int → Int → Option (Bool)
  | 0, _, _, _, _, _, _, _ => none
  | k + 1, x35, x37, x40, x230, x231, x236, x237 => if x237 < x236 then (if 0 ≤ x237 then (if x237 < (x37.length : Int) then (laws_FnQuorums.l5 k x35 x37 x40 (rd_L1 x37 x237) false x230 x231 x236 x237 x40 (x40.length : Int) 0) else (none)) else (none)) else (laws_FnQuorums.l3 k x35 x37 x230 (wrap64 (x231 + 1)))
def laws_FnQuorums.l5 : Nat → List (List Int) → List (List Int) → List Int → List Int → Bool → Int → Int → Int → Int → List Int → Int → Int → Option (Bool)
  | 0, _, _, _, _, _, _, _, _, _, _, _, _ => none
  | k + 1, x35, x37, x40, x42, x43, x230, x231, x236, x237, x241, x242, x243 => if x243 < x242 then (if 0 ≤ x243 then (if x243 < (x241.length : Int) then (if x43 = true then (laws_FnQuorums.l5 k x35 x37 x40 x42 true x230 x231 x236 x237 x241 x242 (wrap64 (x243 + 1))) else ((laws_has.f k x42 (rd x241 x243)).bind fun t153 => (laws_FnQuorums.l5 k x35 x37 x40 x42 t153 x230 x231 x236 x237 x241 x242 (wrap64 (x243 + 1))))) else (none)) else (none)) else (if x43 = true then (laws_FnQuorums.l4 k x35 x37 x40 x230 x231 x236 (wrap64 (x237 + 1))) else (some false))
def laws_FnQuorums.l0 : Nat → List Int → List Int → Bool → Bool → List (List Int) → Int → List Int → Int → Int → List Int → Int → Option (Bool)
  | 0, _, _, _, _, _, _, _, _, _, _, _ => none
  | k + 1, x1, x6, x7, x8, x11, x15, x106, x107, x108, x109000, x109001 => if x108 < x107 then (if 0 ≤ x108 then (if x108 < (x106.length : Int) then (laws_FnQuorums.l0 k x1 x6 x7 x8 x11 (wrap64 (x15 + (rd x106 x108))) x106 x107 (wrap64 (x108 + 1)) x109000 x109001) else (none)) else (none)) else ((impl_AllMeet.f k x11).bind fun bt124 => (if bt124.2 = true then (if (wrap64 (2 * x109001)) > x15 then (laws_FnQuorums.j2 k x1 x6 x7 x8 x11 (!bt124.1) x109000 x109001) else (laws_FnQuorums.j2 k x1 x6 x7 x8 x11 false x109000 x109001)) else (laws_FnQuorums.j2 k x1 x6 x7 x8 x11 false x109000 x109001)))
def laws_FnQuorums.j2 : Nat → List Int → List Int → Bool → Bool → List (List Int) → Bool → List Int → Int → Option (Bool)
  | 0, _, _, _, _, _, _, _, _ => none
  | k + 1, x1, x6, x7, x8, x11, x132, x109000, x109001 => if x132 = true then (some false) else (laws_FnQuorums.l1 k x1 x6 x7 x8 x11 false (x11.length : Int) 0 x109000 x109001)
def laws_FnQuorums.l1 : Nat → List Int → List Int → Bool → Bool → List (List Int) → Bool → Int → Int → List Int → Int → Option (Bool)
  | 0, _, _, _, _, _, _, _, _, _, _ => none
  | k + 1, x1, x6, x7, x8, x11, x20, x134, x135, x109000, x109001 => if x135 < x134 then (if 0 ≤ x135 then (if x135 < (x11.length : Int) then ((impl_IsQuorum.f k x109000 x109001 (rd_L1 x11 x135)).bind fun bt127 => (laws_FnQuorums.l2 k x1 x6 x7 x8 x11 x20 bt127.1 bt127.2 true x134 x135 (rd_L1 x11 x135) ((rd_L1 x11 x135).length : Int) 0 x109000 x109001)) else (none)) else (none)) else (if x8 = true then (if (x7 != x20) = true then (some false) else (laws_FnQuorums.j5 k x1)) else (laws_FnQuorums.j5 k x1))
def laws_FnQuorums.l2 : Nat → List Int → List Int → Bool → Bool → List (List Int) → Bool → Bool → Bool → Bool → Int → Int → List Int → Int → Int → List Int → Int → Option (Bool)
  | 0, _, _, _, _, _, _, _, _, _, _, _, _, _, _, _, _ => none
  | k + 1, x1, x6, x7, x8, x11, x20, x23, x24, x25, x134, x135, x145, x146, x147, x109000, x109001 => if x147 < x146 then (if 0 ≤ x147 then (if x147 < (x145.length : Int) then (if x25 = true then ((laws_has.f k x6 (rd x145 x147)).bind fun t130 => (laws_FnQuorums.l2 k x1 x6 x7 x8 x11 x20 x23 x24 t130 x134 x135 x145 x146 (wrap64 (x147 + 1)) x109000 x109001)) else (laws_FnQuorums.l2 k x1 x6 x7 x8 x11 x20 x23 x24 false x134 x135 x145 x146 (wrap64 (x147 + 1)) x109000 x109001)) else (none)) else (none)) else (if x20 = true then (if x24 = true then (if x23 = true then (laws_FnQuorums.l1 k x1 x6 x7 x8 x11 true x134 (wrap64 (x135 + 1)) x109000 x109001) else (some false)) else (some false)) else (if x24 = true then (if x23 = true then (laws_FnQuorums.l1 k x1 x6 x7 x8 x11 x25 x134 (wrap64 (x135 + 1)) x109000 x109001) else (some false)) else (some false)))
end
def laws_FnQuorums.f (k : Nat) (l0 : List Int) (l1 : List Int) : Option (Bool) := if (wrap64 ((l0.length : Int) + (l1.length : Int))) > 1048576 then (some true) else ((spec_DrawIsQuorum.f k l0).bind fun bt101 => ((impl_IsQuorum.f k bt101.1 bt101.2.1 bt101.2.2).bind fun bt109 => ((spec_IsQuorum.f k bt101.1 bt101.2.1 bt101.2.2).bind fun bt111 => ((impl_LeastQuorums.f k bt101.1 bt101.2.1).bind fun bt113 => ((spec_LeastQuorums.f k bt101.1 bt101.2.1).bind fun bt117 => (if (bt109.2 != bt111.2) = true then (laws_FnQuorums.j0 k l1 bt101.2.2 bt109.1 bt109.2 bt113.1 bt113.2 true bt101.1 bt101.2.1) else (if (bt109.1 != bt111.1) = true then (laws_FnQuorums.j0 k l1 bt101.2.2 bt109.1 bt109.2 bt113.1 bt113.2 true bt101.1 bt101.2.1) else (if (bt113.2 != bt117.2) = true then (laws_FnQuorums.j0 k l1 bt101.2.2 bt109.1 bt109.2 bt113.1 bt113.2 true bt101.1 bt101.2.1) else ((laws_sameLists.f k bt113.1 bt117.1).bind fun t121 => (if t121 = true then ((impl_GoodVotes.f k bt101.1 bt101.2.1).bind fun t122 => (laws_FnQuorums.j0 k l1 bt101.2.2 bt109.1 bt109.2 bt113.1 bt113.2 (t122 != bt117.2) bt101.1 bt101.2.1)) else (laws_FnQuorums.j0 k l1 bt101.2.2 bt109.1 bt109.2 bt113.1 bt113.2 true bt101.1 bt101.2.1)))))))))))
set_option maxHeartbeats 8000000 in
set_option maxRecDepth 100000 in
theorem laws_FnQuorums.calls (k : Nat) (A0 : Option Addr) (c0 : Nat) (l0 : List Int) (A1 : Option Addr) (c1 : Nat) (l1 : List Int) (r : Bool) (w : World) (hr0 : Kd.C (Kd.int .u8) w A0 l0.length l0) (hc0 : l0.length ≤ c0) (hr1 : Kd.C (Kd.int .u8) w A1 l1.length l1) (hc1 : l1.length ≤ c1) (h : laws_FnQuorums.f k l0 l1 = some r) :
    Calls Try.prog 8 #[.slice A0 l0.length c0, .slice A1 l1.length c1] w fun e w' => e = .returned (.bool r) ∧ Below w.heap.size w w' := by
  have hu38 := Try.underlying38
  have hu31 := Try.underlying31
  have hu3 := Try.underlying3
  have HR0 := Aside0.mk hr0
  have HC0 := Aside0.mk hc0
  clear hr0 hc0
  have HR1 := Aside0.mk hr1
  have HC1 := Aside0.mk hc1
  clear hr1 hc1
  have HB := Aside0.mk (Below.refl w.heap.size w)
  have H : (if (wrap64 ((l0.length : Int) + (l1.length : Int))) > 1048576 then (some true) else ((spec_DrawIsQuorum.f k l0).bind fun bt101 => ((impl_IsQuorum.f k bt101.1 bt101.2.1 bt101.2.2).bind fun bt109 => ((spec_IsQuorum.f k bt101.1 bt101.2.1 bt101.2.2).bind fun bt111 => ((impl_LeastQuorums.f k bt101.1 bt101.2.1).bind fun bt113 => ((spec_LeastQuorums.f k bt101.1 bt101.2.1).bind fun bt117 => (if (bt109.2 != bt111.2) = true then (laws_FnQuorums.j0 k l1 bt101.2.2 bt109.1 bt109.2 bt113.1 bt113.2 true bt101.1 bt101.2.1) else (if (bt109.1 != bt111.1) = true then (laws_FnQuorums.j0 k l1 bt101.2.2 bt109.1 bt109.2 bt113.1 bt113.2 true bt101.1 bt101.2.1) else (if (bt113.2 != bt117.2) = true then (laws_FnQuorums.j0 k l1 bt101.2.2 bt109.1 bt109.2 bt113.1 bt113.2 true bt101.1 bt101.2.1) else ((laws_sameLists.f k bt113.1 bt117.1).bind fun t121 => (if t121 = true then ((impl_GoodVotes.f k bt101.1 bt101.2.1).bind fun t122 => (laws_FnQuorums.j0 k l1 bt101.2.2 bt109.1 bt109.2 bt113.1 bt113.2 (t122 != bt117.2) bt101.1 bt101.2.1)) else (laws_FnQuorums.j0 k l1 bt101.2.2 bt109.1 bt109.2 bt113.1 bt113.2 true bt101.1 bt101.2.1)))))))))))) = some r := h
  clear h
  by_cases c3 : (wrap64 ((l0.length : Int) + (l1.length : Int))) > 1048576
  · rw [if_pos c3] at H
    have c3b0 : decide (1048576 < (wrap64 ((l0.length : Int) + (l1.length : Int)))) = true := decide_eq_true c3
    clear c3
    obtain rfl := Option.some.inj H
    go_enter Try.func8, Try.ntmps8
    go_wp2
    go_ret
    exact ⟨by first | rfl | (simp [errW_none, errW_some] <;> rfl) | (simp [*, errW_none, errW_some] <;> rfl), by repeat (first | (with_reducible first | exact HB.out | apply below_alloc | apply pw_below_drewN | apply below_drew1) | exact HB.out)⟩
  · rw [if_neg c3] at H
    have c3b0 : decide (1048576 < (wrap64 ((l0.length : Int) + (l1.length : Int)))) = false := decide_eq_false c3
    clear c3
    replace H := Option.bind_eq_some_iff.mp H
    obtain ⟨⟨t101, t104, t105⟩, A40, H⟩ := H
    replace H : ((impl_IsQuorum.f k t101 t104 t105).bind fun bt109 => ((spec_IsQuorum.f k t101 t104 t105).bind fun bt111 => ((impl_LeastQuorums.f k t101 t104).bind fun bt113 => ((spec_LeastQuorums.f k t101 t104).bind fun bt117 => (if (bt109.2 != bt111.2) = true then (laws_FnQuorums.j0 k l1 t105 bt109.1 bt109.2 bt113.1 bt113.2 true t101 t104) else (if (bt109.1 != bt111.1) = true then (laws_FnQuorums.j0 k l1 t105 bt109.1 bt109.2 bt113.1 bt113.2 true t101 t104) else (if (bt113.2 != bt117.2) = true then (laws_FnQuorums.j0 k l1 t105 bt109.1 bt109.2 bt113.1 bt113.2 true t101 t104) else ((laws_sameLists.f k bt113.1 bt117.1).bind fun t121 => (if t121 = true then ((impl_GoodVotes.f k t101 t104).bind fun t122 => (laws_FnQuorums.j0 k l1 t105 bt109.1 bt109.2 bt113.1 bt113.2 (t122 != bt117.2) t101 t104)) else (laws_FnQuorums.j0 k l1 t105 bt109.1 bt109.2 bt113.1 bt113.2 true t101 t104)))))))))) = some r := H
    have A4 := Aside0.mk A40
    clear A40
    replace H := Option.bind_eq_some_iff.mp H
    obtain ⟨⟨t109, t110⟩, A50, H⟩ := H
    replace H : ((spec_IsQuorum.f k t101 t104 t105).bind fun bt111 => ((impl_LeastQuorums.f k t101 t104).bind fun bt113 => ((spec_LeastQuorums.f k t101 t104).bind fun bt117 => (if (t110 != bt111.2) = true then (laws_FnQuorums.j0 k l1 t105 t109 t110 bt113.1 bt113.2 true t101 t104) else (if (t109 != bt111.1) = true then (laws_FnQuorums.j0 k l1 t105 t109 t110 bt113.1 bt113.2 true t101 t104) else (if (bt113.2 != bt117.2) = true then (laws_FnQuorums.j0 k l1 t105 t109 t110 bt113.1 bt113.2 true t101 t104) else ((laws_sameLists.f k bt113.1 bt117.1).bind fun t121 => (if t121 = true then ((impl_GoodVotes.f k t101 t104).bind fun t122 => (laws_FnQuorums.j0 k l1 t105 t109 t110 bt113.1 bt113.2 (t122 != bt117.2) t101 t104)) else (laws_FnQuorums.j0 k l1 t105 t109 t110 bt113.1 bt113.2 true t101 t104))))))))) = some r := H
    have A5 := Aside0.mk A50
    clear A50
    replace H := Option.bind_eq_some_iff.mp H
    obtain ⟨⟨t111, t112⟩, A60, H⟩ := H
    replace H : ((impl_LeastQuorums.f k t101 t104).bind fun bt113 => ((spec_LeastQuorums.f k t101 t104).bind fun bt117 => (if (t110 != t112) = true then (laws_FnQuorums.j0 k l1 t105 t109 t110 bt113.1 bt113.2 true t101 t104) else (if (t109 != t111) = true then (laws_FnQuorums.j0 k l1 t105 t109 t110 bt113.1 bt113.2 true t101 t104) else (if (bt113.2 != bt117.2) = true then (laws_FnQuorums.j0 k l1 t105 t109 t110 bt113.1 bt113.2 true t101 t104) else ((laws_sameLists.f k bt113.1 bt117.1).bind fun t121 => (if t121 = true then ((impl_GoodVotes.f k t101 t104).bind fun t122 => (laws_FnQuorums.j0 k l1 t105 t109 t110 bt113.1 bt113.2 (t122 != bt117.2) t101 t104)) else (laws_FnQuorums.j0 k l1 t105 t109 t110 bt113.1 bt113.2 true t101 t104)))))))) = some r := H
    have A6 := Aside0.mk A60
    clear A60
    replace H := Option.bind_eq_some_iff.mp H
    obtain ⟨⟨t113, t116⟩, A70, H⟩ := H
    replace H : ((spec_LeastQuorums.f k t101 t104).bind fun bt117 => (if (t110 != t112) = true then (laws_FnQuorums.j0 k l1 t105 t109 t110 t113 t116 true t101 t104) else (if (t109 != t111) = true then (laws_FnQuorums.j0 k l1 t105 t109 t110 t113 t116 true t101 t104) else (if (t116 != bt117.2) = true then (laws_FnQuorums.j0 k l1 t105 t109 t110 t113 t116 true t101 t104) else ((laws_sameLists.f k t113 bt117.1).bind fun t121 => (if t121 = true then ((impl_GoodVotes.f k t101 t104).bind fun t122 => (laws_FnQuorums.j0 k l1 t105 t109 t110 t113 t116 (t122 != bt117.2) t101 t104)) else (laws_FnQuorums.j0 k l1 t105 t109 t110 t113 t116 true t101 t104))))))) = some r := H
    have A7 := Aside0.mk A70
    clear A70
    replace H := Option.bind_eq_some_iff.mp H
    obtain ⟨⟨t117, t120⟩, A80, H⟩ := H
    replace H : (if (t110 != t112) = true then (laws_FnQuorums.j0 k l1 t105 t109 t110 t113 t116 true t101 t104) else (if (t109 != t111) = true then (laws_FnQuorums.j0 k l1 t105 t109 t110 t113 t116 true t101 t104) else (if (t116 != t120) = true then (laws_FnQuorums.j0 k l1 t105 t109 t110 t113 t116 true t101 t104) else ((laws_sameLists.f k t113 t117).bind fun t121 => (if t121 = true then ((impl_GoodVotes.f k t101 t104).bind fun t122 => (laws_FnQuorums.j0 k l1 t105 t109 t110 t113 t116 (t122 != t120) t101 t104)) else (laws_FnQuorums.j0 k l1 t105 t109 t110 t113 t116 true t101 t104)))))) = some r := H
    have A8 := Aside0.mk A80
    clear A80
    have HC9 := Aside0.mk H
    clear H
    go_enter Try.func8, Try.ntmps8
    go_upto_region 8 with (first | ((with_reducible refine gate_callee (f := 32) rfl ?_); refine goesL_ (some 54) rfl rfl Try.func32 (by kernel_rfl) rfl #[.slice A0 l0.length c0] rfl (by (try simp only [List.map_toArray, List.map_cons, List.map_nil]); first | done | rfl | (simp only [List.length_drop, List.length_take]; rfl)) ?_; (with_reducible refine (spec_DrawIsQuorum.calls k _ _ l0 t101 t104 t105 _ ?side1 ?side2 A4.out).mono ?_); (case side1 => repeat (first | exact HR0.out | (with_reducible refine Kd.C_alloc ?_ _) | (with_reducible refine Kd.C_drewN ?_ _) | (with_reducible refine Kd.C_drew ?_))); (case side2 => exact HC0.out); rintro e w10 ⟨v102, v106, rfl, ho0, ho1, hb⟩; refine ⟨_, rfl, ?_⟩; have n0_ := Aside0.mk (Kd.R_lower ho0 (below_size (by repeat (first | (with_reducible first | exact HB.out | apply below_alloc | apply pw_below_drewN | apply below_drew1) | exact HB.out)))); have n1_ := Aside0.mk (Kd.R_lower ho1 (below_size (by repeat (first | (with_reducible first | exact HB.out | apply below_alloc | apply pw_below_drewN | apply below_drew1) | exact HB.out)))); have n2_ := Aside0.mk (below_step (by repeat (first | (with_reducible first | exact HB.out | apply below_alloc | apply pw_below_drewN | apply below_drew1) | exact HB.out)) hb); clear HB; have HO103 := n0_; have HO107 := n1_; have HB := n2_; clear n0_ n1_ n2_; (try clear hb); (try clear hb2); (try clear hk); (try clear hi); (try clear ho0); (try clear ho1)) | ((with_reducible refine gate_dst (N := 5) rfl ?_); refine box_event ?hg (N := 5) ?hd (cs := #[.slice none 0 0, .int .i64 0]) (t := 38) ?hr ?_; (case hd => rfl); (case hg => rfl); (case hr => first | (go_simp; done) | (go_simp; rfl)); intro gb108 hg w11 hbox hb; have n0_ := Aside0.mk (Kd.R_below (by (with_reducible repeat (first | apply Kd.R_alloc | apply Kd.R_drewN | apply Kd.R_drew)); exact HO103.out) hb); have n1_ := Aside0.mk (Kd.R_below (by (with_reducible repeat (first | apply Kd.R_alloc | apply Kd.R_drewN | apply Kd.R_drew)); exact HO107.out) hb); have n2_ := Aside0.mk (below_step (by repeat (first | (with_reducible first | exact HB.out | apply below_alloc | apply pw_below_drewN | apply below_drew1) | exact HB.out)) hb); have n3_ := Aside0.mk (hbox); have n4_ := Aside0.mk ((by rw [hg]; exact (below_size (by repeat (first | (with_reducible first | exact HB.out | apply below_alloc | apply pw_below_drewN | apply below_drew1) | exact HB.out))) : w.heap.size ≤ gb108)); have n5_ := Aside0.mk ((by rw [hg]; exact (below_size (by repeat (first | (with_reducible first | exact HB.out | apply below_alloc | apply pw_below_drewN | apply below_drew1) | exact HB.out))) : w.heap.size ≤ gb108)); clear HO103; clear HO107; clear HB; have HO103 := n0_; have HO107 := n1_; have HB := n2_; have BK108 := n3_; have GW108 := n4_; have GE108 := n5_; clear n0_ n1_ n2_ n3_ n4_ n5_; clear hb hbox hg; obtain ⟨Ao12, co12, eo12⟩ := Kd.R_slice HO103.out; subst eo12; have hcz13_0 : w11.cell? ⟨gb108, 0, none⟩ = some (.slice none 0 0) := (blk_cell BK108.out 0).trans rfl; have hcz13_1 : w11.cell? ⟨gb108, 1, none⟩ = some (.int .i64 0) := (blk_cell BK108.out 1).trans rfl; have hfz13_0 := blk_frozen BK108.out 0; have hfz13_1 := blk_frozen BK108.out 1; obtain ⟨Ao14, co14, eo14⟩ := Kd.R_slice HO107.out; subst eo14) | ((with_reducible refine gate_callee (f := 33) rfl ?_); refine goesL_ (some 60) rfl rfl Try.func33 (by kernel_rfl) rfl #[.agg #[.slice Ao12 t101.length co12, .int .i64 t104], .slice Ao14 t105.length co14] rfl (by (try simp only [List.map_toArray, List.map_cons, List.map_nil]); first | done | rfl | (simp only [List.length_drop, List.length_take]; rfl)) ?_; (with_reducible refine (impl_IsQuorum.calls k _ _ t101 t104 _ _ t105 t109 t110 _ ?side1 ?side2 ?side3 ?side4 A5.out).mono ?_); (case side1 => refine (Kd.R_reads' (e := 3) (base := w.heap.size) (ok := fun k_ => some k_ ≠ (.slice Ao14 t105.length co14 : Value).ownBlock) (n := t101.length) (c := co12) ?_).2.2; exact (by (with_reducible repeat (first | apply Kd.R_alloc | apply Kd.R_drewN | apply Kd.R_drew)); exact (Kd.R_mono (Kd.R_far (p := ⟨gb108, 1, none⟩) (Kd.R_far (p := ⟨gb108, 0, none⟩) (Kd.R_types HO103.out BK108.out (by decide)) (fun _ hk => hk.2) (.slice Ao12 t101.length co12)) (fun _ hk => hk.2) (.int .i64 t104)) (fun _ h_ => h_.1)))); (case side2 => exact (Kd.R_reads' HO103.out).2.1); (case side3 => refine (Kd.R_reads' (e := 3) (base := w.heap.size) (ok := fun k_ => some k_ ≠ (.slice Ao12 t101.length co12 : Value).ownBlock) (n := t105.length) (c := co14) ?_).2.2; exact (by (with_reducible repeat (first | apply Kd.R_alloc | apply Kd.R_drewN | apply Kd.R_drew)); exact (Kd.R_mono (Kd.R_far (p := ⟨gb108, 1, none⟩) (Kd.R_far (p := ⟨gb108, 0, none⟩) (Kd.R_types HO107.out BK108.out (by decide)) (fun _ hk => hk.2) (.slice Ao12 t101.length co12)) (fun _ hk => hk.2) (.int .i64 t104)) (fun _ h_ => h_.1)))); (case side4 => exact (Kd.R_reads' HO107.out).2.1); rintro e w15 ⟨rfl, hb⟩; refine ⟨_, rfl, ?_⟩; have n0_ := Aside0.mk (Kd.R_below (by (with_reducible repeat (first | apply Kd.R_alloc | apply Kd.R_drewN | apply Kd.R_drew)); exact (Kd.R_mono (Kd.R_far (p := ⟨gb108, 1, none⟩) (Kd.R_far (p := ⟨gb108, 0, none⟩) (Kd.R_types HO103.out BK108.out (by decide)) (fun _ hk => hk.2) (.slice Ao12 t101.length co12)) (fun _ hk => hk.2) (.int .i64 t104)) (fun _ h_ => h_.1))) hb); have n1_ := Aside0.mk (Kd.R_below (by (with_reducible repeat (first | apply Kd.R_alloc | apply Kd.R_drewN | apply Kd.R_drew)); exact (Kd.R_mono (Kd.R_far (p := ⟨gb108, 1, none⟩) (Kd.R_far (p := ⟨gb108, 0, none⟩) (Kd.R_types HO107.out BK108.out (by decide)) (fun _ hk => hk.2) (.slice Ao12 t101.length co12)) (fun _ hk => hk.2) (.int .i64 t104)) (fun _ h_ => h_.1))) hb); have n2_ := Aside0.mk (blk_below (g := gb108) (o := .cells #[.slice Ao12 t101.length co12, .int .i64 t104] 38 (0, 0)) (by (with_reducible repeat (first | refine blk_drewN ?_ _ | refine blk_drew ?_ | refine blk_alloc ?_ _)); refine blk_put (cs := #[.slice Ao12 t101.length co12, .int .i64 0]) ?_ 1 _ rfl; (with_reducible repeat (first | refine blk_drewN ?_ _ | refine blk_drew ?_ | refine blk_alloc ?_ _)); refine blk_put (cs := #[.slice none 0 0, .int .i64 0]) ?_ 0 _ rfl; (with_reducible repeat (first | refine blk_drewN ?_ _ | refine blk_drew ?_ | refine blk_alloc ?_ _)); exact BK108.out) hb); have n3_ := Aside0.mk (below_step (by repeat (first | (with_reducible first | exact HB.out | apply below_alloc | apply pw_below_drewN | apply below_drew1 | refine below_set ?_ GE108.out) | exact HB.out)) hb); clear HO103; clear HO107; clear BK108; clear HB; have HO103 := n0_; have HO107 := n1_; have BK108 := n2_; have HB := n3_; clear n0_ n1_ n2_ n3_; (try clear hb); (try clear hb2); (try clear hk); (try clear hi); have hcz16_0 : w15.cell? ⟨gb108, 0, none⟩ = some (.slice Ao12 t101.length co12) := (blk_cell BK108.out 0).trans rfl; have hcz16_1 : w15.cell? ⟨gb108, 1, none⟩ = some (.int .i64 t104) := (blk_cell BK108.out 1).trans rfl; have hfz16_0 := blk_frozen BK108.out 0; have hfz16_1 := blk_frozen BK108.out 1) | ((with_reducible refine gate_callee (f := 34) rfl ?_); refine goesL_ (some 66) rfl rfl Try.func34 (by kernel_rfl) rfl #[.agg #[.slice Ao12 t101.length co12, .int .i64 t104], .slice Ao14 t105.length co14] rfl (by (try simp only [List.map_toArray, List.map_cons, List.map_nil]); first | done | rfl | (simp only [List.length_drop, List.length_take]; rfl)) ?_; (with_reducible refine (spec_IsQuorum.calls k _ _ t101 t104 _ _ t105 t111 t112 _ ?side1 ?side2 ?side3 ?side4 A6.out).mono ?_); (case side1 => repeat (first | exact (Kd.R_reads' HO103.out).2.2 | (with_reducible refine Kd.C_alloc ?_ _) | (with_reducible refine Kd.C_drewN ?_ _) | (with_reducible refine Kd.C_drew ?_))); (case side2 => exact (Kd.R_reads' HO103.out).2.1); (case side3 => repeat (first | exact (Kd.R_reads' HO107.out).2.2 | (with_reducible refine Kd.C_alloc ?_ _) | (with_reducible refine Kd.C_drewN ?_ _) | (with_reducible refine Kd.C_drew ?_))); (case side4 => exact (Kd.R_reads' HO107.out).2.1); rintro e w17 ⟨rfl, hb⟩; refine ⟨_, rfl, ?_⟩; have n0_ := Aside0.mk (Kd.R_below (by (with_reducible repeat (first | apply Kd.R_alloc | apply Kd.R_drewN | apply Kd.R_drew)); exact HO103.out) hb); have n1_ := Aside0.mk (Kd.R_below (by (with_reducible repeat (first | apply Kd.R_alloc | apply Kd.R_drewN | apply Kd.R_drew)); exact HO107.out) hb); have n2_ := Aside0.mk (blk_below (g := gb108) (o := .cells #[.slice Ao12 t101.length co12, .int .i64 t104] 38 (0, 0)) (by (with_reducible repeat (first | refine blk_drewN ?_ _ | refine blk_drew ?_ | refine blk_alloc ?_ _)); exact BK108.out) hb); have n3_ := Aside0.mk (below_step (by repeat (first | (with_reducible first | exact HB.out | apply below_alloc | apply pw_below_drewN | apply below_drew1 | refine below_set ?_ GE108.out) | exact HB.out)) hb); clear HO103; clear HO107; clear BK108; clear HB; have HO103 := n0_; have HO107 := n1_; have BK108 := n2_; have HB := n3_; clear n0_ n1_ n2_ n3_; (try clear hb); (try clear hb2); (try clear hk); (try clear hi); have hcz18_0 : w17.cell? ⟨gb108, 0, none⟩ = some (.slice Ao12 t101.length co12) := (blk_cell BK108.out 0).trans rfl; have hcz18_1 : w17.cell? ⟨gb108, 1, none⟩ = some (.int .i64 t104) := (blk_cell BK108.out 1).trans rfl; have hfz18_0 := blk_frozen BK108.out 0; have hfz18_1 := blk_frozen BK108.out 1) | ((with_reducible refine gate_callee (f := 20) rfl ?_); refine goesL_ (some 71) rfl rfl Try.func20 (by kernel_rfl) rfl #[.agg #[.slice Ao12 t101.length co12, .int .i64 t104]] rfl (by (try simp only [List.map_toArray, List.map_cons, List.map_nil]); first | done | rfl | (simp only [List.length_drop, List.length_take]; rfl)) ?_; (with_reducible refine (impl_LeastQuorums.calls k _ _ t101 t104 t113 t116 _ ?side1 ?side2 A7.out).mono ?_); (case side1 => repeat (first | exact (Kd.R_reads' HO103.out).2.2 | (with_reducible refine Kd.C_alloc ?_ _) | (with_reducible refine Kd.C_drewN ?_ _) | (with_reducible refine Kd.C_drew ?_))); (case side2 => exact (Kd.R_reads' HO103.out).2.1); rintro e w19 ⟨v114, rfl, ho0, hb⟩; refine ⟨_, rfl, ?_⟩; have n0_ := Aside0.mk (Kd.R_below (by (with_reducible repeat (first | apply Kd.R_alloc | apply Kd.R_drewN | apply Kd.R_drew)); exact HO103.out) hb); have n1_ := Aside0.mk (Kd.R_below (by (with_reducible repeat (first | apply Kd.R_alloc | apply Kd.R_drewN | apply Kd.R_drew)); exact HO107.out) hb); have n2_ := Aside0.mk (Kd.S_lower (Kd.S_new' (Kd.S_new' ho0 (Kd.R_lt (by (with_reducible repeat (first | apply Kd.R_alloc | apply Kd.R_drewN | apply Kd.R_drew)); exact HO103.out))) (Kd.R_lt (by (with_reducible repeat (first | apply Kd.R_alloc | apply Kd.R_drewN | apply Kd.R_drew)); exact HO107.out))) (below_size (by repeat (first | (with_reducible first | exact HB.out | apply below_alloc | apply pw_below_drewN | apply below_drew1 | refine below_set ?_ GE108.out) | exact HB.out)))); have n3_ := Aside0.mk (blk_below (g := gb108) (o := .cells #[.slice Ao12 t101.length co12, .int .i64 t104] 38 (0, 0)) (by (with_reducible repeat (first | refine blk_drewN ?_ _ | refine blk_drew ?_ | refine blk_alloc ?_ _)); exact BK108.out) hb); have n4_ := Aside0.mk (below_step (by repeat (first | (with_reducible first | exact HB.out | apply below_alloc | apply pw_below_drewN | apply below_drew1 | refine below_set ?_ GE108.out) | exact HB.out)) hb); clear HO103; clear HO107; clear BK108; clear HB; have HO103 := n0_; have HO107 := n1_; have HO115 := n2_; have BK108 := n3_; have HB := n4_; clear n0_ n1_ n2_ n3_ n4_; (try clear hb); (try clear hb2); (try clear hk); (try clear hi); (try clear ho0); have hcz20_0 : w19.cell? ⟨gb108, 0, none⟩ = some (.slice Ao12 t101.length co12) := (blk_cell BK108.out 0).trans rfl; have hcz20_1 : w19.cell? ⟨gb108, 1, none⟩ = some (.int .i64 t104) := (blk_cell BK108.out 1).trans rfl; have hfz20_0 := blk_frozen BK108.out 0; have hfz20_1 := blk_frozen BK108.out 1) | ((with_reducible refine gate_callee (f := 18) rfl ?_); refine goesL_ (some 76) rfl rfl Try.func18 (by kernel_rfl) rfl #[.agg #[.slice Ao12 t101.length co12, .int .i64 t104]] rfl (by (try simp only [List.map_toArray, List.map_cons, List.map_nil]); first | done | rfl | (simp only [List.length_drop, List.length_take]; rfl)) ?_; (with_reducible refine (spec_LeastQuorums.calls k _ _ t101 t104 t117 t120 _ ?side1 ?side2 A8.out).mono ?_); (case side1 => repeat (first | exact (Kd.R_reads' HO103.out).2.2 | (with_reducible refine Kd.C_alloc ?_ _) | (with_reducible refine Kd.C_drewN ?_ _) | (with_reducible refine Kd.C_drew ?_))); (case side2 => exact (Kd.R_reads' HO103.out).2.1); rintro e w21 ⟨v118, rfl, ho0, hb⟩; refine ⟨_, rfl, ?_⟩; have n0_ := Aside0.mk (Kd.R_below (by (with_reducible repeat (first | apply Kd.R_alloc | apply Kd.R_drewN | apply Kd.R_drew)); exact HO103.out) hb); have n1_ := Aside0.mk (Kd.R_below (by (with_reducible repeat (first | apply Kd.R_alloc | apply Kd.R_drewN | apply Kd.R_drew)); exact HO107.out) hb); have n2_ := Aside0.mk (Kd.S_elder' (by (with_reducible repeat (first | apply Kd.S_alloc | apply Kd.S_drewN | apply Kd.S_drew)); exact HO115.out) (Kd.S_base ho0) hb); have n3_ := Aside0.mk (Kd.S_lower (Kd.S_new' (Kd.S_new' (Kd.S_new' ho0 (Kd.R_lt (by (with_reducible repeat (first | apply Kd.R_alloc | apply Kd.R_drewN | apply Kd.R_drew)); exact HO103.out))) (Kd.R_lt (by (with_reducible repeat (first | apply Kd.R_alloc | apply Kd.R_drewN | apply Kd.R_drew)); exact HO107.out))) (Kd.S_lt (by (with_reducible repeat (first | apply Kd.S_alloc | apply Kd.S_drewN | apply Kd.S_drew)); exact HO115.out))) (below_size (by repeat (first | (with_reducible first | exact HB.out | apply below_alloc | apply pw_below_drewN | apply below_drew1 | refine below_set ?_ GE108.out) | exact HB.out)))); have n4_ := Aside0.mk (blk_below (g := gb108) (o := .cells #[.slice Ao12 t101.length co12, .int .i64 t104] 38 (0, 0)) (by (with_reducible repeat (first | refine blk_drewN ?_ _ | refine blk_drew ?_ | refine blk_alloc ?_ _)); exact BK108.out) hb); have n5_ := Aside0.mk (below_step (by repeat (first | (with_reducible first | exact HB.out | apply below_alloc | apply pw_below_drewN | apply below_drew1 | refine below_set ?_ GE108.out) | exact HB.out)) hb); clear HO103; clear HO107; clear HO115; clear BK108; clear HB; have HO103 := n0_; have HO107 := n1_; have HO115 := n2_; have HO119 := n3_; have BK108 := n4_; have HB := n5_; clear n0_ n1_ n2_ n3_ n4_ n5_; (try clear hb); (try clear hb2); (try clear hk); (try clear hi); (try clear ho0)))
    (try simp only [Act.put, List.setIfInBounds_toArray, List.set_cons_zero, List.set_cons_succ])
    go_cut [103] (fun v103 wc => ∃ (kq : Nat) (x103_8 : Bool), v103 = .bool x103_8 ∧ Aside0 (laws_FnQuorums.j0 kq l1 t105 t109 t110 t113 t116 x103_8 t101 t104 = some r) ∧ Aside0 (kq ≤ k) ∧ Aside0 (Kd.R (Kd.int .i64) 3 wc w.heap.size (fun k_ => some k_ ≠ ((.slice Ao12 t101.length co12) : Value).ownBlock) (.slice Ao14 t105.length co14) t105) ∧ Aside0 (Kd.S (Kd.slice 3 (Kd.int .i64)) 31 wc w.heap.size (fun k_ => some k_ ≠ ((.slice Ao14 t105.length co14) : Value).ownBlock ∧ some k_ ≠ ((.slice Ao12 t101.length co12) : Value).ownBlock) v114 t113) ∧ Aside0 (Kd.R (Kd.int .i64) 3 wc w.heap.size (fun k_ => some k_ ≠ ((.slice Ao14 t105.length co14) : Value).ownBlock) (.slice Ao12 t101.length co12) t101) ∧ Aside0 (wc.heap[gb108]? = some (.cells #[(.slice Ao12 t101.length co12), .int .i64 t104] 38 (0, 0))) ∧ Aside0 (Below w.heap.size w wc))
    case first =>
      have H := HC9.out
      clear HC9
      by_cases c22 : (t110 != t112) = true
      · rw [if_pos c22] at H
        have c22b0 : (t110 != t112) = true := c22
        (try (have c22b1 : decide (t110 = t112) = false := by simpa using c22))
        (try (have c22b2 : (t110 == t112) = false := by simpa using c22))
        (try (have c22b3 : ¬ (t110 = t112) := by simpa using c22))
        clear c22
        (first | rw [c22b0] | (simp only [i64_w, i32_w]; rw [c22b0]) | skip)
        have H' := Aside0.mk H
        clear H
        go_wp2
        go_meet
        case rel => exact ⟨_, (true), (by first | rfl | (simp; done) | (simp [*]; done)), H', ⟨by first | omega | exact Nat.le_refl _⟩, ⟨by (with_reducible repeat (first | apply Kd.R_alloc | apply Kd.R_drewN | apply Kd.R_drew)); exact HO107.out⟩, ⟨by (with_reducible repeat (first | apply Kd.S_alloc | apply Kd.S_drewN | apply Kd.S_drew)); exact Kd.S_mono HO115.out (fun _ hk => ⟨hk.1.2, hk.1.1.2⟩)⟩, ⟨by (with_reducible repeat (first | apply Kd.R_alloc | apply Kd.R_drewN | apply Kd.R_drew)); exact HO103.out⟩, ⟨by (with_reducible repeat (first | refine blk_drewN ?_ _ | refine blk_drew ?_ | refine blk_alloc ?_ _)); exact BK108.out⟩, ⟨by repeat (first | (with_reducible first | exact HB.out | apply below_alloc | apply pw_below_drewN | apply below_drew1 | refine below_set ?_ GE108.out) | exact HB.out)⟩⟩
      · rw [if_neg c22] at H
        have c22b0 : (t110 != t112) = false := by simpa using c22
        (try (have c22b1 : decide (t110 = t112) = true := by simpa using c22))
        (try (have c22b2 : (t110 == t112) = true := by simpa using c22))
        clear c22
        (first | rw [c22b0] | (simp only [i64_w, i32_w]; rw [c22b0]) | skip)
        by_cases c23 : (t109 != t111) = true
        · rw [if_pos c23] at H
          have c23b0 : (t109 != t111) = true := c23
          (try (have c23b1 : decide (t109 = t111) = false := by simpa using c23))
          (try (have c23b2 : (t109 == t111) = false := by simpa using c23))
          (try (have c23b3 : ¬ (t109 = t111) := by simpa using c23))
          clear c23
          have H' := Aside0.mk H
          clear H
          go_wp2
          go_meet
          case rel => exact ⟨_, (true), (by first | rfl | (simp; done) | (simp [*]; done)), H', ⟨by first | omega | exact Nat.le_refl _⟩, ⟨by (with_reducible repeat (first | apply Kd.R_alloc | apply Kd.R_drewN | apply Kd.R_drew)); exact HO107.out⟩, ⟨by (with_reducible repeat (first | apply Kd.S_alloc | apply Kd.S_drewN | apply Kd.S_drew)); exact Kd.S_mono HO115.out (fun _ hk => ⟨hk.1.2, hk.1.1.2⟩)⟩, ⟨by (with_reducible repeat (first | apply Kd.R_alloc | apply Kd.R_drewN | apply Kd.R_drew)); exact HO103.out⟩, ⟨by (with_reducible repeat (first | refine blk_drewN ?_ _ | refine blk_drew ?_ | refine blk_alloc ?_ _)); exact BK108.out⟩, ⟨by repeat (first | (with_reducible first | exact HB.out | apply below_alloc | apply pw_below_drewN | apply below_drew1 | refine below_set ?_ GE108.out) | exact HB.out)⟩⟩
        · rw [if_neg c23] at H
          have c23b0 : (t109 != t111) = false := by simpa using c23
          (try (have c23b1 : decide (t109 = t111) = true := by simpa using c23))
          (try (have c23b2 : (t109 == t111) = true := by simpa using c23))
          clear c23
          by_cases c24 : (t116 != t120) = true
          · rw [if_pos c24] at H
            have c24b0 : (t116 != t120) = true := c24
            (try (have c24b1 : decide (t116 = t120) = false := by simpa using c24))
            (try (have c24b2 : (t116 == t120) = false := by simpa using c24))
            (try (have c24b3 : ¬ (t116 = t120) := by simpa using c24))
            clear c24
            have H' := Aside0.mk H
            clear H
            go_wp2
            go_meet
            case rel => exact ⟨_, (true), (by first | rfl | (simp; done) | (simp [*]; done)), H', ⟨by first | omega | exact Nat.le_refl _⟩, ⟨by (with_reducible repeat (first | apply Kd.R_alloc | apply Kd.R_drewN | apply Kd.R_drew)); exact HO107.out⟩, ⟨by (with_reducible repeat (first | apply Kd.S_alloc | apply Kd.S_drewN | apply Kd.S_drew)); exact Kd.S_mono HO115.out (fun _ hk => ⟨hk.1.2, hk.1.1.2⟩)⟩, ⟨by (with_reducible repeat (first | apply Kd.R_alloc | apply Kd.R_drewN | apply Kd.R_drew)); exact HO103.out⟩, ⟨by (with_reducible repeat (first | refine blk_drewN ?_ _ | refine blk_drew ?_ | refine blk_alloc ?_ _)); exact BK108.out⟩, ⟨by repeat (first | (with_reducible first | exact HB.out | apply below_alloc | apply pw_below_drewN | apply below_drew1 | refine below_set ?_ GE108.out) | exact HB.out)⟩⟩
          · rw [if_neg c24] at H
            have c24b0 : (t116 != t120) = false := by simpa using c24
            (try (have c24b1 : decide (t116 = t120) = true := by simpa using c24))
            (try (have c24b2 : (t116 == t120) = true := by simpa using c24))
            clear c24
            replace H := Option.bind_eq_some_iff.mp H
            obtain ⟨t121, A250, H⟩ := H
            replace H : (if t121 = true then ((impl_GoodVotes.f k t101 t104).bind fun t122 => (laws_FnQuorums.j0 k l1 t105 t109 t110 t113 t116 (t122 != t120) t101 t104)) else (laws_FnQuorums.j0 k l1 t105 t109 t110 t113 t116 true t101 t104)) = some r := H
            have A25 := Aside0.mk A250
            clear A250
            by_cases c26 : t121 = true
            · subst c26
              have H1 : ((impl_GoodVotes.f k t101 t104).bind fun t122 => (laws_FnQuorums.j0 k l1 t105 t109 t110 t113 t116 (t122 != t120) t101 t104)) = some r := by rw [if_pos rfl] at H; exact H
              clear H
              have H := H1
              clear H1
              replace H := Option.bind_eq_some_iff.mp H
              obtain ⟨t122, A270, H⟩ := H
              replace H : (laws_FnQuorums.j0 k l1 t105 t109 t110 t113 t116 (t122 != t120) t101 t104) = some r := H
              have A27 := Aside0.mk A270
              clear A270
              have H' := Aside0.mk H
              clear H
              obtain ⟨Ao28, co28, eo28⟩ := Kd.S_slice HO115.out
              subst eo28
              obtain ⟨Ao29, co29, eo29⟩ := Kd.S_slice HO119.out
              subst eo29
              go_wp2_with (first | (go_at_call 35; (with_reducible refine (laws_sameLists.calls k _ _ t113 _ _ t117 true _ ?side1 ?side2 ?side3 ?side4 A25.out).mono ?_); (case side1 => repeat (first | exact (Kd.S_reads' HO115.out).2.2 | (with_reducible refine Kd.C_alloc ?_ _) | (with_reducible refine Kd.C_drewN ?_ _) | (with_reducible refine Kd.C_drew ?_))); (case side2 => exact (Kd.S_reads' HO115.out).2.1); (case side3 => repeat (first | exact (Kd.S_reads' HO119.out).2.2 | (with_reducible refine Kd.C_alloc ?_ _) | (with_reducible refine Kd.C_drewN ?_ _) | (with_reducible refine Kd.C_drew ?_))); (case side4 => exact (Kd.S_reads' HO119.out).2.1); rintro e w' ⟨rfl, ⟨nd, rfl⟩⟩; have hcz30_0 : w21.cell? ⟨gb108, 0, none⟩ = some (.slice Ao12 t101.length co12) := (blk_cell BK108.out 0).trans rfl; have hcz30_1 : w21.cell? ⟨gb108, 1, none⟩ = some (.int .i64 t104) := (blk_cell BK108.out 1).trans rfl; have hfz30_0 := blk_frozen BK108.out 0; have hfz30_1 := blk_frozen BK108.out 1) | (go_at_call 36; (with_reducible refine (impl_GoodVotes.calls k _ _ t101 t104 t122 _ ?side1 ?side2 A27.out).mono ?_); (case side1 => repeat (first | exact (Kd.R_reads' HO103.out).2.2 | (with_reducible refine Kd.C_alloc ?_ _) | (with_reducible refine Kd.C_drewN ?_ _) | (with_reducible refine Kd.C_drew ?_))); (case side2 => exact (Kd.R_reads' HO103.out).2.1); rintro e w31 ⟨rfl, hb⟩; have n0_ := Aside0.mk (Kd.R_below (by (with_reducible repeat (first | apply Kd.R_alloc | apply Kd.R_drewN | apply Kd.R_drew)); exact HO103.out) hb); have n1_ := Aside0.mk (Kd.R_below (by (with_reducible repeat (first | apply Kd.R_alloc | apply Kd.R_drewN | apply Kd.R_drew)); exact HO107.out) hb); have n2_ := Aside0.mk (Kd.S_below (by (with_reducible repeat (first | apply Kd.S_alloc | apply Kd.S_drewN | apply Kd.S_drew)); exact HO115.out) hb); have n3_ := Aside0.mk (Kd.S_below (by (with_reducible repeat (first | apply Kd.S_alloc | apply Kd.S_drewN | apply Kd.S_drew)); exact HO119.out) hb); have n4_ := Aside0.mk (blk_below (g := gb108) (o := .cells #[.slice Ao12 t101.length co12, .int .i64 t104] 38 (0, 0)) (by (with_reducible repeat (first | refine blk_drewN ?_ _ | refine blk_drew ?_ | refine blk_alloc ?_ _)); exact BK108.out) hb); have n5_ := Aside0.mk (below_step (by repeat (first | (with_reducible first | exact HB.out | apply below_alloc | apply pw_below_drewN | apply below_drew1 | refine below_set ?_ GE108.out) | exact HB.out)) hb); clear HO103; clear HO107; clear HO115; clear HO119; clear BK108; clear HB; have HO103 := n0_; have HO107 := n1_; have HO115 := n2_; have HO119 := n3_; have BK108 := n4_; have HB := n5_; clear n0_ n1_ n2_ n3_ n4_ n5_; (try clear hb); (try clear hb2); (try clear hk); (try clear hi)))
              go_meet
              case rel => exact ⟨_, ((t122 != t120)), (by first | rfl | (simp; done) | (simp [*]; done)), H', ⟨by first | omega | exact Nat.le_refl _⟩, ⟨by (with_reducible repeat (first | apply Kd.R_alloc | apply Kd.R_drewN | apply Kd.R_drew)); exact HO107.out⟩, ⟨by (with_reducible repeat (first | apply Kd.S_alloc | apply Kd.S_drewN | apply Kd.S_drew)); exact Kd.S_mono HO115.out (fun _ hk => ⟨hk.1.2, hk.1.1.2⟩)⟩, ⟨by (with_reducible repeat (first | apply Kd.R_alloc | apply Kd.R_drewN | apply Kd.R_drew)); exact HO103.out⟩, ⟨by (with_reducible repeat (first | refine blk_drewN ?_ _ | refine blk_drew ?_ | refine blk_alloc ?_ _)); exact BK108.out⟩, ⟨by repeat (first | (with_reducible first | exact HB.out | apply below_alloc | apply pw_below_drewN | apply below_drew1 | refine below_set ?_ GE108.out) | exact HB.out)⟩⟩
            · replace c26 := Bool.eq_false_iff.mpr c26
              subst c26
              have H1 : (laws_FnQuorums.j0 k l1 t105 t109 t110 t113 t116 true t101 t104) = some r := by rw [if_neg (show ¬ (false = true) by decide)] at H; exact H
              clear H
              have H := H1
              clear H1
              have H' := Aside0.mk H
              clear H
              obtain ⟨Ao32, co32, eo32⟩ := Kd.S_slice HO115.out
              subst eo32
              obtain ⟨Ao33, co33, eo33⟩ := Kd.S_slice HO119.out
              subst eo33
              go_wp2_with (first | (go_at_call 35; (with_reducible refine (laws_sameLists.calls k _ _ t113 _ _ t117 false _ ?side1 ?side2 ?side3 ?side4 A25.out).mono ?_); (case side1 => repeat (first | exact (Kd.S_reads' HO115.out).2.2 | (with_reducible refine Kd.C_alloc ?_ _) | (with_reducible refine Kd.C_drewN ?_ _) | (with_reducible refine Kd.C_drew ?_))); (case side2 => exact (Kd.S_reads' HO115.out).2.1); (case side3 => repeat (first | exact (Kd.S_reads' HO119.out).2.2 | (with_reducible refine Kd.C_alloc ?_ _) | (with_reducible refine Kd.C_drewN ?_ _) | (with_reducible refine Kd.C_drew ?_))); (case side4 => exact (Kd.S_reads' HO119.out).2.1); rintro e w' ⟨rfl, ⟨nd, rfl⟩⟩))
              go_meet
              case rel => exact ⟨_, (true), (by first | rfl | (simp; done) | (simp [*]; done)), H', ⟨by first | omega | exact Nat.le_refl _⟩, ⟨by (with_reducible repeat (first | apply Kd.R_alloc | apply Kd.R_drewN | apply Kd.R_drew)); exact HO107.out⟩, ⟨by (with_reducible repeat (first | apply Kd.S_alloc | apply Kd.S_drewN | apply Kd.S_drew)); exact Kd.S_mono HO115.out (fun _ hk => ⟨hk.1.2, hk.1.1.2⟩)⟩, ⟨by (with_reducible repeat (first | apply Kd.R_alloc | apply Kd.R_drewN | apply Kd.R_drew)); exact HO103.out⟩, ⟨by (with_reducible repeat (first | refine blk_drewN ?_ _ | refine blk_drew ?_ | refine blk_alloc ?_ _)); exact BK108.out⟩, ⟨by repeat (first | (with_reducible first | exact HB.out | apply below_alloc | apply pw_below_drewN | apply below_drew1 | refine below_set ?_ GE108.out) | exact HB.out)⟩⟩
    case rest =>
      as_aux_lemma =>
        clear HC9
        try clear c1
        try clear c2
        try clear p2
        try clear c3
        try clear c3b0
        try clear p6
        try clear c8
        try clear c18
        try clear c20
        try clear c22
        try clear c22b0
        try clear c22b1
        try clear c22b2
        try clear c23
        try clear c23b0
        try clear c23b1
        try clear c23b2
        try clear c24
        try clear c24b0
        try clear c24b1
        try clear c24b2
        try clear c26
        try clear c32
        try clear c33
        try clear hcz13_0
        try clear hcz13_1
        try clear hcz16_0
        try clear hcz16_1
        try clear hcz18_0
        try clear hcz18_1
        try clear hcz20_0
        try clear hcz20_1
        try clear hcz30_0
        try clear hcz30_1
        try clear hfz13_0
        try clear hfz13_1
        try clear hfz16_0
        try clear hfz16_1
        try clear hfz18_0
        try clear hfz18_1
        try clear hfz20_0
        try clear hfz20_1
        try clear hfz30_0
        try clear hfz30_1
        obtain ⟨kq, x103_8, rfl, HA, HJ8, HO_6, HO_11, HO_109000, BK108, HB⟩ := hcut
        cases kq with
        | zero => exact absurd HA.out (by simp [laws_FnQuorums.j0])
        | succ kj8 =>
          have H := HA.out
          clear HA
          simp only [laws_FnQuorums.j0] at H
          by_cases c34 : x103_8 = true
          · subst c34
            have H1 : (some false) = some r := by rw [if_pos rfl] at H; exact H
            clear H
            have H := H1
            clear H1
            obtain rfl := Option.some.inj H
            go_wp2
            go_ret
            exact ⟨by first | rfl | (simp [errW_none, errW_some] <;> rfl) | (simp [*, errW_none, errW_some] <;> rfl), by repeat (first | (with_reducible first | exact HB.out | apply below_alloc | apply pw_below_drewN | apply below_drew1 | refine below_set ?_ GE108.out) | exact HB.out)⟩
          · replace c34 := Bool.eq_false_iff.mpr c34
            subst c34
            have H1 : (if t116 = true then (laws_FnQuorums.l0 kj8 l1 t105 t109 t110 t113 0 t101 (t101.length : Int) 0 t101 t104) else (laws_FnQuorums.j5 kj8 l1)) = some r := by rw [if_neg (show ¬ (false = true) by decide)] at H; exact H
            clear H
            have H := H1
            clear H1
            have HC35 := Aside0.mk H
            clear H
            go_upto_if 104 with (fail)
            go_cut [] (fun wc => ∃ (kq : Nat), Aside0 (laws_FnQuorums.j5 kq l1 = some r) ∧ Aside0 (kq ≤ kj8) ∧ Aside0 (Kd.R (Kd.int .i64) 3 wc w.heap.size (fun _ => True) (.slice Ao12 t101.length co12) t101) ∧ Aside0 (wc.heap[gb108]? = some (.cells #[(.slice Ao12 t101.length co12), .int .i64 t104] 38 (0, 0))) ∧ Aside0 (Below w.heap.size w wc))
            case first =>
              have H := HC35.out
              clear HC35
              by_cases c36 : t116 = true
              · subst c36
                have H1 : (laws_FnQuorums.l0 kj8 l1 t105 t109 t110 t113 0 t101 (t101.length : Int) 0 t101 t104) = some r := by rw [if_pos rfl] at H; exact H
                clear H
                have H := H1
                clear H1
                have H' := Aside0.mk H
                clear H
                have hcz37_0 : wc.cell? ⟨gb108, 0, none⟩ = some (.slice Ao12 t101.length co12) := (blk_cell BK108.out 0).trans rfl
                have hcz37_1 : wc.cell? ⟨gb108, 1, none⟩ = some (.int .i64 t104) := (blk_cell BK108.out 1).trans rfl
                have hfz37_0 := blk_frozen BK108.out 0
                have hfz37_1 := blk_frozen BK108.out 1
                go_wp2
                go_loopg [15, 108] kj8 (fun kq v15 v108 w' => ∃ (x15_2 : Int) (x108_2 : Int), v15 = .int .i64 x15_2 ∧ v108 = .int .i64 x108_2 ∧ Aside0 (laws_FnQuorums.l0 kq l1 t105 t109 t110 t113 x15_2 t101 (t101.length : Int) x108_2 t101 t104 = some r) ∧ Aside0 (kq ≤ kj8) ∧ Aside0 (Kd.R (Kd.int .i64) 3 w' w.heap.size (fun k_ => some k_ ≠ ((.slice Ao12 t101.length co12) : Value).ownBlock ∧ some k_ ≠ ((.slice Ao12 t101.length co12) : Value).ownBlock) (.slice Ao14 t105.length co14) t105) ∧ Aside0 (Kd.S (Kd.slice 3 (Kd.int .i64)) 31 w' w.heap.size (fun k_ => some k_ ≠ ((.slice Ao14 t105.length co14) : Value).ownBlock ∧ some k_ ≠ ((.slice Ao12 t101.length co12) : Value).ownBlock ∧ some k_ ≠ ((.slice Ao12 t101.length co12) : Value).ownBlock) v114 t113) ∧ Aside0 (Kd.R (Kd.int .i64) 3 w' w.heap.size (fun k_ => some k_ ≠ ((.slice Ao14 t105.length co14) : Value).ownBlock) (.slice Ao12 t101.length co12) t101) ∧ Aside0 (Kd.R (Kd.int .i64) 3 w' w.heap.size (fun k_ => some k_ ≠ ((.slice Ao14 t105.length co14) : Value).ownBlock) (.slice Ao12 t101.length co12) t101) ∧ Aside0 (w'.heap[gb108]? = some (.cells #[(.slice Ao12 t101.length co12), .int .i64 t104] 38 (0, 0))) ∧ Aside0 (Below w.heap.size w w'))
                case atStart => exact ⟨(0), (0), (by first | rfl | (simp; done) | (simp [*]; done)), (by first | rfl | (simp; done) | (simp [*]; done)), H', ⟨Nat.le_refl _⟩, ⟨by (with_reducible repeat (first | apply Kd.R_alloc | apply Kd.R_drewN | apply Kd.R_drew)); exact Kd.R_mono HO_6.out (fun _ hk => ⟨hk, hk⟩)⟩, ⟨by (with_reducible repeat (first | apply Kd.S_alloc | apply Kd.S_drewN | apply Kd.S_drew)); exact Kd.S_mono HO_11.out (fun _ hk => ⟨hk.1, ⟨hk.2, hk.2⟩⟩)⟩, ⟨by (with_reducible repeat (first | apply Kd.R_alloc | apply Kd.R_drewN | apply Kd.R_drew)); exact HO_109000.out⟩, ⟨by (with_reducible repeat (first | apply Kd.R_alloc | apply Kd.R_drewN | apply Kd.R_drew)); exact HO_109000.out⟩, ⟨by (with_reducible repeat (first | refine blk_drewN ?_ _ | refine blk_drew ?_ | refine blk_alloc ?_ _)); exact BK108.out⟩, ⟨by repeat (first | (with_reducible first | exact HB.out | apply below_alloc | apply pw_below_drewN | apply below_drew1 | refine below_set ?_ GE108.out) | exact HB.out)⟩⟩
                case round =>
                  as_aux_lemma =>
                    clear H'
                    try clear c1
                    try clear c2
                    try clear p2
                    try clear c3
                    try clear c3b0
                    try clear p6
                    try clear c8
                    try clear c18
                    try clear c20
                    try clear c22
                    try clear c22b0
                    try clear c22b1
                    try clear c22b2
                    try clear c23
                    try clear c23b0
                    try clear c23b1
                    try clear c23b2
                    try clear c24
                    try clear c24b0
                    try clear c24b1
                    try clear c24b2
                    try clear c26
                    try clear c32
                    try clear c33
                    try clear c34
                    try clear c36
                    try clear hcz13_0
                    try clear hcz13_1
                    try clear hcz16_0
                    try clear hcz16_1
                    try clear hcz18_0
                    try clear hcz18_1
                    try clear hcz20_0
                    try clear hcz20_1
                    try clear hcz30_0
                    try clear hcz30_1
                    try clear hcz37_0
                    try clear hcz37_1
                    try clear hfz13_0
                    try clear hfz13_1
                    try clear hfz16_0
                    try clear hfz16_1
                    try clear hfz18_0
                    try clear hfz18_1
                    try clear hfz20_0
                    try clear hfz20_1
                    try clear hfz30_0
                    try clear hfz30_1
                    try clear hfz37_0
                    try clear hfz37_1
                    try clear p2
                    try clear p6
                    obtain ⟨x15_2, x108_2, rfl, rfl, HA, HK2, HO_6, HO_11, HO_106, HO_109000, BK108, HB⟩ := hrel
                    cases gk with
                    | zero => exact absurd HA.out (by simp [laws_FnQuorums.l0])
                    | succ k2 =>
                      have H := HA.out
                      clear HA
                      simp only [laws_FnQuorums.l0] at H
                      by_cases c38 : x108_2 < (t101.length : Int)
                      · rw [if_pos c38] at H
                        have c38b0 : decide (x108_2 < (t101.length : Int)) = true := decide_eq_true c38
                        clear c38
                        (first | rw [c38b0] | (simp only [i64_w, i32_w]; rw [c38b0]) | skip)
                        by_cases c39 : 0 ≤ x108_2
                        · rw [if_pos c39] at H
                          have c39b0 : decide (0 ≤ x108_2) = true := decide_eq_true c39
                          clear c39
                          by_cases c40 : x108_2 < (t101.length : Int)
                          · rw [if_pos c40] at H
                            have c40b0 : decide (x108_2 < (t101.length : Int)) = true := decide_eq_true c40
                            clear c40
                            have H' := Aside0.mk H
                            clear H
                            have p123 : 0 ≤ (x108_2 : Int) := of_decide_eq_true (by first | (with_reducible assumption) | assumption)
                            have q123 : x108_2 < (t101.length : Int) := of_decide_eq_true (by first | (with_reducible assumption) | assumption)
                            obtain ⟨ad123, e123, hx123_0⟩ := Kd.at_int (Kd.R_reads' HO_106.out).2.2 x108_2 p123 q123
                            cases e123
                            replace p123 := eq_true p123
                            replace q123 := eq_true q123
                            go_wp2
                            go_roundg k2
                            case measure => have := HJ8.out; have := HK2.out; omega
                            case rel => exact ⟨(wrap64 (x15_2 + (rd t101 x108_2))), (wrap64 (x108_2 + 1)), (by first | rfl | (simp; done) | (simp [*]; done)), (by first | rfl | (simp; done) | (simp [*]; done)), H', ⟨by have := HJ8.out; have := HK2.out; omega⟩, ⟨by (with_reducible repeat (first | apply Kd.R_alloc | apply Kd.R_drewN | apply Kd.R_drew)); exact HO_6.out⟩, ⟨by (with_reducible repeat (first | apply Kd.S_alloc | apply Kd.S_drewN | apply Kd.S_drew)); exact HO_11.out⟩, ⟨by (with_reducible repeat (first | apply Kd.R_alloc | apply Kd.R_drewN | apply Kd.R_drew)); exact HO_106.out⟩, ⟨by (with_reducible repeat (first | apply Kd.R_alloc | apply Kd.R_drewN | apply Kd.R_drew)); exact HO_109000.out⟩, ⟨by (with_reducible repeat (first | refine blk_drewN ?_ _ | refine blk_drew ?_ | refine blk_alloc ?_ _)); exact BK108.out⟩, ⟨by repeat (first | (with_reducible first | exact HB.out | apply below_alloc | apply pw_below_drewN | apply below_drew1 | refine below_set ?_ GE108.out) | exact HB.out)⟩⟩
                          · rw [if_neg c40] at H
                            exact absurd H (by simp)
                        · rw [if_neg c39] at H
                          exact absurd H (by simp)
                      · rw [if_neg c38] at H
                        have c38b0 : decide (x108_2 < (t101.length : Int)) = false := decide_eq_false c38
                        clear c38
                        (first | rw [c38b0] | (simp only [i64_w, i32_w]; rw [c38b0]) | skip)
                        replace H := Option.bind_eq_some_iff.mp H
                        obtain ⟨⟨t124, t125⟩, A410, H⟩ := H
                        replace H : (if t125 = true then (if (wrap64 (2 * t104)) > x15_2 then (laws_FnQuorums.j2 k2 l1 t105 t109 t110 t113 (!t124) t101 t104) else (laws_FnQuorums.j2 k2 l1 t105 t109 t110 t113 false t101 t104)) else (laws_FnQuorums.j2 k2 l1 t105 t109 t110 t113 false t101 t104)) = some r := H
                        have A41 := Aside0.mk A410
                        clear A410
                        have HC42 := Aside0.mk H
                        clear H
                        obtain ⟨Ao43, co43, eo43⟩ := Kd.S_slice HO_11.out
                        subst eo43
                        go_upto_region 18 with (first | ((with_reducible refine gate_callee (f := 37) rfl ?_); refine goesL_ (some 118) rfl rfl Try.func37 (by kernel_rfl) rfl #[.slice Ao43 t113.length co43] rfl (by (try simp only [List.map_toArray, List.map_cons, List.map_nil]); first | done | rfl | (simp only [List.length_drop, List.length_take]; rfl)) ?_; (with_reducible refine (impl_AllMeet.calls k2 _ _ t113 t124 t125 _ ?side1 ?side2 A41.out).mono ?_); (case side1 => repeat (first | exact (Kd.S_reads' HO_11.out).2.2 | (with_reducible refine Kd.C_alloc ?_ _) | (with_reducible refine Kd.C_drewN ?_ _) | (with_reducible refine Kd.C_drew ?_))); (case side2 => exact (Kd.S_reads' HO_11.out).2.1); rintro e w44 ⟨rfl, hb⟩; refine ⟨_, rfl, ?_⟩; have n0_ := Aside0.mk (Kd.R_below (by (with_reducible repeat (first | apply Kd.R_alloc | apply Kd.R_drewN | apply Kd.R_drew)); exact HO_6.out) hb); have n1_ := Aside0.mk (Kd.S_below (by (with_reducible repeat (first | apply Kd.S_alloc | apply Kd.S_drewN | apply Kd.S_drew)); exact HO_11.out) hb); have n2_ := Aside0.mk (Kd.R_below (by (with_reducible repeat (first | apply Kd.R_alloc | apply Kd.R_drewN | apply Kd.R_drew)); exact HO_106.out) hb); have n3_ := Aside0.mk (Kd.R_below (by (with_reducible repeat (first | apply Kd.R_alloc | apply Kd.R_drewN | apply Kd.R_drew)); exact HO_109000.out) hb); have n4_ := Aside0.mk (blk_below (g := gb108) (o := .cells #[.slice Ao12 t101.length co12, .int .i64 t104] 38 (0, 0)) (by (with_reducible repeat (first | refine blk_drewN ?_ _ | refine blk_drew ?_ | refine blk_alloc ?_ _)); exact BK108.out) hb); have n5_ := Aside0.mk (below_step (by repeat (first | (with_reducible first | exact HB.out | apply below_alloc | apply pw_below_drewN | apply below_drew1 | refine below_set ?_ GE108.out) | exact HB.out)) hb); clear HO_6; clear HO_11; clear HO_106; clear HO_109000; clear BK108; clear HB; have HO_6 := n0_; have HO_11 := n1_; have HO_106 := n2_; have HO_109000 := n3_; have BK108 := n4_; have HB := n5_; clear n0_ n1_ n2_ n3_ n4_ n5_; (try clear hb); (try clear hb2); (try clear hk); (try clear hi)))
                        (try simp only [Act.put, List.setIfInBounds_toArray, List.set_cons_zero, List.set_cons_succ])
                        go_cut [132] (fun v132 wc => ∃ (kq : Nat) (x132_41 : Bool), v132 = .bool x132_41 ∧ Aside0 (laws_FnQuorums.j2 kq l1 t105 t109 t110 t113 x132_41 t101 t104 = some r) ∧ Aside0 (kq ≤ k2) ∧ Aside0 (Kd.R (Kd.int .i64) 3 wc w.heap.size (fun k_ => some k_ ≠ ((.slice Ao12 t101.length co12) : Value).ownBlock) (.slice Ao14 t105.length co14) t105) ∧ Aside0 (Kd.S (Kd.slice 3 (Kd.int .i64)) 31 wc w.heap.size (fun k_ => some k_ ≠ ((.slice Ao14 t105.length co14) : Value).ownBlock ∧ some k_ ≠ ((.slice Ao12 t101.length co12) : Value).ownBlock) (.slice Ao43 t113.length co43) t113) ∧ Aside0 (Kd.R (Kd.int .i64) 3 wc w.heap.size (fun k_ => some k_ ≠ ((.slice Ao14 t105.length co14) : Value).ownBlock) (.slice Ao12 t101.length co12) t101) ∧ Aside0 (wc.heap[gb108]? = some (.cells #[(.slice Ao12 t101.length co12), .int .i64 t104] 38 (0, 0))) ∧ Aside0 (Below w.heap.size w wc))
                        case first =>
                          have H := HC42.out
                          clear HC42
                          by_cases c45 : t125 = true
                          · subst c45
                            have H1 : (if (wrap64 (2 * t104)) > x15_2 then (laws_FnQuorums.j2 k2 l1 t105 t109 t110 t113 (!t124) t101 t104) else (laws_FnQuorums.j2 k2 l1 t105 t109 t110 t113 false t101 t104)) = some r := by rw [if_pos rfl] at H; exact H
                            clear H
                            have H := H1
                            clear H1
                            by_cases c46 : (wrap64 (2 * t104)) > x15_2
                            · rw [if_pos c46] at H
                              have c46b0 : decide (x15_2 < (wrap64 (2 * t104))) = true := decide_eq_true c46
                              clear c46
                              (first | rw [c46b0] | (simp only [i64_w, i32_w]; rw [c46b0]) | skip)
                              have H' := Aside0.mk H
                              clear H
                              have hcz47_0 : w44.cell? ⟨gb108, 0, none⟩ = some (.slice Ao12 t101.length co12) := (blk_cell BK108.out 0).trans rfl
                              have hcz47_1 : w44.cell? ⟨gb108, 1, none⟩ = some (.int .i64 t104) := (blk_cell BK108.out 1).trans rfl
                              have hfz47_0 := blk_frozen BK108.out 0
                              have hfz47_1 := blk_frozen BK108.out 1
                              go_wp2
                              go_meet
                              case rel => exact ⟨_, (!t124), (by first | rfl | (simp; done) | (simp [*]; done)), H', ⟨by have := HJ8.out; have := HK2.out; first | omega | exact Nat.le_refl _⟩, ⟨by (with_reducible repeat (first | apply Kd.R_alloc | apply Kd.R_drewN | apply Kd.R_drew)); exact Kd.R_mono HO_6.out (fun _ hk => hk.2)⟩, ⟨by (with_reducible repeat (first | apply Kd.S_alloc | apply Kd.S_drewN | apply Kd.S_drew)); exact Kd.S_mono HO_11.out (fun _ hk => ⟨hk.1, hk.2.2⟩)⟩, ⟨by (with_reducible repeat (first | apply Kd.R_alloc | apply Kd.R_drewN | apply Kd.R_drew)); exact HO_109000.out⟩, ⟨by (with_reducible repeat (first | refine blk_drewN ?_ _ | refine blk_drew ?_ | refine blk_alloc ?_ _)); exact BK108.out⟩, ⟨by repeat (first | (with_reducible first | exact HB.out | apply below_alloc | apply pw_below_drewN | apply below_drew1 | refine below_set ?_ GE108.out) | exact HB.out)⟩⟩
                            · rw [if_neg c46] at H
                              have c46b0 : decide (x15_2 < (wrap64 (2 * t104))) = false := decide_eq_false c46
                              clear c46
                              (first | rw [c46b0] | (simp only [i64_w, i32_w]; rw [c46b0]) | skip)
                              have H' := Aside0.mk H
                              clear H
                              have hcz48_0 : w44.cell? ⟨gb108, 0, none⟩ = some (.slice Ao12 t101.length co12) := (blk_cell BK108.out 0).trans rfl
                              have hcz48_1 : w44.cell? ⟨gb108, 1, none⟩ = some (.int .i64 t104) := (blk_cell BK108.out 1).trans rfl
                              have hfz48_0 := blk_frozen BK108.out 0
                              have hfz48_1 := blk_frozen BK108.out 1
                              go_wp2
                              go_meet
                              case rel => exact ⟨_, (false), (by first | rfl | (simp; done) | (simp [*]; done)), H', ⟨by have := HJ8.out; have := HK2.out; first | omega | exact Nat.le_refl _⟩, ⟨by (with_reducible repeat (first | apply Kd.R_alloc | apply Kd.R_drewN | apply Kd.R_drew)); exact Kd.R_mono HO_6.out (fun _ hk => hk.2)⟩, ⟨by (with_reducible repeat (first | apply Kd.S_alloc | apply Kd.S_drewN | apply Kd.S_drew)); exact Kd.S_mono HO_11.out (fun _ hk => ⟨hk.1, hk.2.2⟩)⟩, ⟨by (with_reducible repeat (first | apply Kd.R_alloc | apply Kd.R_drewN | apply Kd.R_drew)); exact HO_109000.out⟩, ⟨by (with_reducible repeat (first | refine blk_drewN ?_ _ | refine blk_drew ?_ | refine blk_alloc ?_ _)); exact BK108.out⟩, ⟨by repeat (first | (with_reducible first | exact HB.out | apply below_alloc | apply pw_below_drewN | apply below_drew1 | refine below_set ?_ GE108.out) | exact HB.out)⟩⟩
                          · replace c45 := Bool.eq_false_iff.mpr c45
                            subst c45
                            have H1 : (laws_FnQuorums.j2 k2 l1 t105 t109 t110 t113 false t101 t104) = some r := by rw [if_neg (show ¬ (false = true) by decide)] at H; exact H
                            clear H
                            have H := H1
                            clear H1
                            have H' := Aside0.mk H
                            clear H
                            go_wp2
                            go_meet
                            case rel => exact ⟨_, (false), (by first | rfl | (simp; done) | (simp [*]; done)), H', ⟨by have := HJ8.out; have := HK2.out; first | omega | exact Nat.le_refl _⟩, ⟨by (with_reducible repeat (first | apply Kd.R_alloc | apply Kd.R_drewN | apply Kd.R_drew)); exact Kd.R_mono HO_6.out (fun _ hk => hk.2)⟩, ⟨by (with_reducible repeat (first | apply Kd.S_alloc | apply Kd.S_drewN | apply Kd.S_drew)); exact Kd.S_mono HO_11.out (fun _ hk => ⟨hk.1, hk.2.2⟩)⟩, ⟨by (with_reducible repeat (first | apply Kd.R_alloc | apply Kd.R_drewN | apply Kd.R_drew)); exact HO_109000.out⟩, ⟨by (with_reducible repeat (first | refine blk_drewN ?_ _ | refine blk_drew ?_ | refine blk_alloc ?_ _)); exact BK108.out⟩, ⟨by repeat (first | (with_reducible first | exact HB.out | apply below_alloc | apply pw_below_drewN | apply below_drew1 | refine below_set ?_ GE108.out) | exact HB.out)⟩⟩
                        case rest =>
                          as_aux_lemma =>
                            clear HC42
                            try clear c1
                            try clear p1
                            try clear q1
                            try clear hx1
                            try clear c2
                            try clear p2
                            try clear c3
                            try clear c3b0
                            try clear c4
                            try clear p6
                            try clear c8
                            try clear p12
                            try clear q12
                            try clear hx12
                            try clear c18
                            try clear c20
                            try clear c22
                            try clear c22b0
                            try clear c22b1
                            try clear c22b2
                            try clear c23
                            try clear c23b0
                            try clear c23b1
                            try clear c23b2
                            try clear c24
                            try clear c24b0
                            try clear c24b1
                            try clear c24b2
                            try clear c26
                            try clear c32
                            try clear c33
                            try clear c34
                            try clear c36
                            try clear c37
                            try clear c38
                            try clear c38b0
                            try clear c39
                            try clear c39b0
                            try clear c40
                            try clear c40b0
                            try clear c45
                            try clear c46
                            try clear c46b0
                            try clear hcz13_0
                            try clear hcz13_1
                            try clear hcz16_0
                            try clear hcz16_1
                            try clear hcz18_0
                            try clear hcz18_1
                            try clear hcz20_0
                            try clear hcz20_1
                            try clear hcz30_0
                            try clear hcz30_1
                            try clear hcz37_0
                            try clear hcz37_1
                            try clear hcz47_0
                            try clear hcz47_1
                            try clear hcz48_0
                            try clear hcz48_1
                            try clear hfz13_0
                            try clear hfz13_1
                            try clear hfz16_0
                            try clear hfz16_1
                            try clear hfz18_0
                            try clear hfz18_1
                            try clear hfz20_0
                            try clear hfz20_1
                            try clear hfz30_0
                            try clear hfz30_1
                            try clear hfz37_0
                            try clear hfz37_1
                            try clear hfz47_0
                            try clear hfz47_1
                            try clear hfz48_0
                            try clear hfz48_1
                            try clear hx123_0
                            try clear p123
                            try clear p2
                            try clear p6
                            try clear q123
                            obtain ⟨kq, x132_41, rfl, HA, HJ41, HO_6, HO_11, HO_109000, BK108, HB⟩ := hcut
                            cases kq with
                            | zero => exact absurd HA.out (by simp [laws_FnQuorums.j2])
                            | succ kj41 =>
                              have H := HA.out
                              clear HA
                              simp only [laws_FnQuorums.j2] at H
                              by_cases c49 : x132_41 = true
                              · subst c49
                                have H1 : (some false) = some r := by rw [if_pos rfl] at H; exact H
                                clear H
                                have H := H1
                                clear H1
                                obtain rfl := Option.some.inj H
                                go_wp2
                                go_ret
                                exact ⟨by first | rfl | (simp [errW_none, errW_some] <;> rfl) | (simp [*, errW_none, errW_some] <;> rfl), by repeat (first | (with_reducible first | exact HB.out | apply below_alloc | apply pw_below_drewN | apply below_drew1 | refine below_set ?_ GE108.out) | exact HB.out)⟩
                              · replace c49 := Bool.eq_false_iff.mpr c49
                                subst c49
                                have H1 : (laws_FnQuorums.l1 kj41 l1 t105 t109 t110 t113 false (t113.length : Int) 0 t101 t104) = some r := by rw [if_neg (show ¬ (false = true) by decide)] at H; exact H
                                clear H
                                have H := H1
                                clear H1
                                have H' := Aside0.mk H
                                clear H
                                go_wp2
                                go_loopg [20, 135] kj41 (fun kq v20 v135 w' => ∃ (x20_4 : Bool) (x135_4 : Int), v20 = .bool x20_4 ∧ v135 = .int .i64 x135_4 ∧ Aside0 (laws_FnQuorums.l1 kq l1 t105 t109 t110 t113 x20_4 (t113.length : Int) x135_4 t101 t104 = some r) ∧ Aside0 (kq ≤ kj41) ∧ Aside0 (Kd.R (Kd.int .i64) 3 w' w.heap.size (fun k_ => some k_ ≠ ((.slice Ao12 t101.length co12) : Value).ownBlock) (.slice Ao14 t105.length co14) t105) ∧ Aside0 (Kd.S (Kd.slice 3 (Kd.int .i64)) 31 w' w.heap.size (fun k_ => some k_ ≠ ((.slice Ao14 t105.length co14) : Value).ownBlock ∧ some k_ ≠ ((.slice Ao12 t101.length co12) : Value).ownBlock) (.slice Ao43 t113.length co43) t113) ∧ Aside0 (Kd.R (Kd.int .i64) 3 w' w.heap.size (fun k_ => some k_ ≠ ((.slice Ao14 t105.length co14) : Value).ownBlock) (.slice Ao12 t101.length co12) t101) ∧ Aside0 (w'.heap[gb108]? = some (.cells #[(.slice Ao12 t101.length co12), .int .i64 t104] 38 (0, 0))) ∧ Aside0 (Below w.heap.size w w'))
                                case atStart => exact ⟨(false), (0), (by first | rfl | (simp; done) | (simp [*]; done)), (by first | rfl | (simp; done) | (simp [*]; done)), H', ⟨Nat.le_refl _⟩, ⟨by (with_reducible repeat (first | apply Kd.R_alloc | apply Kd.R_drewN | apply Kd.R_drew)); exact HO_6.out⟩, ⟨by (with_reducible repeat (first | apply Kd.S_alloc | apply Kd.S_drewN | apply Kd.S_drew)); exact HO_11.out⟩, ⟨by (with_reducible repeat (first | apply Kd.R_alloc | apply Kd.R_drewN | apply Kd.R_drew)); exact HO_109000.out⟩, ⟨by (with_reducible repeat (first | refine blk_drewN ?_ _ | refine blk_drew ?_ | refine blk_alloc ?_ _)); exact BK108.out⟩, ⟨by repeat (first | (with_reducible first | exact HB.out | apply below_alloc | apply pw_below_drewN | apply below_drew1 | refine below_set ?_ GE108.out) | exact HB.out)⟩⟩
                                case round =>
                                  as_aux_lemma =>
                                    clear H'
                                    try clear c1
                                    try clear p1
                                    try clear q1
                                    try clear hx1
                                    try clear c2
                                    try clear p2
                                    try clear c3
                                    try clear c3b0
                                    try clear c4
                                    try clear p6
                                    try clear c8
                                    try clear p12
                                    try clear q12
                                    try clear hx12
                                    try clear c18
                                    try clear c20
                                    try clear c22
                                    try clear c22b0
                                    try clear c22b1
                                    try clear c22b2
                                    try clear c23
                                    try clear c23b0
                                    try clear c23b1
                                    try clear c23b2
                                    try clear c24
                                    try clear c24b0
                                    try clear c24b1
                                    try clear c24b2
                                    try clear c26
                                    try clear c32
                                    try clear c33
                                    try clear c34
                                    try clear c36
                                    try clear c37
                                    try clear c38
                                    try clear c38b0
                                    try clear c39
                                    try clear c39b0
                                    try clear c40
                                    try clear c40b0
                                    try clear c45
                                    try clear c46
                                    try clear c46b0
                                    try clear c49
                                    try clear hcz13_0
                                    try clear hcz13_1
                                    try clear hcz16_0
                                    try clear hcz16_1
                                    try clear hcz18_0
                                    try clear hcz18_1
                                    try clear hcz20_0
                                    try clear hcz20_1
                                    try clear hcz30_0
                                    try clear hcz30_1
                                    try clear hcz37_0
                                    try clear hcz37_1
                                    try clear hcz47_0
                                    try clear hcz47_1
                                    try clear hcz48_0
                                    try clear hcz48_1
                                    try clear hfz13_0
                                    try clear hfz13_1
                                    try clear hfz16_0
                                    try clear hfz16_1
                                    try clear hfz18_0
                                    try clear hfz18_1
                                    try clear hfz20_0
                                    try clear hfz20_1
                                    try clear hfz30_0
                                    try clear hfz30_1
                                    try clear hfz37_0
                                    try clear hfz37_1
                                    try clear hfz47_0
                                    try clear hfz47_1
                                    try clear hfz48_0
                                    try clear hfz48_1
                                    try clear hx123_0
                                    try clear p1
                                    try clear p12
                                    try clear p123
                                    try clear p2
                                    try clear p6
                                    try clear q1
                                    try clear q12
                                    try clear q123
                                    obtain ⟨x20_4, x135_4, rfl, rfl, HA, HK4, HO_6, HO_11, HO_109000, BK108, HB⟩ := hrel
                                    cases gk with
                                    | zero => exact absurd HA.out (by simp [laws_FnQuorums.l1])
                                    | succ k4 =>
                                      have H := HA.out
                                      clear HA
                                      simp only [laws_FnQuorums.l1] at H
                                      by_cases c50 : x135_4 < (t113.length : Int)
                                      · rw [if_pos c50] at H
                                        have c50b0 : decide (x135_4 < (t113.length : Int)) = true := decide_eq_true c50
                                        clear c50
                                        by_cases c51 : 0 ≤ x135_4
                                        · rw [if_pos c51] at H
                                          have c51b0 : decide (0 ≤ x135_4) = true := decide_eq_true c51
                                          clear c51
                                          by_cases c52 : x135_4 < (t113.length : Int)
                                          · rw [if_pos c52] at H
                                            have c52b0 : decide (x135_4 < (t113.length : Int)) = true := decide_eq_true c52
                                            clear c52
                                            replace H := Option.bind_eq_some_iff.mp H
                                            obtain ⟨⟨t127, t128⟩, A530, H⟩ := H
                                            replace H : (laws_FnQuorums.l2 k4 l1 t105 t109 t110 t113 x20_4 t127 t128 true (t113.length : Int) x135_4 (rd_L1 t113 x135_4) ((rd_L1 t113 x135_4).length : Int) 0 t101 t104) = some r := H
                                            have A53 := Aside0.mk A530
                                            clear A530
                                            have H' := Aside0.mk H
                                            clear H
                                            have p126 : 0 ≤ (x135_4 : Int) := of_decide_eq_true (by first | (with_reducible assumption) | assumption)
                                            have q126 : x135_4 < (t113.length : Int) := of_decide_eq_true (by first | (with_reducible assumption) | assumption)
                                            obtain ⟨ad126, A126_0, c126_0, e126, hx126_0, hl126_0, hi126_0⟩ := at_L1 (Kd.S_reads' HO_11.out).2.2 x135_4 p126 q126
                                            cases e126
                                            obtain ⟨ce126, hce126, hMe126, hcc126⟩ := Kd.S_get HO_11.out [] x135_4 p126 (by first | exact q126 | exact of_decide_eq_true (by first | (with_reducible assumption) | assumption) | (have e_ := (Kd.S_reads' HO_11.out).1; omega))
                                            obtain ⟨ve126_0, rfl, ge126_0⟩ := hMe126
                                            have hv126_0 := hcc126 0 _ rfl
                                            rw [Nat.add_zero, show ((Kd.slice 3 (Kd.int .i64))).sz = 1 from rfl, Nat.mul_one] at hv126_0
                                            replace hv126_0 := Option.some.inj (hv126_0.symm.trans hx126_0)
                                            rw [hv126_0] at ge126_0
                                            have HL126_0 := Aside0.mk (show Kd.R (Kd.int .i64) 3 _ _ _ _ (rd_L1 t113 x135_4) from ge126_0)
                                            clear hv126_0 ge126_0
                                            clear hcc126 hce126
                                            have HR126_0 := Aside0.mk hi126_0
                                            have HC126_0 := Aside0.mk hl126_0
                                            clear hi126_0 hl126_0
                                            replace p126 := eq_true p126
                                            replace q126 := eq_true q126
                                            have hcz54_0 : wr.cell? ⟨gb108, 0, none⟩ = some (.slice Ao12 t101.length co12) := (blk_cell BK108.out 0).trans rfl
                                            have hcz54_1 : wr.cell? ⟨gb108, 1, none⟩ = some (.int .i64 t104) := (blk_cell BK108.out 1).trans rfl
                                            have hfz54_0 := blk_frozen BK108.out 0
                                            have hfz54_1 := blk_frozen BK108.out 1
                                            go_wp2_with (first | ((with_reducible refine gate_callee (f := 33) rfl ?_); refine goesL_ (some 142) rfl rfl Try.func33 (by kernel_rfl) rfl #[.agg #[.slice Ao12 t101.length co12, .int .i64 t104], .slice A126_0 (rd_L1 t113 x135_4).length c126_0] rfl (by (try simp only [List.map_toArray, List.map_cons, List.map_nil]); first | done | rfl | (simp only [List.length_drop, List.length_take]; rfl)) ?_; (with_reducible refine (impl_IsQuorum.calls k4 _ _ t101 t104 _ _ (rd_L1 t113 x135_4) t127 t128 _ ?side1 ?side2 ?side3 ?side4 A53.out).mono ?_); (case side1 => repeat (first | exact (Kd.R_reads' HO_109000.out).2.2 | (with_reducible refine Kd.C_alloc ?_ _) | (with_reducible refine Kd.C_drewN ?_ _) | (with_reducible refine Kd.C_drew ?_))); (case side2 => exact (Kd.R_reads' HO_109000.out).2.1); (case side3 => repeat (first | exact (by repeat (first | (with_reducible exact HR126_0.out) | (with_reducible refine Kd.C_alloc ?_ _) | (with_reducible refine Kd.C_drewN ?_ _) | (with_reducible refine Kd.C_drew ?_) | exact HR126_0.out)) | (with_reducible refine Kd.C_alloc ?_ _) | (with_reducible refine Kd.C_drewN ?_ _) | (with_reducible refine Kd.C_drew ?_))); (case side4 => exact HC126_0.out); rintro e w55 ⟨rfl, hb⟩; refine ⟨_, rfl, ?_⟩; have n0_ := Aside0.mk (Kd.R_below (by (with_reducible repeat (first | apply Kd.R_alloc | apply Kd.R_drewN | apply Kd.R_drew)); exact HO_6.out) hb); have n1_ := Aside0.mk (Kd.S_below (by (with_reducible repeat (first | apply Kd.S_alloc | apply Kd.S_drewN | apply Kd.S_drew)); exact HO_11.out) hb); have n2_ := Aside0.mk (Kd.R_below (by (with_reducible repeat (first | apply Kd.R_alloc | apply Kd.R_drewN | apply Kd.R_drew)); exact HO_109000.out) hb); have n3_ := Aside0.mk (Kd.R_below (by (with_reducible repeat (first | apply Kd.R_alloc | apply Kd.R_drewN | apply Kd.R_drew)); exact HL126_0.out) hb); have n4_ := Aside0.mk (blk_below (g := gb108) (o := .cells #[.slice Ao12 t101.length co12, .int .i64 t104] 38 (0, 0)) (by (with_reducible repeat (first | refine blk_drewN ?_ _ | refine blk_drew ?_ | refine blk_alloc ?_ _)); exact BK108.out) hb); have n5_ := Aside0.mk (Kd.C_below (by repeat (first | (with_reducible exact HR126_0.out) | (with_reducible refine Kd.C_alloc ?_ _) | (with_reducible refine Kd.C_drewN ?_ _) | (with_reducible refine Kd.C_drew ?_) | exact HR126_0.out)) hb); have n6_ := Aside0.mk (below_step (by repeat (first | (with_reducible first | exact HB.out | apply below_alloc | apply pw_below_drewN | apply below_drew1 | refine below_set ?_ GE108.out) | exact HB.out)) hb); clear HO_6; clear HO_11; clear HO_109000; clear HL126_0; clear BK108; clear HR126_0; clear HB; have HO_6 := n0_; have HO_11 := n1_; have HO_109000 := n2_; have HL126_0 := n3_; have BK108 := n4_; have HR126_0 := n5_; have HB := n6_; clear n0_ n1_ n2_ n3_ n4_ n5_ n6_; (try clear hb); (try clear hb2); (try clear hk); (try clear hi)))
                                            go_loopg [25, 147] k4 (fun kq v25 v147 w' => ∃ (x25_5 : Bool) (x147_5 : Int), v25 = .bool x25_5 ∧ v147 = .int .i64 x147_5 ∧ Aside0 (laws_FnQuorums.l2 kq l1 t105 t109 t110 t113 x20_4 t127 t128 x25_5 (t113.length : Int) x135_4 (rd_L1 t113 x135_4) ((rd_L1 t113 x135_4).length : Int) x147_5 t101 t104 = some r) ∧ Aside0 (kq ≤ k4) ∧ Aside0 (Kd.R (Kd.int .i64) 3 w' w.heap.size (fun k_ => some k_ ≠ ((.slice Ao12 t101.length co12) : Value).ownBlock) (.slice Ao14 t105.length co14) t105) ∧ Aside0 (Kd.S (Kd.slice 3 (Kd.int .i64)) 31 w' w.heap.size (fun k_ => some k_ ≠ ((.slice Ao14 t105.length co14) : Value).ownBlock ∧ some k_ ≠ ((.slice Ao12 t101.length co12) : Value).ownBlock) (.slice (some ad126) t113.length co43) t113) ∧ Aside0 (Kd.R (Kd.int .i64) 3 w' w.heap.size (fun k_ => some k_ ≠ ((.slice Ao14 t105.length co14) : Value).ownBlock) (.slice Ao12 t101.length co12) t101) ∧ Aside0 (w'.heap[gb108]? = some (.cells #[(.slice Ao12 t101.length co12), .int .i64 t104] 38 (0, 0))) ∧ Aside0 (Kd.C (Kd.int .i64) w' A126_0 (rd_L1 t113 x135_4).length (rd_L1 t113 x135_4)) ∧ Aside0 (Below w.heap.size w w'))
                                            case atStart => exact ⟨(true), (0), (by first | rfl | (simp; done) | (simp [*]; done)), (by first | rfl | (simp; done) | (simp [*]; done)), H', ⟨Nat.le_refl _⟩, ⟨by (with_reducible repeat (first | apply Kd.R_alloc | apply Kd.R_drewN | apply Kd.R_drew)); exact HO_6.out⟩, ⟨by (with_reducible repeat (first | apply Kd.S_alloc | apply Kd.S_drewN | apply Kd.S_drew)); exact HO_11.out⟩, ⟨by (with_reducible repeat (first | apply Kd.R_alloc | apply Kd.R_drewN | apply Kd.R_drew)); exact HO_109000.out⟩, ⟨by (with_reducible repeat (first | refine blk_drewN ?_ _ | refine blk_drew ?_ | refine blk_alloc ?_ _)); exact BK108.out⟩, ⟨by repeat (first | (with_reducible exact HR126_0.out) | (with_reducible refine Kd.C_alloc ?_ _) | (with_reducible refine Kd.C_drewN ?_ _) | (with_reducible refine Kd.C_drew ?_) | exact HR126_0.out)⟩, ⟨by repeat (first | (with_reducible first | exact HB.out | apply below_alloc | apply pw_below_drewN | apply below_drew1 | refine below_set ?_ GE108.out) | exact HB.out)⟩⟩
                                            case round =>
                                              as_aux_lemma =>
                                                clear H'
                                                try clear c1
                                                try clear p1
                                                try clear q1
                                                try clear hx1
                                                try clear c2
                                                try clear p2
                                                try clear c3
                                                try clear c3b0
                                                try clear c4
                                                try clear c5
                                                try clear p6
                                                try clear c8
                                                try clear c12
                                                try clear p12
                                                try clear q12
                                                try clear hx12
                                                try clear c18
                                                try clear c20
                                                try clear c22
                                                try clear c22b0
                                                try clear c22b1
                                                try clear c22b2
                                                try clear c23
                                                try clear c23b0
                                                try clear c23b1
                                                try clear c23b2
                                                try clear c24
                                                try clear c24b0
                                                try clear c24b1
                                                try clear c24b2
                                                try clear c26
                                                try clear c32
                                                try clear c33
                                                try clear c34
                                                try clear c36
                                                try clear c37
                                                try clear c38
                                                try clear c38b0
                                                try clear c39
                                                try clear c39b0
                                                try clear c40
                                                try clear c40b0
                                                try clear c45
                                                try clear c46
                                                try clear c46b0
                                                try clear c49
                                                try clear c50
                                                try clear c50b0
                                                try clear c51
                                                try clear c51b0
                                                try clear c52
                                                try clear c52b0
                                                try clear hcz13_0
                                                try clear hcz13_1
                                                try clear hcz16_0
                                                try clear hcz16_1
                                                try clear hcz18_0
                                                try clear hcz18_1
                                                try clear hcz20_0
                                                try clear hcz20_1
                                                try clear hcz30_0
                                                try clear hcz30_1
                                                try clear hcz37_0
                                                try clear hcz37_1
                                                try clear hcz47_0
                                                try clear hcz47_1
                                                try clear hcz48_0
                                                try clear hcz48_1
                                                try clear hcz54_0
                                                try clear hcz54_1
                                                try clear hfz13_0
                                                try clear hfz13_1
                                                try clear hfz16_0
                                                try clear hfz16_1
                                                try clear hfz18_0
                                                try clear hfz18_1
                                                try clear hfz20_0
                                                try clear hfz20_1
                                                try clear hfz30_0
                                                try clear hfz30_1
                                                try clear hfz37_0
                                                try clear hfz37_1
                                                try clear hfz47_0
                                                try clear hfz47_1
                                                try clear hfz48_0
                                                try clear hfz48_1
                                                try clear hfz54_0
                                                try clear hfz54_1
                                                try clear hx123_0
                                                try clear hx126_0
                                                try clear p1
                                                try clear p12
                                                try clear p123
                                                try clear p126
                                                try clear p2
                                                try clear p6
                                                try clear q1
                                                try clear q12
                                                try clear q123
                                                try clear q126
                                                obtain ⟨x25_5, x147_5, rfl, rfl, HA, HK5, HO_6, HO_11, HO_109000, BK108, HR126_0, HB⟩ := hrel
                                                cases gk with
                                                | zero => exact absurd HA.out (by simp [laws_FnQuorums.l2])
                                                | succ k5 =>
                                                  have H := HA.out
                                                  clear HA
                                                  simp only [laws_FnQuorums.l2] at H
                                                  by_cases c56 : x147_5 < ((rd_L1 t113 x135_4).length : Int)
                                                  · rw [if_pos c56] at H
                                                    have c56b0 : decide (x147_5 < ((rd_L1 t113 x135_4).length : Int)) = true := decide_eq_true c56
                                                    clear c56
                                                    by_cases c57 : 0 ≤ x147_5
                                                    · rw [if_pos c57] at H
                                                      have c57b0 : decide (0 ≤ x147_5) = true := decide_eq_true c57
                                                      clear c57
                                                      by_cases c58 : x147_5 < ((rd_L1 t113 x135_4).length : Int)
                                                      · rw [if_pos c58] at H
                                                        have c58b0 : decide (x147_5 < ((rd_L1 t113 x135_4).length : Int)) = true := decide_eq_true c58
                                                        clear c58
                                                        by_cases c59 : x25_5 = true
                                                        · subst c59
                                                          have H1 : ((laws_has.f k5 t105 (rd (rd_L1 t113 x135_4) x147_5)).bind fun t130 => (laws_FnQuorums.l2 k5 l1 t105 t109 t110 t113 x20_4 t127 t128 t130 (t113.length : Int) x135_4 (rd_L1 t113 x135_4) ((rd_L1 t113 x135_4).length : Int) (wrap64 (x147_5 + 1)) t101 t104)) = some r := by rw [if_pos rfl] at H; exact H
                                                          clear H
                                                          have H := H1
                                                          clear H1
                                                          replace H := Option.bind_eq_some_iff.mp H
                                                          obtain ⟨t130, A600, H⟩ := H
                                                          replace H : (laws_FnQuorums.l2 k5 l1 t105 t109 t110 t113 x20_4 t127 t128 t130 (t113.length : Int) x135_4 (rd_L1 t113 x135_4) ((rd_L1 t113 x135_4).length : Int) (wrap64 (x147_5 + 1)) t101 t104) = some r := H
                                                          have A60 := Aside0.mk A600
                                                          clear A600
                                                          have H' := Aside0.mk H
                                                          clear H
                                                          have p129 : 0 ≤ (x147_5 : Int) := of_decide_eq_true (by first | (with_reducible assumption) | assumption)
                                                          have q129 : x147_5 < ((rd_L1 t113 x135_4).length : Int) := of_decide_eq_true (by first | (with_reducible assumption) | assumption)
                                                          obtain ⟨ad129, e129, hx129_0⟩ := Kd.at_int HR126_0.out x147_5 p129 q129
                                                          cases e129
                                                          replace p129 := eq_true p129
                                                          replace q129 := eq_true q129
                                                          go_wp2_with (first | (go_at_call 38; (with_reducible refine (laws_has.calls k5 _ _ t105 (rd (rd_L1 t113 x135_4) x147_5) t130 _ ?side1 ?side2 A60.out).mono ?_); (case side1 => repeat (first | exact (Kd.R_reads' HO_6.out).2.2 | (with_reducible refine Kd.C_alloc ?_ _) | (with_reducible refine Kd.C_drewN ?_ _) | (with_reducible refine Kd.C_drew ?_))); (case side2 => exact (Kd.R_reads' HO_6.out).2.1); rintro e w' ⟨rfl, ⟨nd, rfl⟩⟩))
                                                          go_roundg k5
                                                          case measure => have := HJ8.out; have := HK2.out; have := HJ41.out; have := HK4.out; have := HK5.out; omega
                                                          case rel => exact ⟨(t130), (wrap64 (x147_5 + 1)), (by first | rfl | (simp; done) | (simp [*]; done)), (by first | rfl | (simp; done) | (simp [*]; done)), H', ⟨by have := HJ8.out; have := HK2.out; have := HJ41.out; have := HK4.out; have := HK5.out; omega⟩, ⟨by (with_reducible repeat (first | apply Kd.R_alloc | apply Kd.R_drewN | apply Kd.R_drew)); exact HO_6.out⟩, ⟨by (with_reducible repeat (first | apply Kd.S_alloc | apply Kd.S_drewN | apply Kd.S_drew)); exact HO_11.out⟩, ⟨by (with_reducible repeat (first | apply Kd.R_alloc | apply Kd.R_drewN | apply Kd.R_drew)); exact HO_109000.out⟩, ⟨by (with_reducible repeat (first | refine blk_drewN ?_ _ | refine blk_drew ?_ | refine blk_alloc ?_ _)); exact BK108.out⟩, ⟨by repeat (first | (with_reducible exact HR126_0.out) | (with_reducible refine Kd.C_alloc ?_ _) | (with_reducible refine Kd.C_drewN ?_ _) | (with_reducible refine Kd.C_drew ?_) | exact HR126_0.out)⟩, ⟨by repeat (first | (with_reducible first | exact HB.out | apply below_alloc | apply pw_below_drewN | apply below_drew1 | refine below_set ?_ GE108.out) | exact HB.out)⟩⟩
                                                        · replace c59 := Bool.eq_false_iff.mpr c59
                                                          subst c59
                                                          have H1 : (laws_FnQuorums.l2 k5 l1 t105 t109 t110 t113 x20_4 t127 t128 false (t113.length : Int) x135_4 (rd_L1 t113 x135_4) ((rd_L1 t113 x135_4).length : Int) (wrap64 (x147_5 + 1)) t101 t104) = some r := by rw [if_neg (show ¬ (false = true) by decide)] at H; exact H
                                                          clear H
                                                          have H := H1
                                                          clear H1
                                                          have H' := Aside0.mk H
                                                          clear H
                                                          have p129 : 0 ≤ (x147_5 : Int) := of_decide_eq_true (by first | (with_reducible assumption) | assumption)
                                                          have q129 : x147_5 < ((rd_L1 t113 x135_4).length : Int) := of_decide_eq_true (by first | (with_reducible assumption) | assumption)
                                                          obtain ⟨ad129, e129, hx129_0⟩ := Kd.at_int HR126_0.out x147_5 p129 q129
                                                          cases e129
                                                          replace p129 := eq_true p129
                                                          replace q129 := eq_true q129
                                                          go_wp2
                                                          go_roundg k5
                                                          case measure => have := HJ8.out; have := HK2.out; have := HJ41.out; have := HK4.out; have := HK5.out; omega
                                                          case rel => exact ⟨(false), (wrap64 (x147_5 + 1)), (by first | rfl | (simp; done) | (simp [*]; done)), (by first | rfl | (simp; done) | (simp [*]; done)), H', ⟨by have := HJ8.out; have := HK2.out; have := HJ41.out; have := HK4.out; have := HK5.out; omega⟩, ⟨by (with_reducible repeat (first | apply Kd.R_alloc | apply Kd.R_drewN | apply Kd.R_drew)); exact HO_6.out⟩, ⟨by (with_reducible repeat (first | apply Kd.S_alloc | apply Kd.S_drewN | apply Kd.S_drew)); exact HO_11.out⟩, ⟨by (with_reducible repeat (first | apply Kd.R_alloc | apply Kd.R_drewN | apply Kd.R_drew)); exact HO_109000.out⟩, ⟨by (with_reducible repeat (first | refine blk_drewN ?_ _ | refine blk_drew ?_ | refine blk_alloc ?_ _)); exact BK108.out⟩, ⟨by repeat (first | (with_reducible exact HR126_0.out) | (with_reducible refine Kd.C_alloc ?_ _) | (with_reducible refine Kd.C_drewN ?_ _) | (with_reducible refine Kd.C_drew ?_) | exact HR126_0.out)⟩, ⟨by repeat (first | (with_reducible first | exact HB.out | apply below_alloc | apply pw_below_drewN | apply below_drew1 | refine below_set ?_ GE108.out) | exact HB.out)⟩⟩
                                                      · rw [if_neg c58] at H
                                                        exact absurd H (by simp)
                                                    · rw [if_neg c57] at H
                                                      exact absurd H (by simp)
                                                  · rw [if_neg c56] at H
                                                    have c56b0 : decide (x147_5 < ((rd_L1 t113 x135_4).length : Int)) = false := decide_eq_false c56
                                                    clear c56
                                                    by_cases c61 : x20_4 = true
                                                    · subst c61
                                                      have H1 : (if t128 = true then (if t127 = true then (laws_FnQuorums.l1 k5 l1 t105 t109 t110 t113 true (t113.length : Int) (wrap64 (x135_4 + 1)) t101 t104) else (some false)) else (some false)) = some r := by rw [if_pos rfl] at H; exact H
                                                      clear H
                                                      have H := H1
                                                      clear H1
                                                      by_cases c62 : t128 = true
                                                      · subst c62
                                                        have H1 : (if t127 = true then (laws_FnQuorums.l1 k5 l1 t105 t109 t110 t113 true (t113.length : Int) (wrap64 (x135_4 + 1)) t101 t104) else (some false)) = some r := by rw [if_pos rfl] at H; exact H
                                                        clear H
                                                        have H := H1
                                                        clear H1
                                                        by_cases c63 : t127 = true
                                                        · subst c63
                                                          have H1 : (laws_FnQuorums.l1 k5 l1 t105 t109 t110 t113 true (t113.length : Int) (wrap64 (x135_4 + 1)) t101 t104) = some r := by rw [if_pos rfl] at H; exact H
                                                          clear H
                                                          have H := H1
                                                          clear H1
                                                          have H' := Aside0.mk H
                                                          clear H
                                                          go_wp2
                                                          go_roundg k5
                                                          case measure => have := HJ8.out; have := HK2.out; have := HJ41.out; have := HK4.out; have := HK5.out; omega
                                                          case rel => exact ⟨(true), (wrap64 (x135_4 + 1)), (by first | rfl | (simp; done) | (simp [*]; done)), (by first | rfl | (simp; done) | (simp [*]; done)), H', ⟨by have := HJ8.out; have := HK2.out; have := HJ41.out; have := HK4.out; have := HK5.out; omega⟩, ⟨by (with_reducible repeat (first | apply Kd.R_alloc | apply Kd.R_drewN | apply Kd.R_drew)); exact HO_6.out⟩, ⟨by (with_reducible repeat (first | apply Kd.S_alloc | apply Kd.S_drewN | apply Kd.S_drew)); exact HO_11.out⟩, ⟨by (with_reducible repeat (first | apply Kd.R_alloc | apply Kd.R_drewN | apply Kd.R_drew)); exact HO_109000.out⟩, ⟨by (with_reducible repeat (first | refine blk_drewN ?_ _ | refine blk_drew ?_ | refine blk_alloc ?_ _)); exact BK108.out⟩, ⟨by repeat (first | (with_reducible first | exact HB.out | apply below_alloc | apply pw_below_drewN | apply below_drew1 | refine below_set ?_ GE108.out) | exact HB.out)⟩⟩
                                                        · replace c63 := Bool.eq_false_iff.mpr c63
                                                          subst c63
                                                          have H1 : (some false) = some r := by rw [if_neg (show ¬ (false = true) by decide)] at H; exact H
                                                          clear H
                                                          have H := H1
                                                          clear H1
                                                          obtain rfl := Option.some.inj H
                                                          go_wp2
                                                          go_ret
                                                          exact ⟨by first | rfl | (simp [errW_none, errW_some] <;> rfl) | (simp [*, errW_none, errW_some] <;> rfl), by repeat (first | (with_reducible first | exact HB.out | apply below_alloc | apply pw_below_drewN | apply below_drew1 | refine below_set ?_ GE108.out) | exact HB.out)⟩
                                                      · replace c62 := Bool.eq_false_iff.mpr c62
                                                        subst c62
                                                        have H1 : (some false) = some r := by rw [if_neg (show ¬ (false = true) by decide)] at H; exact H
                                                        clear H
                                                        have H := H1
                                                        clear H1
                                                        obtain rfl := Option.some.inj H
                                                        go_wp2
                                                        go_ret
                                                        exact ⟨by first | rfl | (simp [errW_none, errW_some] <;> rfl) | (simp [*, errW_none, errW_some] <;> rfl), by repeat (first | (with_reducible first | exact HB.out | apply below_alloc | apply pw_below_drewN | apply below_drew1 | refine below_set ?_ GE108.out) | exact HB.out)⟩
                                                    · replace c61 := Bool.eq_false_iff.mpr c61
                                                      subst c61
                                                      have H1 : (if t128 = true then (if t127 = true then (laws_FnQuorums.l1 k5 l1 t105 t109 t110 t113 x25_5 (t113.length : Int) (wrap64 (x135_4 + 1)) t101 t104) else (some false)) else (some false)) = some r := by rw [if_neg (show ¬ (false = true) by decide)] at H; exact H
                                                      clear H
                                                      have H := H1
                                                      clear H1
                                                      by_cases c64 : t128 = true
                                                      · subst c64
                                                        have H1 : (if t127 = true then (laws_FnQuorums.l1 k5 l1 t105 t109 t110 t113 x25_5 (t113.length : Int) (wrap64 (x135_4 + 1)) t101 t104) else (some false)) = some r := by rw [if_pos rfl] at H; exact H
                                                        clear H
                                                        have H := H1
                                                        clear H1
                                                        by_cases c65 : t127 = true
                                                        · subst c65
                                                          have H1 : (laws_FnQuorums.l1 k5 l1 t105 t109 t110 t113 x25_5 (t113.length : Int) (wrap64 (x135_4 + 1)) t101 t104) = some r := by rw [if_pos rfl] at H; exact H
                                                          clear H
                                                          have H := H1
                                                          clear H1
                                                          have H' := Aside0.mk H
                                                          clear H
                                                          go_wp2
                                                          go_roundg k5
                                                          case measure => have := HJ8.out; have := HK2.out; have := HJ41.out; have := HK4.out; have := HK5.out; omega
                                                          case rel => exact ⟨(x25_5), (wrap64 (x135_4 + 1)), (by first | rfl | (simp; done) | (simp [*]; done)), (by first | rfl | (simp; done) | (simp [*]; done)), H', ⟨by have := HJ8.out; have := HK2.out; have := HJ41.out; have := HK4.out; have := HK5.out; omega⟩, ⟨by (with_reducible repeat (first | apply Kd.R_alloc | apply Kd.R_drewN | apply Kd.R_drew)); exact HO_6.out⟩, ⟨by (with_reducible repeat (first | apply Kd.S_alloc | apply Kd.S_drewN | apply Kd.S_drew)); exact HO_11.out⟩, ⟨by (with_reducible repeat (first | apply Kd.R_alloc | apply Kd.R_drewN | apply Kd.R_drew)); exact HO_109000.out⟩, ⟨by (with_reducible repeat (first | refine blk_drewN ?_ _ | refine blk_drew ?_ | refine blk_alloc ?_ _)); exact BK108.out⟩, ⟨by repeat (first | (with_reducible first | exact HB.out | apply below_alloc | apply pw_below_drewN | apply below_drew1 | refine below_set ?_ GE108.out) | exact HB.out)⟩⟩
                                                        · replace c65 := Bool.eq_false_iff.mpr c65
                                                          subst c65
                                                          have H1 : (some false) = some r := by rw [if_neg (show ¬ (false = true) by decide)] at H; exact H
                                                          clear H
                                                          have H := H1
                                                          clear H1
                                                          obtain rfl := Option.some.inj H
                                                          go_wp2
                                                          go_ret
                                                          exact ⟨by first | rfl | (simp [errW_none, errW_some] <;> rfl) | (simp [*, errW_none, errW_some] <;> rfl), by repeat (first | (with_reducible first | exact HB.out | apply below_alloc | apply pw_below_drewN | apply below_drew1 | refine below_set ?_ GE108.out) | exact HB.out)⟩
                                                      · replace c64 := Bool.eq_false_iff.mpr c64
                                                        subst c64
                                                        have H1 : (some false) = some r := by rw [if_neg (show ¬ (false = true) by decide)] at H; exact H
                                                        clear H
                                                        have H := H1
                                                        clear H1
                                                        obtain rfl := Option.some.inj H
                                                        go_wp2
                                                        go_ret
                                                        exact ⟨by first | rfl | (simp [errW_none, errW_some] <;> rfl) | (simp [*, errW_none, errW_some] <;> rfl), by repeat (first | (with_reducible first | exact HB.out | apply below_alloc | apply pw_below_drewN | apply below_drew1 | refine below_set ?_ GE108.out) | exact HB.out)⟩
                                          · rw [if_neg c52] at H
                                            exact absurd H (by simp)
                                        · rw [if_neg c51] at H
                                          exact absurd H (by simp)
                                      · rw [if_neg c50] at H
                                        have c50b0 : decide (x135_4 < (t113.length : Int)) = false := decide_eq_false c50
                                        clear c50
                                        by_cases c66 : t110 = true
                                        · subst c66
                                          have H1 : (if (t109 != x20_4) = true then (some false) else (laws_FnQuorums.j5 k4 l1)) = some r := by rw [if_pos rfl] at H; exact H
                                          clear H
                                          have H := H1
                                          clear H1
                                          by_cases c67 : (t109 != x20_4) = true
                                          · rw [if_pos c67] at H
                                            have c67b0 : (t109 != x20_4) = true := c67
                                            (try (have c67b1 : decide (t109 = x20_4) = false := by simpa using c67))
                                            (try (have c67b2 : (t109 == x20_4) = false := by simpa using c67))
                                            (try (have c67b3 : ¬ (t109 = x20_4) := by simpa using c67))
                                            clear c67
                                            obtain rfl := Option.some.inj H
                                            go_wp2
                                            go_ret
                                            exact ⟨by first | rfl | (simp [errW_none, errW_some] <;> rfl) | (simp [*, errW_none, errW_some] <;> rfl), by repeat (first | (with_reducible first | exact HB.out | apply below_alloc | apply pw_below_drewN | apply below_drew1 | refine below_set ?_ GE108.out) | exact HB.out)⟩
                                          · rw [if_neg c67] at H
                                            have c67b0 : (t109 != x20_4) = false := by simpa using c67
                                            (try (have c67b1 : decide (t109 = x20_4) = true := by simpa using c67))
                                            (try (have c67b2 : (t109 == x20_4) = true := by simpa using c67))
                                            clear c67
                                            have H' := Aside0.mk H
                                            clear H
                                            go_wp2
                                            go_meet
                                            case rel => exact ⟨_, H', ⟨by have := HJ8.out; have := HK2.out; have := HJ41.out; have := HK4.out; first | omega | exact Nat.le_refl _⟩, ⟨by (with_reducible repeat (first | apply Kd.R_alloc | apply Kd.R_drewN | apply Kd.R_drew)); exact Kd.R_mono HO_109000.out (fun _ hk => trivial)⟩, ⟨by (with_reducible repeat (first | refine blk_drewN ?_ _ | refine blk_drew ?_ | refine blk_alloc ?_ _)); exact BK108.out⟩, ⟨by repeat (first | (with_reducible first | exact HB.out | apply below_alloc | apply pw_below_drewN | apply below_drew1 | refine below_set ?_ GE108.out) | exact HB.out)⟩⟩
                                        · replace c66 := Bool.eq_false_iff.mpr c66
                                          subst c66
                                          have H1 : (laws_FnQuorums.j5 k4 l1) = some r := by rw [if_neg (show ¬ (false = true) by decide)] at H; exact H
                                          clear H
                                          have H := H1
                                          clear H1
                                          have H' := Aside0.mk H
                                          clear H
                                          go_wp2
                                          go_meet
                                          case rel => exact ⟨_, H', ⟨by have := HJ8.out; have := HK2.out; have := HJ41.out; have := HK4.out; first | omega | exact Nat.le_refl _⟩, ⟨by (with_reducible repeat (first | apply Kd.R_alloc | apply Kd.R_drewN | apply Kd.R_drew)); exact Kd.R_mono HO_109000.out (fun _ hk => trivial)⟩, ⟨by (with_reducible repeat (first | refine blk_drewN ?_ _ | refine blk_drew ?_ | refine blk_alloc ?_ _)); exact BK108.out⟩, ⟨by repeat (first | (with_reducible first | exact HB.out | apply below_alloc | apply pw_below_drewN | apply below_drew1 | refine below_set ?_ GE108.out) | exact HB.out)⟩⟩
              · replace c36 := Bool.eq_false_iff.mpr c36
                subst c36
                have H1 : (laws_FnQuorums.j5 kj8 l1) = some r := by rw [if_neg (show ¬ (false = true) by decide)] at H; exact H
                clear H
                have H := H1
                clear H1
                have H' := Aside0.mk H
                clear H
                go_wp2
                go_meet
                case rel => exact ⟨_, H', ⟨by have := HJ8.out; first | omega | exact Nat.le_refl _⟩, ⟨by (with_reducible repeat (first | apply Kd.R_alloc | apply Kd.R_drewN | apply Kd.R_drew)); exact Kd.R_mono HO_109000.out (fun _ hk => trivial)⟩, ⟨by (with_reducible repeat (first | refine blk_drewN ?_ _ | refine blk_drew ?_ | refine blk_alloc ?_ _)); exact BK108.out⟩, ⟨by repeat (first | (with_reducible first | exact HB.out | apply below_alloc | apply pw_below_drewN | apply below_drew1 | refine below_set ?_ GE108.out) | exact HB.out)⟩⟩
            case rest =>
              as_aux_lemma =>
                clear HC35
                try clear c1
                try clear p1
                try clear q1
                try clear hx1
                try clear c2
                try clear p2
                try clear c3
                try clear c3b0
                try clear c4
                try clear c5
                try clear c6
                try clear p6
                try clear c8
                try clear c12
                try clear p12
                try clear q12
                try clear hx12
                try clear c18
                try clear c20
                try clear c22
                try clear c22b0
                try clear c22b1
                try clear c22b2
                try clear c23
                try clear c23b0
                try clear c23b1
                try clear c23b2
                try clear c24
                try clear c24b0
                try clear c24b1
                try clear c24b2
                try clear c26
                try clear c32
                try clear c33
                try clear c34
                try clear c36
                try clear c37
                try clear c38
                try clear c38b0
                try clear c39
                try clear c39b0
                try clear c40
                try clear c40b0
                try clear c45
                try clear c46
                try clear c46b0
                try clear c49
                try clear c50
                try clear c50b0
                try clear c51
                try clear c51b0
                try clear c52
                try clear c52b0
                try clear c56
                try clear c56b0
                try clear c57
                try clear c57b0
                try clear c58
                try clear c58b0
                try clear c59
                try clear c61
                try clear c62
                try clear c63
                try clear c64
                try clear p64
                try clear c65
                try clear c66
                try clear c67
                try clear c67b0
                try clear c67b1
                try clear c67b2
                try clear hcz13_0
                try clear hcz13_1
                try clear hcz16_0
                try clear hcz16_1
                try clear hcz18_0
                try clear hcz18_1
                try clear hcz20_0
                try clear hcz20_1
                try clear hcz30_0
                try clear hcz30_1
                try clear hcz37_0
                try clear hcz37_1
                try clear hcz47_0
                try clear hcz47_1
                try clear hcz48_0
                try clear hcz48_1
                try clear hcz54_0
                try clear hcz54_1
                try clear hfz13_0
                try clear hfz13_1
                try clear hfz16_0
                try clear hfz16_1
                try clear hfz18_0
                try clear hfz18_1
                try clear hfz20_0
                try clear hfz20_1
                try clear hfz30_0
                try clear hfz30_1
                try clear hfz37_0
                try clear hfz37_1
                try clear hfz47_0
                try clear hfz47_1
                try clear hfz48_0
                try clear hfz48_1
                try clear hfz54_0
                try clear hfz54_1
                try clear hx123_0
                try clear hx126_0
                try clear hx129_0
                try clear p1
                try clear p12
                try clear p123
                try clear p126
                try clear p129
                try clear p2
                try clear p6
                try clear q1
                try clear q12
                try clear q123
                try clear q126
                try clear q129
                obtain ⟨kq, HA, HJ34, HO_109000, BK108, HB⟩ := hcut
                cases kq with
                | zero => exact absurd HA.out (by simp [laws_FnQuorums.j5])
                | succ kj34 =>
                  have H := HA.out
                  clear HA
                  simp only [laws_FnQuorums.j5] at H
                  replace H := Option.bind_eq_some_iff.mp H
                  obtain ⟨⟨t131, t134, t135, t136⟩, A680, H⟩ := H
                  replace H : ((impl_ReadWrite.f kj34 t131 t134 t135 t136).bind fun bt138 => ((spec_ReadWrite.f kj34 t131 t134 t135 t136).bind fun bt140 => (if (bt138.2 != bt140.2) = true then (laws_FnQuorums.j6 kj34 t135 t136 bt138.1 bt138.2 true t131 t134) else (laws_FnQuorums.j6 kj34 t135 t136 bt138.1 bt138.2 (bt138.1 != bt140.1) t131 t134)))) = some r := H
                  have A68 := Aside0.mk A680
                  clear A680
                  replace H := Option.bind_eq_some_iff.mp H
                  obtain ⟨⟨t138, t139⟩, A690, H⟩ := H
                  replace H : ((spec_ReadWrite.f kj34 t131 t134 t135 t136).bind fun bt140 => (if (t139 != bt140.2) = true then (laws_FnQuorums.j6 kj34 t135 t136 t138 t139 true t131 t134) else (laws_FnQuorums.j6 kj34 t135 t136 t138 t139 (t138 != bt140.1) t131 t134))) = some r := H
                  have A69 := Aside0.mk A690
                  clear A690
                  replace H := Option.bind_eq_some_iff.mp H
                  obtain ⟨⟨t140, t141⟩, A700, H⟩ := H
                  replace H : (if (t139 != t141) = true then (laws_FnQuorums.j6 kj34 t135 t136 t138 t139 true t131 t134) else (laws_FnQuorums.j6 kj34 t135 t136 t138 t139 (t138 != t140) t131 t134)) = some r := H
                  have A70 := Aside0.mk A700
                  clear A700
                  have HC71 := Aside0.mk H
                  clear H
                  go_upto_region 40 with (first | ((with_reducible refine gate_callee (f := 39) rfl ?_); refine goesL_ (some 177) rfl rfl Try.func39 (by kernel_rfl) rfl #[.slice A1 l1.length c1] rfl (by (try simp only [List.map_toArray, List.map_cons, List.map_nil]); first | done | rfl | (simp only [List.length_drop, List.length_take]; rfl)) ?_; (with_reducible refine (spec_DrawReadWrite.calls kj34 _ _ l1 t131 t134 t135 t136 _ ?side1 ?side2 A68.out).mono ?_); (case side1 => repeat (first | exact (Kd.C_below HR1.out HB.out) | (with_reducible refine Kd.C_alloc ?_ _) | (with_reducible refine Kd.C_drewN ?_ _) | (with_reducible refine Kd.C_drew ?_))); (case side2 => exact HC1.out); rintro e w72 ⟨v132, rfl, ho0, hb⟩; refine ⟨_, rfl, ?_⟩; have n0_ := Aside0.mk (Kd.R_elder' (by (with_reducible repeat (first | apply Kd.R_alloc | apply Kd.R_drewN | apply Kd.R_drew)); exact HO_109000.out) (Kd.R_base ho0) hb); have n1_ := Aside0.mk (Kd.R_lower (Kd.R_new' ho0 (Kd.R_lt (by (with_reducible repeat (first | apply Kd.R_alloc | apply Kd.R_drewN | apply Kd.R_drew)); exact HO_109000.out))) (below_size (by repeat (first | (with_reducible first | exact HB.out | apply below_alloc | apply pw_below_drewN | apply below_drew1 | refine below_set ?_ GE108.out) | exact HB.out)))); have n2_ := Aside0.mk (blk_below (g := gb108) (o := .cells #[.slice Ao12 t101.length co12, .int .i64 t104] 38 (0, 0)) (by (with_reducible repeat (first | refine blk_drewN ?_ _ | refine blk_drew ?_ | refine blk_alloc ?_ _)); exact BK108.out) hb); have n3_ := Aside0.mk (below_step (by repeat (first | (with_reducible first | exact HB.out | apply below_alloc | apply pw_below_drewN | apply below_drew1 | refine below_set ?_ GE108.out) | exact HB.out)) hb); clear HO_109000; clear BK108; clear HB; have HO_109000 := n0_; have HO133 := n1_; have BK108 := n2_; have HB := n3_; clear n0_ n1_ n2_ n3_; (try clear hb); (try clear hb2); (try clear hk); (try clear hi); (try clear ho0)) | ((with_reducible refine gate_dst (N := 28) rfl ?_); refine box_event ?hg (N := 28) ?hd (cs := #[.slice none 0 0, .int .i64 0]) (t := 38) ?hr ?_; (case hd => rfl); (case hg => rfl); (case hr => first | (go_simp; done) | (go_simp; rfl)); intro gb137 hg w73 hbox hb; have n0_ := Aside0.mk (Kd.R_below (by (with_reducible repeat (first | apply Kd.R_alloc | apply Kd.R_drewN | apply Kd.R_drew)); exact HO_109000.out) hb); have n1_ := Aside0.mk (Kd.R_below (by (with_reducible repeat (first | apply Kd.R_alloc | apply Kd.R_drewN | apply Kd.R_drew)); exact HO133.out) hb); have n2_ := Aside0.mk (blk_below (g := gb108) (o := .cells #[.slice Ao12 t101.length co12, .int .i64 t104] 38 (0, 0)) (by (with_reducible repeat (first | refine blk_drewN ?_ _ | refine blk_drew ?_ | refine blk_alloc ?_ _)); exact BK108.out) hb); have n3_ := Aside0.mk (below_step (by repeat (first | (with_reducible first | exact HB.out | apply below_alloc | apply pw_below_drewN | apply below_drew1 | refine below_set ?_ GE108.out) | exact HB.out)) hb); have n4_ := Aside0.mk (hbox); have n5_ := Aside0.mk ((by rw [hg]; exact (below_size (by repeat (first | (with_reducible first | exact HB.out | apply below_alloc | apply pw_below_drewN | apply below_drew1 | refine below_set ?_ GE108.out) | exact HB.out))) : w.heap.size ≤ gb137)); have n6_ := Aside0.mk ((by rw [hg]; exact (below_size (by repeat (first | (with_reducible first | exact HB.out | apply below_alloc | apply pw_below_drewN | apply below_drew1 | refine below_set ?_ GE108.out) | exact HB.out))) : w.heap.size ≤ gb137)); have n7_ := Aside0.mk ((by rw [hg]; exact Nat.ne_of_lt (blk_lt (g := gb108) (o := .cells #[.slice Ao12 t101.length co12, .int .i64 t104] 38 (0, 0)) (by (with_reducible repeat (first | refine blk_drewN ?_ _ | refine blk_drew ?_ | refine blk_alloc ?_ _)); exact BK108.out)) : gb108 ≠ gb137)); have n8_ := Aside0.mk ((by rw [hg]; exact Nat.ne_of_gt (blk_lt (g := gb108) (o := .cells #[.slice Ao12 t101.length co12, .int .i64 t104] 38 (0, 0)) (by (with_reducible repeat (first | refine blk_drewN ?_ _ | refine blk_drew ?_ | refine blk_alloc ?_ _)); exact BK108.out)) : gb137 ≠ gb108)); clear HO_109000; clear HO133; clear BK108; clear HB; have HO_109000 := n0_; have HO133 := n1_; have BK108 := n2_; have HB := n3_; have BK137 := n4_; have GW137 := n5_; have GE137 := n6_; have NB108_137 := n7_; have NB137_108 := n8_; clear n0_ n1_ n2_ n3_ n4_ n5_ n6_ n7_ n8_; clear hb hbox hg; obtain ⟨Ao74, co74, eo74⟩ := Kd.R_slice HO133.out; subst eo74; have hnb75 := NB137_108.out; have hnc75 := NB108_137.out; have hcz76_0 : w73.cell? ⟨gb137, 0, none⟩ = some (.slice none 0 0) := (blk_cell BK137.out 0).trans rfl; have hcz76_1 : w73.cell? ⟨gb137, 1, none⟩ = some (.int .i64 0) := (blk_cell BK137.out 1).trans rfl; have hfz76_0 := blk_frozen BK137.out 0; have hfz76_1 := blk_frozen BK137.out 1) | ((with_reducible refine gate_callee (f := 40) rfl ?_); refine goesL_ (some 185) rfl rfl Try.func40 (by kernel_rfl) rfl #[.agg #[.slice Ao74 t131.length co74, .int .i64 t134], .int .i64 t135, .int .i64 t136] rfl (by (try simp only [List.map_toArray, List.map_cons, List.map_nil]); first | done | rfl | (simp only [List.length_drop, List.length_take]; rfl)) ?_; (with_reducible refine (impl_ReadWrite.calls kj34 _ _ t131 t134 t135 t136 t138 t139 _ ?side1 ?side2 A69.out).mono ?_); (case side1 => refine (Kd.R_reads' (e := 3) (base := w.heap.size) (ok := fun k_ => (True ∧ some k_ ≠ (.slice Ao12 t101.length co12 : Value).ownBlock)) (n := t131.length) (c := co74) ?_).2.2; exact (by (with_reducible repeat (first | apply Kd.R_alloc | apply Kd.R_drewN | apply Kd.R_drew)); exact (Kd.R_mono (Kd.R_far (p := ⟨gb137, 1, none⟩) (Kd.R_far (p := ⟨gb137, 0, none⟩) (Kd.R_types HO133.out BK137.out (by decide)) (fun _ hk => hk.2) (.slice Ao74 t131.length co74)) (fun _ hk => hk.2) (.int .i64 t134)) (fun _ h_ => h_.1)))); (case side2 => exact (Kd.R_reads' HO133.out).2.1); rintro e w77 ⟨rfl, hb⟩; refine ⟨_, rfl, ?_⟩; have n0_ := Aside0.mk (Kd.R_below (by (with_reducible repeat (first | apply Kd.R_alloc | apply Kd.R_drewN | apply Kd.R_drew)); exact (Kd.R_mono (Kd.R_far (p := ⟨gb137, 1, none⟩) (Kd.R_far (p := ⟨gb137, 0, none⟩) (Kd.R_types HO_109000.out BK137.out (by decide)) (fun _ hk => hk.2) (.slice Ao74 t131.length co74)) (fun _ hk => hk.2) (.int .i64 t134)) (fun _ h_ => h_.1))) hb); have n1_ := Aside0.mk (Kd.R_below (by (with_reducible repeat (first | apply Kd.R_alloc | apply Kd.R_drewN | apply Kd.R_drew)); exact (Kd.R_mono (Kd.R_far (p := ⟨gb137, 1, none⟩) (Kd.R_far (p := ⟨gb137, 0, none⟩) (Kd.R_types HO133.out BK137.out (by decide)) (fun _ hk => hk.2) (.slice Ao74 t131.length co74)) (fun _ hk => hk.2) (.int .i64 t134)) (fun _ h_ => h_.1))) hb); have n2_ := Aside0.mk (blk_below (g := gb108) (o := .cells #[.slice Ao12 t101.length co12, .int .i64 t104] 38 (0, 0)) (by (with_reducible repeat (first | refine blk_drewN ?_ _ | refine blk_drew ?_ | refine blk_alloc ?_ _)); refine blk_far ?_ NB108_137.out _; (with_reducible repeat (first | refine blk_drewN ?_ _ | refine blk_drew ?_ | refine blk_alloc ?_ _)); refine blk_far ?_ NB108_137.out _; (with_reducible repeat (first | refine blk_drewN ?_ _ | refine blk_drew ?_ | refine blk_alloc ?_ _)); exact BK108.out) hb); have n3_ := Aside0.mk (blk_below (g := gb137) (o := .cells #[.slice Ao74 t131.length co74, .int .i64 t134] 38 (0, 0)) (by (with_reducible repeat (first | refine blk_drewN ?_ _ | refine blk_drew ?_ | refine blk_alloc ?_ _)); refine blk_put (cs := #[.slice Ao74 t131.length co74, .int .i64 0]) ?_ 1 _ rfl; (with_reducible repeat (first | refine blk_drewN ?_ _ | refine blk_drew ?_ | refine blk_alloc ?_ _)); refine blk_put (cs := #[.slice none 0 0, .int .i64 0]) ?_ 0 _ rfl; (with_reducible repeat (first | refine blk_drewN ?_ _ | refine blk_drew ?_ | refine blk_alloc ?_ _)); exact BK137.out) hb); have n4_ := Aside0.mk (below_step (by repeat (first | (with_reducible first | exact HB.out | apply below_alloc | apply pw_below_drewN | apply below_drew1 | refine below_set ?_ GE108.out | refine below_set ?_ GE137.out) | exact HB.out)) hb); clear HO_109000; clear HO133; clear BK108; clear BK137; clear HB; have HO_109000 := n0_; have HO133 := n1_; have BK108 := n2_; have BK137 := n3_; have HB := n4_; clear n0_ n1_ n2_ n3_ n4_; (try clear hb); (try clear hb2); (try clear hk); (try clear hi); have hcz78_0 : w77.cell? ⟨gb137, 0, none⟩ = some (.slice Ao74 t131.length co74) := (blk_cell BK137.out 0).trans rfl; have hcz78_1 : w77.cell? ⟨gb137, 1, none⟩ = some (.int .i64 t134) := (blk_cell BK137.out 1).trans rfl; have hfz78_0 := blk_frozen BK137.out 0; have hfz78_1 := blk_frozen BK137.out 1) | ((with_reducible refine gate_callee (f := 41) rfl ?_); refine goesL_ (some 192) rfl rfl Try.func41 (by kernel_rfl) rfl #[.agg #[.slice Ao74 t131.length co74, .int .i64 t134], .int .i64 t135, .int .i64 t136] rfl (by (try simp only [List.map_toArray, List.map_cons, List.map_nil]); first | done | rfl | (simp only [List.length_drop, List.length_take]; rfl)) ?_; (with_reducible refine (spec_ReadWrite.calls kj34 _ _ t131 t134 t135 t136 t140 t141 _ ?side1 ?side2 A70.out).mono ?_); (case side1 => repeat (first | exact (Kd.R_reads' HO133.out).2.2 | (with_reducible refine Kd.C_alloc ?_ _) | (with_reducible refine Kd.C_drewN ?_ _) | (with_reducible refine Kd.C_drew ?_))); (case side2 => exact (Kd.R_reads' HO133.out).2.1); rintro e w79 ⟨rfl, hb⟩; refine ⟨_, rfl, ?_⟩; have n0_ := Aside0.mk (Kd.R_below (by (with_reducible repeat (first | apply Kd.R_alloc | apply Kd.R_drewN | apply Kd.R_drew)); exact HO_109000.out) hb); have n1_ := Aside0.mk (Kd.R_below (by (with_reducible repeat (first | apply Kd.R_alloc | apply Kd.R_drewN | apply Kd.R_drew)); exact HO133.out) hb); have n2_ := Aside0.mk (blk_below (g := gb108) (o := .cells #[.slice Ao12 t101.length co12, .int .i64 t104] 38 (0, 0)) (by (with_reducible repeat (first | refine blk_drewN ?_ _ | refine blk_drew ?_ | refine blk_alloc ?_ _)); exact BK108.out) hb); have n3_ := Aside0.mk (blk_below (g := gb137) (o := .cells #[.slice Ao74 t131.length co74, .int .i64 t134] 38 (0, 0)) (by (with_reducible repeat (first | refine blk_drewN ?_ _ | refine blk_drew ?_ | refine blk_alloc ?_ _)); exact BK137.out) hb); have n4_ := Aside0.mk (below_step (by repeat (first | (with_reducible first | exact HB.out | apply below_alloc | apply pw_below_drewN | apply below_drew1 | refine below_set ?_ GE108.out | refine below_set ?_ GE137.out) | exact HB.out)) hb); clear HO_109000; clear HO133; clear BK108; clear BK137; clear HB; have HO_109000 := n0_; have HO133 := n1_; have BK108 := n2_; have BK137 := n3_; have HB := n4_; clear n0_ n1_ n2_ n3_ n4_; (try clear hb); (try clear hb2); (try clear hk); (try clear hi)))
                  (try simp only [Act.put, List.setIfInBounds_toArray, List.set_cons_zero, List.set_cons_succ])
                  go_cut [202] (fun v202 wc => ∃ (kq : Nat) (x202_70 : Bool), v202 = .bool x202_70 ∧ Aside0 (laws_FnQuorums.j6 kq t135 t136 t138 t139 x202_70 t131 t134 = some r) ∧ Aside0 (kq ≤ kj34) ∧ Aside0 (Kd.R (Kd.int .i64) 3 wc w.heap.size (fun k_ => some k_ ≠ ((.slice Ao74 t131.length co74) : Value).ownBlock) (.slice Ao12 t101.length co12) t101) ∧ Aside0 (Kd.R (Kd.int .i64) 3 wc w.heap.size (fun k_ => some k_ ≠ ((.slice Ao12 t101.length co12) : Value).ownBlock) (.slice Ao74 t131.length co74) t131) ∧ Aside0 (wc.heap[gb108]? = some (.cells #[(.slice Ao12 t101.length co12), .int .i64 t104] 38 (0, 0))) ∧ Aside0 (wc.heap[gb137]? = some (.cells #[(.slice Ao74 t131.length co74), .int .i64 t134] 38 (0, 0))) ∧ Aside0 (Below w.heap.size w wc))
                  case first =>
                    have H := HC71.out
                    clear HC71
                    by_cases c80 : (t139 != t141) = true
                    · rw [if_pos c80] at H
                      have c80b0 : (t139 != t141) = true := c80
                      (try (have c80b1 : decide (t139 = t141) = false := by simpa using c80))
                      (try (have c80b2 : (t139 == t141) = false := by simpa using c80))
                      (try (have c80b3 : ¬ (t139 = t141) := by simpa using c80))
                      clear c80
                      (first | rw [c80b0] | (simp only [i64_w, i32_w]; rw [c80b0]) | skip)
                      have H' := Aside0.mk H
                      clear H
                      go_wp2
                      go_meet
                      case rel => exact ⟨_, (true), (by first | rfl | (simp; done) | (simp [*]; done)), H', ⟨by have := HJ8.out; have := HJ34.out; first | omega | exact Nat.le_refl _⟩, ⟨by (with_reducible repeat (first | apply Kd.R_alloc | apply Kd.R_drewN | apply Kd.R_drew)); exact Kd.R_mono HO_109000.out (fun _ hk => hk.2)⟩, ⟨by (with_reducible repeat (first | apply Kd.R_alloc | apply Kd.R_drewN | apply Kd.R_drew)); exact Kd.R_mono HO133.out (fun _ hk => hk.2)⟩, ⟨by (with_reducible repeat (first | refine blk_drewN ?_ _ | refine blk_drew ?_ | refine blk_alloc ?_ _)); exact BK108.out⟩, ⟨by (with_reducible repeat (first | refine blk_drewN ?_ _ | refine blk_drew ?_ | refine blk_alloc ?_ _)); exact BK137.out⟩, ⟨by repeat (first | (with_reducible first | exact HB.out | apply below_alloc | apply pw_below_drewN | apply below_drew1 | refine below_set ?_ GE108.out | refine below_set ?_ GE137.out) | exact HB.out)⟩⟩
                    · rw [if_neg c80] at H
                      have c80b0 : (t139 != t141) = false := by simpa using c80
                      (try (have c80b1 : decide (t139 = t141) = true := by simpa using c80))
                      (try (have c80b2 : (t139 == t141) = true := by simpa using c80))
                      clear c80
                      (first | rw [c80b0] | (simp only [i64_w, i32_w]; rw [c80b0]) | skip)
                      have H' := Aside0.mk H
                      clear H
                      go_wp2
                      go_meet
                      case rel => exact ⟨_, ((t138 != t140)), (by first | rfl | (simp; done) | (simp [*]; done)), H', ⟨by have := HJ8.out; have := HJ34.out; first | omega | exact Nat.le_refl _⟩, ⟨by (with_reducible repeat (first | apply Kd.R_alloc | apply Kd.R_drewN | apply Kd.R_drew)); exact Kd.R_mono HO_109000.out (fun _ hk => hk.2)⟩, ⟨by (with_reducible repeat (first | apply Kd.R_alloc | apply Kd.R_drewN | apply Kd.R_drew)); exact Kd.R_mono HO133.out (fun _ hk => hk.2)⟩, ⟨by (with_reducible repeat (first | refine blk_drewN ?_ _ | refine blk_drew ?_ | refine blk_alloc ?_ _)); exact BK108.out⟩, ⟨by (with_reducible repeat (first | refine blk_drewN ?_ _ | refine blk_drew ?_ | refine blk_alloc ?_ _)); exact BK137.out⟩, ⟨by repeat (first | (with_reducible first | exact HB.out | apply below_alloc | apply pw_below_drewN | apply below_drew1 | refine below_set ?_ GE108.out | refine below_set ?_ GE137.out) | exact HB.out)⟩⟩
                  case rest =>
                    as_aux_lemma =>
                      clear HC71
                      try clear c1
                      try clear p1
                      try clear q1
                      try clear hx1
                      try clear c2
                      try clear p2
                      try clear c3
                      try clear c3b0
                      try clear c4
                      try clear c5
                      try clear c6
                      try clear p6
                      try clear c7
                      try clear c8
                      try clear c12
                      try clear p12
                      try clear q12
                      try clear hx12
                      try clear c18
                      try clear c20
                      try clear c22
                      try clear c22b0
                      try clear c22b1
                      try clear c22b2
                      try clear c23
                      try clear c23b0
                      try clear c23b1
                      try clear c23b2
                      try clear c24
                      try clear c24b0
                      try clear c24b1
                      try clear c24b2
                      try clear c26
                      try clear c32
                      try clear c33
                      try clear c34
                      try clear c36
                      try clear c37
                      try clear c38
                      try clear c38b0
                      try clear c39
                      try clear c39b0
                      try clear c40
                      try clear c40b0
                      try clear c41
                      try clear c45
                      try clear c46
                      try clear c46b0
                      try clear c49
                      try clear c50
                      try clear c50b0
                      try clear c51
                      try clear c51b0
                      try clear c52
                      try clear c52b0
                      try clear c56
                      try clear c56b0
                      try clear c57
                      try clear c57b0
                      try clear c58
                      try clear c58b0
                      try clear c59
                      try clear c61
                      try clear c62
                      try clear c63
                      try clear c64
                      try clear p64
                      try clear c65
                      try clear c66
                      try clear c67
                      try clear c67b0
                      try clear c67b1
                      try clear c67b2
                      try clear c75
                      try clear c80
                      try clear c80b0
                      try clear c80b1
                      try clear c80b2
                      try clear hcz13_0
                      try clear hcz13_1
                      try clear hcz16_0
                      try clear hcz16_1
                      try clear hcz18_0
                      try clear hcz18_1
                      try clear hcz20_0
                      try clear hcz20_1
                      try clear hcz30_0
                      try clear hcz30_1
                      try clear hcz37_0
                      try clear hcz37_1
                      try clear hcz47_0
                      try clear hcz47_1
                      try clear hcz48_0
                      try clear hcz48_1
                      try clear hcz54_0
                      try clear hcz54_1
                      try clear hcz76_0
                      try clear hcz76_1
                      try clear hcz78_0
                      try clear hcz78_1
                      try clear hfz13_0
                      try clear hfz13_1
                      try clear hfz16_0
                      try clear hfz16_1
                      try clear hfz18_0
                      try clear hfz18_1
                      try clear hfz20_0
                      try clear hfz20_1
                      try clear hfz30_0
                      try clear hfz30_1
                      try clear hfz37_0
                      try clear hfz37_1
                      try clear hfz47_0
                      try clear hfz47_1
                      try clear hfz48_0
                      try clear hfz48_1
                      try clear hfz54_0
                      try clear hfz54_1
                      try clear hfz76_0
                      try clear hfz76_1
                      try clear hfz78_0
                      try clear hfz78_1
                      try clear hx123_0
                      try clear hx126_0
                      try clear hx129_0
                      try clear p1
                      try clear p12
                      try clear p123
                      try clear p126
                      try clear p129
                      try clear p2
                      try clear p6
                      try clear p64
                      try clear q1
                      try clear q12
                      try clear q123
                      try clear q126
                      try clear q129
                      obtain ⟨kq, x202_70, rfl, HA, HJ70, HO_109000, HO_138000, BK108, BK137, HB⟩ := hcut
                      cases kq with
                      | zero => exact absurd HA.out (by simp [laws_FnQuorums.j6])
                      | succ kj70 =>
                        have H := HA.out
                        clear HA
                        simp only [laws_FnQuorums.j6] at H
                        by_cases c81 : x202_70 = true
                        · subst c81
                          have H1 : (some false) = some r := by rw [if_pos rfl] at H; exact H
                          clear H
                          have H := H1
                          clear H1
                          obtain rfl := Option.some.inj H
                          go_wp2
                          go_ret
                          exact ⟨by first | rfl | (simp [errW_none, errW_some] <;> rfl) | (simp [*, errW_none, errW_some] <;> rfl), by repeat (first | (with_reducible first | exact HB.out | apply below_alloc | apply pw_below_drewN | apply below_drew1 | refine below_set ?_ GE108.out | refine below_set ?_ GE137.out) | exact HB.out)⟩
                        · replace c81 := Bool.eq_false_iff.mpr c81
                          subst c81
                          have H1 : (if t139 = true then (laws_FnQuorums.j7 kj70 t135 t136 t138 t131 t134) else (laws_FnQuorums.j7 kj70 t135 t136 false t131 t134)) = some r := by rw [if_neg (show ¬ (false = true) by decide)] at H; exact H
                          clear H
                          have H := H1
                          clear H1
                          have HC82 := Aside0.mk H
                          clear H
                          go_upto_region 42 with (fail)
                          go_cut [206] (fun v206 wc => ∃ (kq : Nat) (x206_81 : Bool), v206 = .bool x206_81 ∧ Aside0 (laws_FnQuorums.j7 kq t135 t136 x206_81 t131 t134 = some r) ∧ Aside0 (kq ≤ kj70) ∧ Aside0 (Kd.R (Kd.int .i64) 3 wc w.heap.size (fun k_ => some k_ ≠ ((.slice Ao74 t131.length co74) : Value).ownBlock) (.slice Ao12 t101.length co12) t101) ∧ Aside0 (Kd.R (Kd.int .i64) 3 wc w.heap.size (fun k_ => some k_ ≠ ((.slice Ao12 t101.length co12) : Value).ownBlock) (.slice Ao74 t131.length co74) t131) ∧ Aside0 (wc.heap[gb108]? = some (.cells #[(.slice Ao12 t101.length co12), .int .i64 t104] 38 (0, 0))) ∧ Aside0 (wc.heap[gb137]? = some (.cells #[(.slice Ao74 t131.length co74), .int .i64 t134] 38 (0, 0))) ∧ Aside0 (Below w.heap.size w wc))
                          case first =>
                            have H := HC82.out
                            clear HC82
                            by_cases c83 : t139 = true
                            · subst c83
                              have H1 : (laws_FnQuorums.j7 kj70 t135 t136 t138 t131 t134) = some r := by rw [if_pos rfl] at H; exact H
                              clear H
                              have H := H1
                              clear H1
                              have H' := Aside0.mk H
                              clear H
                              go_wp2
                              go_meet
                              case rel => exact ⟨_, (t138), (by first | rfl | (simp; done) | (simp [*]; done)), H', ⟨by have := HJ8.out; have := HJ34.out; have := HJ70.out; first | omega | exact Nat.le_refl _⟩, ⟨by (with_reducible repeat (first | apply Kd.R_alloc | apply Kd.R_drewN | apply Kd.R_drew)); exact HO_109000.out⟩, ⟨by (with_reducible repeat (first | apply Kd.R_alloc | apply Kd.R_drewN | apply Kd.R_drew)); exact HO_138000.out⟩, ⟨by (with_reducible repeat (first | refine blk_drewN ?_ _ | refine blk_drew ?_ | refine blk_alloc ?_ _)); exact BK108.out⟩, ⟨by (with_reducible repeat (first | refine blk_drewN ?_ _ | refine blk_drew ?_ | refine blk_alloc ?_ _)); exact BK137.out⟩, ⟨by repeat (first | (with_reducible first | exact HB.out | apply below_alloc | apply pw_below_drewN | apply below_drew1 | refine below_set ?_ GE108.out | refine below_set ?_ GE137.out) | exact HB.out)⟩⟩
                            · replace c83 := Bool.eq_false_iff.mpr c83
                              subst c83
                              have H1 : (laws_FnQuorums.j7 kj70 t135 t136 false t131 t134) = some r := by rw [if_neg (show ¬ (false = true) by decide)] at H; exact H
                              clear H
                              have H := H1
                              clear H1
                              have H' := Aside0.mk H
                              clear H
                              go_wp2
                              go_meet
                              case rel => exact ⟨_, (false), (by first | rfl | (simp; done) | (simp [*]; done)), H', ⟨by have := HJ8.out; have := HJ34.out; have := HJ70.out; first | omega | exact Nat.le_refl _⟩, ⟨by (with_reducible repeat (first | apply Kd.R_alloc | apply Kd.R_drewN | apply Kd.R_drew)); exact HO_109000.out⟩, ⟨by (with_reducible repeat (first | apply Kd.R_alloc | apply Kd.R_drewN | apply Kd.R_drew)); exact HO_138000.out⟩, ⟨by (with_reducible repeat (first | refine blk_drewN ?_ _ | refine blk_drew ?_ | refine blk_alloc ?_ _)); exact BK108.out⟩, ⟨by (with_reducible repeat (first | refine blk_drewN ?_ _ | refine blk_drew ?_ | refine blk_alloc ?_ _)); exact BK137.out⟩, ⟨by repeat (first | (with_reducible first | exact HB.out | apply below_alloc | apply pw_below_drewN | apply below_drew1 | refine below_set ?_ GE108.out | refine below_set ?_ GE137.out) | exact HB.out)⟩⟩
                          case rest =>
                            as_aux_lemma =>
                              clear HC82
                              try clear c1
                              try clear p1
                              try clear q1
                              try clear hx1
                              try clear c2
                              try clear p2
                              try clear c3
                              try clear c3b0
                              try clear c4
                              try clear c5
                              try clear c6
                              try clear p6
                              try clear c7
                              try clear c8
                              try clear c12
                              try clear p12
                              try clear q12
                              try clear hx12
                              try clear c18
                              try clear c20
                              try clear c22
                              try clear c22b0
                              try clear c22b1
                              try clear c22b2
                              try clear c23
                              try clear c23b0
                              try clear c23b1
                              try clear c23b2
                              try clear c24
                              try clear c24b0
                              try clear c24b1
                              try clear c24b2
                              try clear c26
                              try clear c32
                              try clear c33
                              try clear c34
                              try clear c36
                              try clear c37
                              try clear c38
                              try clear c38b0
                              try clear c39
                              try clear c39b0
                              try clear c40
                              try clear c40b0
                              try clear c41
                              try clear c45
                              try clear c46
                              try clear c46b0
                              try clear c49
                              try clear c50
                              try clear c50b0
                              try clear c51
                              try clear c51b0
                              try clear c52
                              try clear c52b0
                              try clear c56
                              try clear c56b0
                              try clear c57
                              try clear c57b0
                              try clear c58
                              try clear c58b0
                              try clear c59
                              try clear c61
                              try clear c62
                              try clear c63
                              try clear c64
                              try clear p64
                              try clear c65
                              try clear c66
                              try clear c67
                              try clear c67b0
                              try clear c67b1
                              try clear c67b2
                              try clear c75
                              try clear c80
                              try clear c80b0
                              try clear c80b1
                              try clear c80b2
                              try clear c81
                              try clear c83
                              try clear hcz13_0
                              try clear hcz13_1
                              try clear hcz16_0
                              try clear hcz16_1
                              try clear hcz18_0
                              try clear hcz18_1
                              try clear hcz20_0
                              try clear hcz20_1
                              try clear hcz30_0
                              try clear hcz30_1
                              try clear hcz37_0
                              try clear hcz37_1
                              try clear hcz47_0
                              try clear hcz47_1
                              try clear hcz48_0
                              try clear hcz48_1
                              try clear hcz54_0
                              try clear hcz54_1
                              try clear hcz76_0
                              try clear hcz76_1
                              try clear hcz78_0
                              try clear hcz78_1
                              try clear hfz13_0
                              try clear hfz13_1
                              try clear hfz16_0
                              try clear hfz16_1
                              try clear hfz18_0
                              try clear hfz18_1
                              try clear hfz20_0
                              try clear hfz20_1
                              try clear hfz30_0
                              try clear hfz30_1
                              try clear hfz37_0
                              try clear hfz37_1
                              try clear hfz47_0
                              try clear hfz47_1
                              try clear hfz48_0
                              try clear hfz48_1
                              try clear hfz54_0
                              try clear hfz54_1
                              try clear hfz76_0
                              try clear hfz76_1
                              try clear hfz78_0
                              try clear hfz78_1
                              try clear hx123_0
                              try clear hx126_0
                              try clear hx129_0
                              try clear p1
                              try clear p12
                              try clear p123
                              try clear p126
                              try clear p129
                              try clear p2
                              try clear p6
                              try clear p64
                              try clear q1
                              try clear q12
                              try clear q123
                              try clear q126
                              try clear q129
                              obtain ⟨kq, x206_81, rfl, HA, HJ81, HO_109000, HO_138000, BK108, BK137, HB⟩ := hcut
                              cases kq with
                              | zero => exact absurd HA.out (by simp [laws_FnQuorums.j7])
                              | succ kj81 =>
                                have H := HA.out
                                clear HA
                                simp only [laws_FnQuorums.j7] at H
                                by_cases c84 : x206_81 = true
                                · subst c84
                                  have H1 : ((impl_LeastQuorums.f kj81 t131 t135).bind fun bt142 => ((impl_LeastQuorums.f kj81 t131 t136).bind fun bt146 => (if bt142.2 = true then (laws_FnQuorums.j8 kj81 bt142.1 bt146.1 (!bt146.2)) else (laws_FnQuorums.j8 kj81 bt142.1 bt146.1 true)))) = some r := by rw [if_pos rfl] at H; exact H
                                  clear H
                                  have H := H1
                                  clear H1
                                  replace H := Option.bind_eq_some_iff.mp H
                                  obtain ⟨⟨t142, t145⟩, A850, H⟩ := H
                                  replace H : ((impl_LeastQuorums.f kj81 t131 t136).bind fun bt146 => (if t145 = true then (laws_FnQuorums.j8 kj81 t142 bt146.1 (!bt146.2)) else (laws_FnQuorums.j8 kj81 t142 bt146.1 true))) = some r := H
                                  have A85 := Aside0.mk A850
                                  clear A850
                                  replace H := Option.bind_eq_some_iff.mp H
                                  obtain ⟨⟨t146, t149⟩, A860, H⟩ := H
                                  replace H : (if t145 = true then (laws_FnQuorums.j8 kj81 t142 t146 (!t149)) else (laws_FnQuorums.j8 kj81 t142 t146 true)) = some r := H
                                  have A86 := Aside0.mk A860
                                  clear A860
                                  have HC87 := Aside0.mk H
                                  clear H
                                  have hnb88 := NB137_108.out
                                  have hnc88 := NB108_137.out
                                  have hcz89_0 : wc.cell? ⟨gb137, 0, none⟩ = some (.slice Ao74 t131.length co74) := (blk_cell BK137.out 0).trans rfl
                                  have hcz89_1 : wc.cell? ⟨gb137, 1, none⟩ = some (.int .i64 t134) := (blk_cell BK137.out 1).trans rfl
                                  have hfz89_0 := blk_frozen BK137.out 0
                                  have hfz89_1 := blk_frozen BK137.out 1
                                  go_upto_region 45 with (first | ((with_reducible refine gate_callee (f := 20) rfl ?_); refine goesL_ (some 212) rfl rfl Try.func20 (by kernel_rfl) rfl #[.agg #[.slice Ao74 t131.length co74, .int .i64 t135]] rfl (by (try simp only [List.map_toArray, List.map_cons, List.map_nil]); first | done | rfl | (simp only [List.length_drop, List.length_take]; rfl)) ?_; (with_reducible refine (impl_LeastQuorums.calls kj81 _ _ t131 t135 t142 t145 _ ?side1 ?side2 A85.out).mono ?_); (case side1 => repeat (first | exact (Kd.R_reads' HO_138000.out).2.2 | (with_reducible refine Kd.C_alloc ?_ _) | (with_reducible refine Kd.C_drewN ?_ _) | (with_reducible refine Kd.C_drew ?_))); (case side2 => exact (Kd.R_reads' HO_138000.out).2.1); rintro e w90 ⟨v143, rfl, ho0, hb⟩; refine ⟨_, rfl, ?_⟩; have n0_ := Aside0.mk (Kd.R_below (by (with_reducible repeat (first | apply Kd.R_alloc | apply Kd.R_drewN | apply Kd.R_drew)); exact HO_109000.out) hb); have n1_ := Aside0.mk (Kd.R_below (by (with_reducible repeat (first | apply Kd.R_alloc | apply Kd.R_drewN | apply Kd.R_drew)); exact HO_138000.out) hb); have n2_ := Aside0.mk (Kd.S_lower (Kd.S_new' (Kd.S_new' ho0 (Kd.R_lt (by (with_reducible repeat (first | apply Kd.R_alloc | apply Kd.R_drewN | apply Kd.R_drew)); exact HO_109000.out))) (Kd.R_lt (by (with_reducible repeat (first | apply Kd.R_alloc | apply Kd.R_drewN | apply Kd.R_drew)); exact HO_138000.out))) (below_size (by repeat (first | (with_reducible first | exact HB.out | apply below_alloc | apply pw_below_drewN | apply below_drew1 | refine below_set ?_ GE108.out | refine below_set ?_ GE137.out) | exact HB.out)))); have n3_ := Aside0.mk (blk_below (g := gb108) (o := .cells #[.slice Ao12 t101.length co12, .int .i64 t104] 38 (0, 0)) (by (with_reducible repeat (first | refine blk_drewN ?_ _ | refine blk_drew ?_ | refine blk_alloc ?_ _)); exact BK108.out) hb); have n4_ := Aside0.mk (blk_below (g := gb137) (o := .cells #[.slice Ao74 t131.length co74, .int .i64 t134] 38 (0, 0)) (by (with_reducible repeat (first | refine blk_drewN ?_ _ | refine blk_drew ?_ | refine blk_alloc ?_ _)); exact BK137.out) hb); have n5_ := Aside0.mk (below_step (by repeat (first | (with_reducible first | exact HB.out | apply below_alloc | apply pw_below_drewN | apply below_drew1 | refine below_set ?_ GE108.out | refine below_set ?_ GE137.out) | exact HB.out)) hb); clear HO_109000; clear HO_138000; clear BK108; clear BK137; clear HB; have HO_109000 := n0_; have HO_138000 := n1_; have HO144 := n2_; have BK108 := n3_; have BK137 := n4_; have HB := n5_; clear n0_ n1_ n2_ n3_ n4_ n5_; (try clear hb); (try clear hb2); (try clear hk); (try clear hi); (try clear ho0); have hcz91_0 : w90.cell? ⟨gb137, 0, none⟩ = some (.slice Ao74 t131.length co74) := (blk_cell BK137.out 0).trans rfl; have hcz91_1 : w90.cell? ⟨gb137, 1, none⟩ = some (.int .i64 t134) := (blk_cell BK137.out 1).trans rfl; have hfz91_0 := blk_frozen BK137.out 0; have hfz91_1 := blk_frozen BK137.out 1) | ((with_reducible refine gate_callee (f := 20) rfl ?_); refine goesL_ (some 220) rfl rfl Try.func20 (by kernel_rfl) rfl #[.agg #[.slice Ao74 t131.length co74, .int .i64 t136]] rfl (by (try simp only [List.map_toArray, List.map_cons, List.map_nil]); first | done | rfl | (simp only [List.length_drop, List.length_take]; rfl)) ?_; (with_reducible refine (impl_LeastQuorums.calls kj81 _ _ t131 t136 t146 t149 _ ?side1 ?side2 A86.out).mono ?_); (case side1 => repeat (first | exact (Kd.R_reads' HO_138000.out).2.2 | (with_reducible refine Kd.C_alloc ?_ _) | (with_reducible refine Kd.C_drewN ?_ _) | (with_reducible refine Kd.C_drew ?_))); (case side2 => exact (Kd.R_reads' HO_138000.out).2.1); rintro e w92 ⟨v147, rfl, ho0, hb⟩; refine ⟨_, rfl, ?_⟩; have n0_ := Aside0.mk (Kd.R_below (by (with_reducible repeat (first | apply Kd.R_alloc | apply Kd.R_drewN | apply Kd.R_drew)); exact HO_109000.out) hb); have n1_ := Aside0.mk (Kd.R_below (by (with_reducible repeat (first | apply Kd.R_alloc | apply Kd.R_drewN | apply Kd.R_drew)); exact HO_138000.out) hb); have n2_ := Aside0.mk (Kd.S_elder' (by (with_reducible repeat (first | apply Kd.S_alloc | apply Kd.S_drewN | apply Kd.S_drew)); exact HO144.out) (Kd.S_base ho0) hb); have n3_ := Aside0.mk (Kd.S_lower (Kd.S_new' (Kd.S_new' (Kd.S_new' ho0 (Kd.R_lt (by (with_reducible repeat (first | apply Kd.R_alloc | apply Kd.R_drewN | apply Kd.R_drew)); exact HO_109000.out))) (Kd.R_lt (by (with_reducible repeat (first | apply Kd.R_alloc | apply Kd.R_drewN | apply Kd.R_drew)); exact HO_138000.out))) (Kd.S_lt (by (with_reducible repeat (first | apply Kd.S_alloc | apply Kd.S_drewN | apply Kd.S_drew)); exact HO144.out))) (below_size (by repeat (first | (with_reducible first | exact HB.out | apply below_alloc | apply pw_below_drewN | apply below_drew1 | refine below_set ?_ GE108.out | refine below_set ?_ GE137.out) | exact HB.out)))); have n4_ := Aside0.mk (blk_below (g := gb108) (o := .cells #[.slice Ao12 t101.length co12, .int .i64 t104] 38 (0, 0)) (by (with_reducible repeat (first | refine blk_drewN ?_ _ | refine blk_drew ?_ | refine blk_alloc ?_ _)); exact BK108.out) hb); have n5_ := Aside0.mk (blk_below (g := gb137) (o := .cells #[.slice Ao74 t131.length co74, .int .i64 t134] 38 (0, 0)) (by (with_reducible repeat (first | refine blk_drewN ?_ _ | refine blk_drew ?_ | refine blk_alloc ?_ _)); exact BK137.out) hb); have n6_ := Aside0.mk (below_step (by repeat (first | (with_reducible first | exact HB.out | apply below_alloc | apply pw_below_drewN | apply below_drew1 | refine below_set ?_ GE108.out | refine below_set ?_ GE137.out) | exact HB.out)) hb); clear HO_109000; clear HO_138000; clear HO144; clear BK108; clear BK137; clear HB; have HO_109000 := n0_; have HO_138000 := n1_; have HO144 := n2_; have HO148 := n3_; have BK108 := n4_; have BK137 := n5_; have HB := n6_; clear n0_ n1_ n2_ n3_ n4_ n5_ n6_; (try clear hb); (try clear hb2); (try clear hk); (try clear hi); (try clear ho0)))
                                  (try simp only [Act.put, List.setIfInBounds_toArray, List.set_cons_zero, List.set_cons_succ])
                                  go_cut [228] (fun v228 wc => ∃ (kq : Nat) (x228_86 : Bool), v228 = .bool x228_86 ∧ Aside0 (laws_FnQuorums.j8 kq t142 t146 x228_86 = some r) ∧ Aside0 (kq ≤ kj81) ∧ Aside0 (Kd.S (Kd.slice 3 (Kd.int .i64)) 31 wc w.heap.size (fun k_ => some k_ ≠ (v147 : Value).ownBlock ∧ some k_ ≠ ((.slice Ao12 t101.length co12) : Value).ownBlock ∧ some k_ ≠ ((.slice Ao74 t131.length co74) : Value).ownBlock) v143 t142) ∧ Aside0 (Kd.S (Kd.slice 3 (Kd.int .i64)) 31 wc w.heap.size (fun k_ => some k_ ≠ (v143 : Value).ownBlock ∧ some k_ ≠ ((.slice Ao12 t101.length co12) : Value).ownBlock ∧ some k_ ≠ ((.slice Ao74 t131.length co74) : Value).ownBlock) v147 t146) ∧ Aside0 (Kd.R (Kd.int .i64) 3 wc w.heap.size (fun k_ => some k_ ≠ ((.slice Ao74 t131.length co74) : Value).ownBlock) (.slice Ao12 t101.length co12) t101) ∧ Aside0 (Kd.R (Kd.int .i64) 3 wc w.heap.size (fun k_ => some k_ ≠ ((.slice Ao12 t101.length co12) : Value).ownBlock) (.slice Ao74 t131.length co74) t131) ∧ Aside0 (wc.heap[gb108]? = some (.cells #[(.slice Ao12 t101.length co12), .int .i64 t104] 38 (0, 0))) ∧ Aside0 (wc.heap[gb137]? = some (.cells #[(.slice Ao74 t131.length co74), .int .i64 t134] 38 (0, 0))) ∧ Aside0 (Below w.heap.size w wc))
                                  case first =>
                                    have H := HC87.out
                                    clear HC87
                                    by_cases c93 : t145 = true
                                    · subst c93
                                      have H1 : (laws_FnQuorums.j8 kj81 t142 t146 (!t149)) = some r := by rw [if_pos rfl] at H; exact H
                                      clear H
                                      have H := H1
                                      clear H1
                                      have H' := Aside0.mk H
                                      clear H
                                      go_wp2
                                      go_meet
                                      case rel => exact ⟨_, (!t149), (by first | rfl | (simp; done) | (simp [*]; done)), H', ⟨by have := HJ8.out; have := HJ34.out; have := HJ70.out; have := HJ81.out; first | omega | exact Nat.le_refl _⟩, ⟨by (with_reducible repeat (first | apply Kd.S_alloc | apply Kd.S_drewN | apply Kd.S_drew)); exact Kd.S_mono HO144.out (fun _ hk => ⟨hk.2, ⟨hk.1.1.2, hk.1.2⟩⟩)⟩, ⟨by (with_reducible repeat (first | apply Kd.S_alloc | apply Kd.S_drewN | apply Kd.S_drew)); exact Kd.S_mono HO148.out (fun _ hk => ⟨hk.2, ⟨hk.1.1.2, hk.1.2⟩⟩)⟩, ⟨by (with_reducible repeat (first | apply Kd.R_alloc | apply Kd.R_drewN | apply Kd.R_drew)); exact HO_109000.out⟩, ⟨by (with_reducible repeat (first | apply Kd.R_alloc | apply Kd.R_drewN | apply Kd.R_drew)); exact HO_138000.out⟩, ⟨by (with_reducible repeat (first | refine blk_drewN ?_ _ | refine blk_drew ?_ | refine blk_alloc ?_ _)); exact BK108.out⟩, ⟨by (with_reducible repeat (first | refine blk_drewN ?_ _ | refine blk_drew ?_ | refine blk_alloc ?_ _)); exact BK137.out⟩, ⟨by repeat (first | (with_reducible first | exact HB.out | apply below_alloc | apply pw_below_drewN | apply below_drew1 | refine below_set ?_ GE108.out | refine below_set ?_ GE137.out) | exact HB.out)⟩⟩
                                    · replace c93 := Bool.eq_false_iff.mpr c93
                                      subst c93
                                      have H1 : (laws_FnQuorums.j8 kj81 t142 t146 true) = some r := by rw [if_neg (show ¬ (false = true) by decide)] at H; exact H
                                      clear H
                                      have H := H1
                                      clear H1
                                      have H' := Aside0.mk H
                                      clear H
                                      go_wp2
                                      go_meet
                                      case rel => exact ⟨_, (true), (by first | rfl | (simp; done) | (simp [*]; done)), H', ⟨by have := HJ8.out; have := HJ34.out; have := HJ70.out; have := HJ81.out; first | omega | exact Nat.le_refl _⟩, ⟨by (with_reducible repeat (first | apply Kd.S_alloc | apply Kd.S_drewN | apply Kd.S_drew)); exact Kd.S_mono HO144.out (fun _ hk => ⟨hk.2, ⟨hk.1.1.2, hk.1.2⟩⟩)⟩, ⟨by (with_reducible repeat (first | apply Kd.S_alloc | apply Kd.S_drewN | apply Kd.S_drew)); exact Kd.S_mono HO148.out (fun _ hk => ⟨hk.2, ⟨hk.1.1.2, hk.1.2⟩⟩)⟩, ⟨by (with_reducible repeat (first | apply Kd.R_alloc | apply Kd.R_drewN | apply Kd.R_drew)); exact HO_109000.out⟩, ⟨by (with_reducible repeat (first | apply Kd.R_alloc | apply Kd.R_drewN | apply Kd.R_drew)); exact HO_138000.out⟩, ⟨by (with_reducible repeat (first | refine blk_drewN ?_ _ | refine blk_drew ?_ | refine blk_alloc ?_ _)); exact BK108.out⟩, ⟨by (with_reducible repeat (first | refine blk_drewN ?_ _ | refine blk_drew ?_ | refine blk_alloc ?_ _)); exact BK137.out⟩, ⟨by repeat (first | (with_reducible first | exact HB.out | apply below_alloc | apply pw_below_drewN | apply below_drew1 | refine below_set ?_ GE108.out | refine below_set ?_ GE137.out) | exact HB.out)⟩⟩
                                  case rest =>
                                    as_aux_lemma =>
                                      clear HC87
                                      try clear c1
                                      try clear p1
                                      try clear q1
                                      try clear hx1
                                      try clear c2
                                      try clear p2
                                      try clear c3
                                      try clear c3b0
                                      try clear c4
                                      try clear c5
                                      try clear c6
                                      try clear p6
                                      try clear c7
                                      try clear c8
                                      try clear c9
                                      try clear c12
                                      try clear p12
                                      try clear q12
                                      try clear hx12
                                      try clear c18
                                      try clear c20
                                      try clear c22
                                      try clear c22b0
                                      try clear c22b1
                                      try clear c22b2
                                      try clear c23
                                      try clear c23b0
                                      try clear c23b1
                                      try clear c23b2
                                      try clear c24
                                      try clear c24b0
                                      try clear c24b1
                                      try clear c24b2
                                      try clear c26
                                      try clear c32
                                      try clear c33
                                      try clear c34
                                      try clear c36
                                      try clear c37
                                      try clear c38
                                      try clear c38b0
                                      try clear c39
                                      try clear c39b0
                                      try clear c40
                                      try clear c40b0
                                      try clear c41
                                      try clear c45
                                      try clear c46
                                      try clear c46b0
                                      try clear c49
                                      try clear c50
                                      try clear c50b0
                                      try clear c51
                                      try clear c51b0
                                      try clear c52
                                      try clear c52b0
                                      try clear c56
                                      try clear c56b0
                                      try clear c57
                                      try clear c57b0
                                      try clear c58
                                      try clear c58b0
                                      try clear c59
                                      try clear c61
                                      try clear c62
                                      try clear c63
                                      try clear c64
                                      try clear p64
                                      try clear c65
                                      try clear c66
                                      try clear c67
                                      try clear c67b0
                                      try clear c67b1
                                      try clear c67b2
                                      try clear c75
                                      try clear c80
                                      try clear c80b0
                                      try clear c80b1
                                      try clear c80b2
                                      try clear c81
                                      try clear c83
                                      try clear c84
                                      try clear c88
                                      try clear c93
                                      try clear hcz13_0
                                      try clear hcz13_1
                                      try clear hcz16_0
                                      try clear hcz16_1
                                      try clear hcz18_0
                                      try clear hcz18_1
                                      try clear hcz20_0
                                      try clear hcz20_1
                                      try clear hcz30_0
                                      try clear hcz30_1
                                      try clear hcz37_0
                                      try clear hcz37_1
                                      try clear hcz47_0
                                      try clear hcz47_1
                                      try clear hcz48_0
                                      try clear hcz48_1
                                      try clear hcz54_0
                                      try clear hcz54_1
                                      try clear hcz76_0
                                      try clear hcz76_1
                                      try clear hcz78_0
                                      try clear hcz78_1
                                      try clear hcz89_0
                                      try clear hcz89_1
                                      try clear hcz91_0
                                      try clear hcz91_1
                                      try clear hfz13_0
                                      try clear hfz13_1
                                      try clear hfz16_0
                                      try clear hfz16_1
                                      try clear hfz18_0
                                      try clear hfz18_1
                                      try clear hfz20_0
                                      try clear hfz20_1
                                      try clear hfz30_0
                                      try clear hfz30_1
                                      try clear hfz37_0
                                      try clear hfz37_1
                                      try clear hfz47_0
                                      try clear hfz47_1
                                      try clear hfz48_0
                                      try clear hfz48_1
                                      try clear hfz54_0
                                      try clear hfz54_1
                                      try clear hfz76_0
                                      try clear hfz76_1
                                      try clear hfz78_0
                                      try clear hfz78_1
                                      try clear hfz89_0
                                      try clear hfz89_1
                                      try clear hfz91_0
                                      try clear hfz91_1
                                      try clear hx123_0
                                      try clear hx126_0
                                      try clear hx129_0
                                      try clear p1
                                      try clear p12
                                      try clear p123
                                      try clear p126
                                      try clear p129
                                      try clear p2
                                      try clear p6
                                      try clear p64
                                      try clear q1
                                      try clear q12
                                      try clear q123
                                      try clear q126
                                      try clear q129
                                      obtain ⟨kq, x228_86, rfl, HA, HJ86, HO_35, HO_37, HO_109000, HO_138000, BK108, BK137, HB⟩ := hcut
                                      cases kq with
                                      | zero => exact absurd HA.out (by simp [laws_FnQuorums.j8])
                                      | succ kj86 =>
                                        have H := HA.out
                                        clear HA
                                        simp only [laws_FnQuorums.j8] at H
                                        by_cases c94 : x228_86 = true
                                        · subst c94
                                          have H1 : (some false) = some r := by rw [if_pos rfl] at H; exact H
                                          clear H
                                          have H := H1
                                          clear H1
                                          obtain rfl := Option.some.inj H
                                          go_wp2
                                          go_ret
                                          exact ⟨by first | rfl | (simp [errW_none, errW_some] <;> rfl) | (simp [*, errW_none, errW_some] <;> rfl), by repeat (first | (with_reducible first | exact HB.out | apply below_alloc | apply pw_below_drewN | apply below_drew1 | refine below_set ?_ GE108.out | refine below_set ?_ GE137.out) | exact HB.out)⟩
                                        · replace c94 := Bool.eq_false_iff.mpr c94
                                          subst c94
                                          have H1 : (laws_FnQuorums.l3 kj86 t142 t146 (t142.length : Int) 0) = some r := by rw [if_neg (show ¬ (false = true) by decide)] at H; exact H
                                          clear H
                                          have H := H1
                                          clear H1
                                          have H' := Aside0.mk H
                                          clear H
                                          obtain ⟨Ao95, co95, eo95⟩ := Kd.S_slice HO_35.out
                                          subst eo95
                                          go_wp2
                                          go_loopg [231] kj86 (fun kq v231 w' => ∃ (x231_6 : Int), v231 = .int .i64 x231_6 ∧ Aside0 (laws_FnQuorums.l3 kq t142 t146 (t142.length : Int) x231_6 = some r) ∧ Aside0 (kq ≤ kj86) ∧ Aside0 (Kd.S (Kd.slice 3 (Kd.int .i64)) 31 w' w.heap.size (fun k_ => some k_ ≠ (v147 : Value).ownBlock ∧ some k_ ≠ ((.slice Ao12 t101.length co12) : Value).ownBlock ∧ some k_ ≠ ((.slice Ao74 t131.length co74) : Value).ownBlock) (.slice Ao95 t142.length co95) t142) ∧ Aside0 (Kd.S (Kd.slice 3 (Kd.int .i64)) 31 w' w.heap.size (fun k_ => some k_ ≠ ((.slice Ao95 t142.length co95) : Value).ownBlock ∧ some k_ ≠ ((.slice Ao12 t101.length co12) : Value).ownBlock ∧ some k_ ≠ ((.slice Ao74 t131.length co74) : Value).ownBlock) v147 t146) ∧ Aside0 (Kd.R (Kd.int .i64) 3 w' w.heap.size (fun k_ => some k_ ≠ ((.slice Ao74 t131.length co74) : Value).ownBlock) (.slice Ao12 t101.length co12) t101) ∧ Aside0 (Kd.R (Kd.int .i64) 3 w' w.heap.size (fun k_ => some k_ ≠ ((.slice Ao12 t101.length co12) : Value).ownBlock) (.slice Ao74 t131.length co74) t131) ∧ Aside0 (w'.heap[gb108]? = some (.cells #[(.slice Ao12 t101.length co12), .int .i64 t104] 38 (0, 0))) ∧ Aside0 (w'.heap[gb137]? = some (.cells #[(.slice Ao74 t131.length co74), .int .i64 t134] 38 (0, 0))) ∧ Aside0 (Below w.heap.size w w'))
                                          case atStart => exact ⟨(0), (by first | rfl | (simp; done) | (simp [*]; done)), H', ⟨Nat.le_refl _⟩, ⟨by (with_reducible repeat (first | apply Kd.S_alloc | apply Kd.S_drewN | apply Kd.S_drew)); exact HO_35.out⟩, ⟨by (with_reducible repeat (first | apply Kd.S_alloc | apply Kd.S_drewN | apply Kd.S_drew)); exact HO_37.out⟩, ⟨by (with_reducible repeat (first | apply Kd.R_alloc | apply Kd.R_drewN | apply Kd.R_drew)); exact HO_109000.out⟩, ⟨by (with_reducible repeat (first | apply Kd.R_alloc | apply Kd.R_drewN | apply Kd.R_drew)); exact HO_138000.out⟩, ⟨by (with_reducible repeat (first | refine blk_drewN ?_ _ | refine blk_drew ?_ | refine blk_alloc ?_ _)); exact BK108.out⟩, ⟨by (with_reducible repeat (first | refine blk_drewN ?_ _ | refine blk_drew ?_ | refine blk_alloc ?_ _)); exact BK137.out⟩, ⟨by repeat (first | (with_reducible first | exact HB.out | apply below_alloc | apply pw_below_drewN | apply below_drew1 | refine below_set ?_ GE108.out | refine below_set ?_ GE137.out) | exact HB.out)⟩⟩
                                          case round =>
                                            as_aux_lemma =>
                                              clear H'
                                              try clear c1
                                              try clear p1
                                              try clear q1
                                              try clear hx1
                                              try clear c2
                                              try clear p2
                                              try clear c3
                                              try clear c3b0
                                              try clear c4
                                              try clear c5
                                              try clear c6
                                              try clear p6
                                              try clear c7
                                              try clear c8
                                              try clear c9
                                              try clear c12
                                              try clear p12
                                              try clear q12
                                              try clear hx12
                                              try clear c18
                                              try clear c20
                                              try clear c22
                                              try clear c22b0
                                              try clear c22b1
                                              try clear c22b2
                                              try clear c23
                                              try clear c23b0
                                              try clear c23b1
                                              try clear c23b2
                                              try clear c24
                                              try clear c24b0
                                              try clear c24b1
                                              try clear c24b2
                                              try clear c26
                                              try clear c32
                                              try clear c33
                                              try clear c34
                                              try clear c36
                                              try clear c37
                                              try clear c38
                                              try clear c38b0
                                              try clear c39
                                              try clear c39b0
                                              try clear c40
                                              try clear c40b0
                                              try clear c41
                                              try clear c45
                                              try clear c46
                                              try clear c46b0
                                              try clear c49
                                              try clear c50
                                              try clear c50b0
                                              try clear c51
                                              try clear c51b0
                                              try clear c52
                                              try clear c52b0
                                              try clear c56
                                              try clear c56b0
                                              try clear c57
                                              try clear c57b0
                                              try clear c58
                                              try clear c58b0
                                              try clear c59
                                              try clear c61
                                              try clear c62
                                              try clear c63
                                              try clear c64
                                              try clear p64
                                              try clear c65
                                              try clear c66
                                              try clear c67
                                              try clear c67b0
                                              try clear c67b1
                                              try clear c67b2
                                              try clear c75
                                              try clear c80
                                              try clear c80b0
                                              try clear c80b1
                                              try clear c80b2
                                              try clear c81
                                              try clear c83
                                              try clear c84
                                              try clear c88
                                              try clear c93
                                              try clear c94
                                              try clear hcz13_0
                                              try clear hcz13_1
                                              try clear hcz16_0
                                              try clear hcz16_1
                                              try clear hcz18_0
                                              try clear hcz18_1
                                              try clear hcz20_0
                                              try clear hcz20_1
                                              try clear hcz30_0
                                              try clear hcz30_1
                                              try clear hcz37_0
                                              try clear hcz37_1
                                              try clear hcz47_0
                                              try clear hcz47_1
                                              try clear hcz48_0
                                              try clear hcz48_1
                                              try clear hcz54_0
                                              try clear hcz54_1
                                              try clear hcz76_0
                                              try clear hcz76_1
                                              try clear hcz78_0
                                              try clear hcz78_1
                                              try clear hcz89_0
                                              try clear hcz89_1
                                              try clear hcz91_0
                                              try clear hcz91_1
                                              try clear hfz13_0
                                              try clear hfz13_1
                                              try clear hfz16_0
                                              try clear hfz16_1
                                              try clear hfz18_0
                                              try clear hfz18_1
                                              try clear hfz20_0
                                              try clear hfz20_1
                                              try clear hfz30_0
                                              try clear hfz30_1
                                              try clear hfz37_0
                                              try clear hfz37_1
                                              try clear hfz47_0
                                              try clear hfz47_1
                                              try clear hfz48_0
                                              try clear hfz48_1
                                              try clear hfz54_0
                                              try clear hfz54_1
                                              try clear hfz76_0
                                              try clear hfz76_1
                                              try clear hfz78_0
                                              try clear hfz78_1
                                              try clear hfz89_0
                                              try clear hfz89_1
                                              try clear hfz91_0
                                              try clear hfz91_1
                                              try clear hx123_0
                                              try clear hx126_0
                                              try clear hx129_0
                                              try clear p1
                                              try clear p12
                                              try clear p123
                                              try clear p126
                                              try clear p129
                                              try clear p2
                                              try clear p6
                                              try clear p64
                                              try clear q1
                                              try clear q12
                                              try clear q123
                                              try clear q126
                                              try clear q129
                                              obtain ⟨x231_6, rfl, HA, HK6, HO_35, HO_37, HO_109000, HO_138000, BK108, BK137, HB⟩ := hrel
                                              cases gk with
                                              | zero => exact absurd HA.out (by simp [laws_FnQuorums.l3])
                                              | succ k6 =>
                                                have H := HA.out
                                                clear HA
                                                simp only [laws_FnQuorums.l3] at H
                                                by_cases c96 : x231_6 < (t142.length : Int)
                                                · rw [if_pos c96] at H
                                                  have c96b0 : decide (x231_6 < (t142.length : Int)) = true := decide_eq_true c96
                                                  clear c96
                                                  by_cases c97 : 0 ≤ x231_6
                                                  · rw [if_pos c97] at H
                                                    have c97b0 : decide (0 ≤ x231_6) = true := decide_eq_true c97
                                                    clear c97
                                                    by_cases c98 : x231_6 < (t142.length : Int)
                                                    · rw [if_pos c98] at H
                                                      have c98b0 : decide (x231_6 < (t142.length : Int)) = true := decide_eq_true c98
                                                      clear c98
                                                      have H' := Aside0.mk H
                                                      clear H
                                                      have p150 : 0 ≤ (x231_6 : Int) := of_decide_eq_true (by first | (with_reducible assumption) | assumption)
                                                      have q150 : x231_6 < (t142.length : Int) := of_decide_eq_true (by first | (with_reducible assumption) | assumption)
                                                      obtain ⟨ad150, A150_0, c150_0, e150, hx150_0, hl150_0, hi150_0⟩ := at_L1 (Kd.S_reads' HO_35.out).2.2 x231_6 p150 q150
                                                      cases e150
                                                      obtain ⟨ce150, hce150, hMe150, hcc150⟩ := Kd.S_get HO_35.out [] x231_6 p150 (by first | exact q150 | exact of_decide_eq_true (by first | (with_reducible assumption) | assumption) | (have e_ := (Kd.S_reads' HO_35.out).1; omega))
                                                      obtain ⟨ve150_0, rfl, ge150_0⟩ := hMe150
                                                      have hv150_0 := hcc150 0 _ rfl
                                                      rw [Nat.add_zero, show ((Kd.slice 3 (Kd.int .i64))).sz = 1 from rfl, Nat.mul_one] at hv150_0
                                                      replace hv150_0 := Option.some.inj (hv150_0.symm.trans hx150_0)
                                                      rw [hv150_0] at ge150_0
                                                      have HL150_0 := Aside0.mk (show Kd.R (Kd.int .i64) 3 _ _ _ _ (rd_L1 t142 x231_6) from ge150_0)
                                                      clear hv150_0 ge150_0
                                                      clear hcc150 hce150
                                                      have HR150_0 := Aside0.mk hi150_0
                                                      have HC150_0 := Aside0.mk hl150_0
                                                      clear hi150_0 hl150_0
                                                      replace p150 := eq_true p150
                                                      replace q150 := eq_true q150
                                                      obtain ⟨Ao99, co99, eo99⟩ := Kd.S_slice HO_37.out
                                                      subst eo99
                                                      go_wp2
                                                      go_loopg [237] k6 (fun kq v237 w' => ∃ (x237_7 : Int), v237 = .int .i64 x237_7 ∧ Aside0 (laws_FnQuorums.l4 kq t142 t146 (rd_L1 t142 x231_6) (t142.length : Int) x231_6 (t146.length : Int) x237_7 = some r) ∧ Aside0 (kq ≤ k6) ∧ Aside0 (Kd.S (Kd.slice 3 (Kd.int .i64)) 31 w' w.heap.size (fun k_ => some k_ ≠ ((.slice Ao99 t146.length co99) : Value).ownBlock ∧ some k_ ≠ ((.slice Ao12 t101.length co12) : Value).ownBlock ∧ some k_ ≠ ((.slice Ao74 t131.length co74) : Value).ownBlock) (.slice (some ad150) t142.length co95) t142) ∧ Aside0 (Kd.S (Kd.slice 3 (Kd.int .i64)) 31 w' w.heap.size (fun k_ => some k_ ≠ ((.slice (some ad150) t142.length co95) : Value).ownBlock ∧ some k_ ≠ ((.slice Ao12 t101.length co12) : Value).ownBlock ∧ some k_ ≠ ((.slice Ao74 t131.length co74) : Value).ownBlock) (.slice Ao99 t146.length co99) t146) ∧ Aside0 (Kd.R (Kd.int .i64) 3 w' w.heap.size (fun k_ => some k_ ≠ ((.slice Ao74 t131.length co74) : Value).ownBlock) (.slice Ao12 t101.length co12) t101) ∧ Aside0 (Kd.R (Kd.int .i64) 3 w' w.heap.size (fun k_ => some k_ ≠ ((.slice Ao12 t101.length co12) : Value).ownBlock) (.slice Ao74 t131.length co74) t131) ∧ Aside0 (w'.heap[gb108]? = some (.cells #[(.slice Ao12 t101.length co12), .int .i64 t104] 38 (0, 0))) ∧ Aside0 (w'.heap[gb137]? = some (.cells #[(.slice Ao74 t131.length co74), .int .i64 t134] 38 (0, 0))) ∧ Aside0 (Kd.C (Kd.int .i64) w' A150_0 (rd_L1 t142 x231_6).length (rd_L1 t142 x231_6)) ∧ Aside0 (Below w.heap.size w w'))
                                                      case atStart => exact ⟨(0), (by first | rfl | (simp; done) | (simp [*]; done)), H', ⟨Nat.le_refl _⟩, ⟨by (with_reducible repeat (first | apply Kd.S_alloc | apply Kd.S_drewN | apply Kd.S_drew)); exact HO_35.out⟩, ⟨by (with_reducible repeat (first | apply Kd.S_alloc | apply Kd.S_drewN | apply Kd.S_drew)); exact HO_37.out⟩, ⟨by (with_reducible repeat (first | apply Kd.R_alloc | apply Kd.R_drewN | apply Kd.R_drew)); exact HO_109000.out⟩, ⟨by (with_reducible repeat (first | apply Kd.R_alloc | apply Kd.R_drewN | apply Kd.R_drew)); exact HO_138000.out⟩, ⟨by (with_reducible repeat (first | refine blk_drewN ?_ _ | refine blk_drew ?_ | refine blk_alloc ?_ _)); exact BK108.out⟩, ⟨by (with_reducible repeat (first | refine blk_drewN ?_ _ | refine blk_drew ?_ | refine blk_alloc ?_ _)); exact BK137.out⟩, ⟨by repeat (first | (with_reducible exact HR150_0.out) | (with_reducible refine Kd.C_alloc ?_ _) | (with_reducible refine Kd.C_drewN ?_ _) | (with_reducible refine Kd.C_drew ?_) | exact HR150_0.out)⟩, ⟨by repeat (first | (with_reducible first | exact HB.out | apply below_alloc | apply pw_below_drewN | apply below_drew1 | refine below_set ?_ GE108.out | refine below_set ?_ GE137.out) | exact HB.out)⟩⟩
                                                      case round =>
                                                        as_aux_lemma =>
                                                          clear H'
                                                          try clear c1
                                                          try clear p1
                                                          try clear q1
                                                          try clear hx1
                                                          try clear c2
                                                          try clear p2
                                                          try clear c3
                                                          try clear c3b0
                                                          try clear c4
                                                          try clear c5
                                                          try clear c6
                                                          try clear p6
                                                          try clear c7
                                                          try clear c8
                                                          try clear c9
                                                          try clear c12
                                                          try clear p12
                                                          try clear q12
                                                          try clear hx12
                                                          try clear c15
                                                          try clear p15
                                                          try clear q15
                                                          try clear hx15
                                                          try clear c18
                                                          try clear c20
                                                          try clear c22
                                                          try clear c22b0
                                                          try clear c22b1
                                                          try clear c22b2
                                                          try clear c23
                                                          try clear c23b0
                                                          try clear c23b1
                                                          try clear c23b2
                                                          try clear c24
                                                          try clear c24b0
                                                          try clear c24b1
                                                          try clear c24b2
                                                          try clear c26
                                                          try clear c32
                                                          try clear c33
                                                          try clear c34
                                                          try clear c36
                                                          try clear c37
                                                          try clear c38
                                                          try clear c38b0
                                                          try clear c39
                                                          try clear c39b0
                                                          try clear c40
                                                          try clear c40b0
                                                          try clear c41
                                                          try clear c45
                                                          try clear c46
                                                          try clear c46b0
                                                          try clear c49
                                                          try clear c50
                                                          try clear c50b0
                                                          try clear c51
                                                          try clear c51b0
                                                          try clear c52
                                                          try clear c52b0
                                                          try clear c56
                                                          try clear c56b0
                                                          try clear c57
                                                          try clear c57b0
                                                          try clear c58
                                                          try clear c58b0
                                                          try clear c59
                                                          try clear c61
                                                          try clear c62
                                                          try clear c63
                                                          try clear c64
                                                          try clear p64
                                                          try clear c65
                                                          try clear c66
                                                          try clear c67
                                                          try clear c67b0
                                                          try clear c67b1
                                                          try clear c67b2
                                                          try clear c75
                                                          try clear c80
                                                          try clear c80b0
                                                          try clear c80b1
                                                          try clear c80b2
                                                          try clear c81
                                                          try clear c83
                                                          try clear c84
                                                          try clear c88
                                                          try clear c93
                                                          try clear c94
                                                          try clear c96
                                                          try clear c96b0
                                                          try clear c97
                                                          try clear c97b0
                                                          try clear c98
                                                          try clear c98b0
                                                          try clear hcz13_0
                                                          try clear hcz13_1
                                                          try clear hcz16_0
                                                          try clear hcz16_1
                                                          try clear hcz18_0
                                                          try clear hcz18_1
                                                          try clear hcz20_0
                                                          try clear hcz20_1
                                                          try clear hcz30_0
                                                          try clear hcz30_1
                                                          try clear hcz37_0
                                                          try clear hcz37_1
                                                          try clear hcz47_0
                                                          try clear hcz47_1
                                                          try clear hcz48_0
                                                          try clear hcz48_1
                                                          try clear hcz54_0
                                                          try clear hcz54_1
                                                          try clear hcz76_0
                                                          try clear hcz76_1
                                                          try clear hcz78_0
                                                          try clear hcz78_1
                                                          try clear hcz89_0
                                                          try clear hcz89_1
                                                          try clear hcz91_0
                                                          try clear hcz91_1
                                                          try clear hfz13_0
                                                          try clear hfz13_1
                                                          try clear hfz16_0
                                                          try clear hfz16_1
                                                          try clear hfz18_0
                                                          try clear hfz18_1
                                                          try clear hfz20_0
                                                          try clear hfz20_1
                                                          try clear hfz30_0
                                                          try clear hfz30_1
                                                          try clear hfz37_0
                                                          try clear hfz37_1
                                                          try clear hfz47_0
                                                          try clear hfz47_1
                                                          try clear hfz48_0
                                                          try clear hfz48_1
                                                          try clear hfz54_0
                                                          try clear hfz54_1
                                                          try clear hfz76_0
                                                          try clear hfz76_1
                                                          try clear hfz78_0
                                                          try clear hfz78_1
                                                          try clear hfz89_0
                                                          try clear hfz89_1
                                                          try clear hfz91_0
                                                          try clear hfz91_1
                                                          try clear hx123_0
                                                          try clear hx126_0
                                                          try clear hx129_0
                                                          try clear hx150_0
                                                          try clear p1
                                                          try clear p12
                                                          try clear p123
                                                          try clear p126
                                                          try clear p129
                                                          try clear p150
                                                          try clear p2
                                                          try clear p6
                                                          try clear p64
                                                          try clear q1
                                                          try clear q12
                                                          try clear q123
                                                          try clear q126
                                                          try clear q129
                                                          try clear q150
                                                          obtain ⟨x237_7, rfl, HA, HK7, HO_35, HO_37, HO_109000, HO_138000, BK108, BK137, HR150_0, HB⟩ := hrel
                                                          cases gk with
                                                          | zero => exact absurd HA.out (by simp [laws_FnQuorums.l4])
                                                          | succ k7 =>
                                                            have H := HA.out
                                                            clear HA
                                                            simp only [laws_FnQuorums.l4] at H
                                                            by_cases c100 : x237_7 < (t146.length : Int)
                                                            · rw [if_pos c100] at H
                                                              have c100b0 : decide (x237_7 < (t146.length : Int)) = true := decide_eq_true c100
                                                              clear c100
                                                              by_cases c101 : 0 ≤ x237_7
                                                              · rw [if_pos c101] at H
                                                                have c101b0 : decide (0 ≤ x237_7) = true := decide_eq_true c101
                                                                clear c101
                                                                by_cases c102 : x237_7 < (t146.length : Int)
                                                                · rw [if_pos c102] at H
                                                                  have c102b0 : decide (x237_7 < (t146.length : Int)) = true := decide_eq_true c102
                                                                  clear c102
                                                                  have H' := Aside0.mk H
                                                                  clear H
                                                                  have p151 : 0 ≤ (x237_7 : Int) := of_decide_eq_true (by first | (with_reducible assumption) | assumption)
                                                                  have q151 : x237_7 < (t146.length : Int) := of_decide_eq_true (by first | (with_reducible assumption) | assumption)
                                                                  obtain ⟨ad151, A151_0, c151_0, e151, hx151_0, hl151_0, hi151_0⟩ := at_L1 (Kd.S_reads' HO_37.out).2.2 x237_7 p151 q151
                                                                  cases e151
                                                                  obtain ⟨ce151, hce151, hMe151, hcc151⟩ := Kd.S_get HO_37.out [] x237_7 p151 (by first | exact q151 | exact of_decide_eq_true (by first | (with_reducible assumption) | assumption) | (have e_ := (Kd.S_reads' HO_37.out).1; omega))
                                                                  obtain ⟨ve151_0, rfl, ge151_0⟩ := hMe151
                                                                  have hv151_0 := hcc151 0 _ rfl
                                                                  rw [Nat.add_zero, show ((Kd.slice 3 (Kd.int .i64))).sz = 1 from rfl, Nat.mul_one] at hv151_0
                                                                  replace hv151_0 := Option.some.inj (hv151_0.symm.trans hx151_0)
                                                                  rw [hv151_0] at ge151_0
                                                                  have HL151_0 := Aside0.mk (show Kd.R (Kd.int .i64) 3 _ _ _ _ (rd_L1 t146 x237_7) from ge151_0)
                                                                  clear hv151_0 ge151_0
                                                                  clear hcc151 hce151
                                                                  have HR151_0 := Aside0.mk hi151_0
                                                                  have HC151_0 := Aside0.mk hl151_0
                                                                  clear hi151_0 hl151_0
                                                                  replace p151 := eq_true p151
                                                                  replace q151 := eq_true q151
                                                                  go_wp2
                                                                  go_loopg [43, 243] k7 (fun kq v43 v243 w' => ∃ (x43_8 : Bool) (x243_8 : Int), v43 = .bool x43_8 ∧ v243 = .int .i64 x243_8 ∧ Aside0 (laws_FnQuorums.l5 kq t142 t146 (rd_L1 t142 x231_6) (rd_L1 t146 x237_7) x43_8 (t142.length : Int) x231_6 (t146.length : Int) x237_7 (rd_L1 t142 x231_6) ((rd_L1 t142 x231_6).length : Int) x243_8 = some r) ∧ Aside0 (kq ≤ k7) ∧ Aside0 (Kd.S (Kd.slice 3 (Kd.int .i64)) 31 w' w.heap.size (fun k_ => some k_ ≠ ((.slice (some ad151) t146.length co99) : Value).ownBlock ∧ some k_ ≠ ((.slice Ao12 t101.length co12) : Value).ownBlock ∧ some k_ ≠ ((.slice Ao74 t131.length co74) : Value).ownBlock) (.slice (some ad150) t142.length co95) t142) ∧ Aside0 (Kd.S (Kd.slice 3 (Kd.int .i64)) 31 w' w.heap.size (fun k_ => some k_ ≠ ((.slice (some ad150) t142.length co95) : Value).ownBlock ∧ some k_ ≠ ((.slice Ao12 t101.length co12) : Value).ownBlock ∧ some k_ ≠ ((.slice Ao74 t131.length co74) : Value).ownBlock) (.slice (some ad151) t146.length co99) t146) ∧ Aside0 (Kd.R (Kd.int .i64) 3 w' w.heap.size (fun k_ => some k_ ≠ ((.slice Ao74 t131.length co74) : Value).ownBlock) (.slice Ao12 t101.length co12) t101) ∧ Aside0 (Kd.R (Kd.int .i64) 3 w' w.heap.size (fun k_ => some k_ ≠ ((.slice Ao12 t101.length co12) : Value).ownBlock) (.slice Ao74 t131.length co74) t131) ∧ Aside0 (w'.heap[gb108]? = some (.cells #[(.slice Ao12 t101.length co12), .int .i64 t104] 38 (0, 0))) ∧ Aside0 (w'.heap[gb137]? = some (.cells #[(.slice Ao74 t131.length co74), .int .i64 t134] 38 (0, 0))) ∧ Aside0 (Kd.C (Kd.int .i64) w' A150_0 (rd_L1 t142 x231_6).length (rd_L1 t142 x231_6)) ∧ Aside0 (Kd.C (Kd.int .i64) w' A151_0 (rd_L1 t146 x237_7).length (rd_L1 t146 x237_7)) ∧ Aside0 (Below w.heap.size w w'))
                                                                  case atStart => exact ⟨(false), (0), (by first | rfl | (simp; done) | (simp [*]; done)), (by first | rfl | (simp; done) | (simp [*]; done)), H', ⟨Nat.le_refl _⟩, ⟨by (with_reducible repeat (first | apply Kd.S_alloc | apply Kd.S_drewN | apply Kd.S_drew)); exact HO_35.out⟩, ⟨by (with_reducible repeat (first | apply Kd.S_alloc | apply Kd.S_drewN | apply Kd.S_drew)); exact HO_37.out⟩, ⟨by (with_reducible repeat (first | apply Kd.R_alloc | apply Kd.R_drewN | apply Kd.R_drew)); exact HO_109000.out⟩, ⟨by (with_reducible repeat (first | apply Kd.R_alloc | apply Kd.R_drewN | apply Kd.R_drew)); exact HO_138000.out⟩, ⟨by (with_reducible repeat (first | refine blk_drewN ?_ _ | refine blk_drew ?_ | refine blk_alloc ?_ _)); exact BK108.out⟩, ⟨by (with_reducible repeat (first | refine blk_drewN ?_ _ | refine blk_drew ?_ | refine blk_alloc ?_ _)); exact BK137.out⟩, ⟨by repeat (first | (with_reducible exact HR150_0.out) | (with_reducible refine Kd.C_alloc ?_ _) | (with_reducible refine Kd.C_drewN ?_ _) | (with_reducible refine Kd.C_drew ?_) | exact HR150_0.out)⟩, ⟨by repeat (first | (with_reducible exact HR151_0.out) | (with_reducible refine Kd.C_alloc ?_ _) | (with_reducible refine Kd.C_drewN ?_ _) | (with_reducible refine Kd.C_drew ?_) | exact HR151_0.out)⟩, ⟨by repeat (first | (with_reducible first | exact HB.out | apply below_alloc | apply pw_below_drewN | apply below_drew1 | refine below_set ?_ GE108.out | refine below_set ?_ GE137.out) | exact HB.out)⟩⟩
                                                                  case round =>
                                                                    as_aux_lemma =>
                                                                      clear H'
                                                                      try clear c1
                                                                      try clear p1
                                                                      try clear q1
                                                                      try clear hx1
                                                                      try clear c2
                                                                      try clear p2
                                                                      try clear c3
                                                                      try clear c3b0
                                                                      try clear c4
                                                                      try clear c5
                                                                      try clear c6
                                                                      try clear p6
                                                                      try clear c7
                                                                      try clear c8
                                                                      try clear c9
                                                                      try clear c10
                                                                      try clear c12
                                                                      try clear p12
                                                                      try clear q12
                                                                      try clear hx12
                                                                      try clear c15
                                                                      try clear p15
                                                                      try clear q15
                                                                      try clear hx15
                                                                      try clear c18
                                                                      try clear c20
                                                                      try clear c22
                                                                      try clear c22b0
                                                                      try clear c22b1
                                                                      try clear c22b2
                                                                      try clear c23
                                                                      try clear c23b0
                                                                      try clear c23b1
                                                                      try clear c23b2
                                                                      try clear c24
                                                                      try clear c24b0
                                                                      try clear c24b1
                                                                      try clear c24b2
                                                                      try clear c26
                                                                      try clear c32
                                                                      try clear c33
                                                                      try clear c34
                                                                      try clear c36
                                                                      try clear c37
                                                                      try clear c38
                                                                      try clear c38b0
                                                                      try clear c39
                                                                      try clear c39b0
                                                                      try clear c40
                                                                      try clear c40b0
                                                                      try clear c41
                                                                      try clear c45
                                                                      try clear c46
                                                                      try clear c46b0
                                                                      try clear c49
                                                                      try clear c50
                                                                      try clear c50b0
                                                                      try clear c51
                                                                      try clear c51b0
                                                                      try clear c52
                                                                      try clear c52b0
                                                                      try clear c56
                                                                      try clear c56b0
                                                                      try clear c57
                                                                      try clear c57b0
                                                                      try clear c58
                                                                      try clear c58b0
                                                                      try clear c59
                                                                      try clear c61
                                                                      try clear c62
                                                                      try clear c63
                                                                      try clear c64
                                                                      try clear p64
                                                                      try clear c65
                                                                      try clear c66
                                                                      try clear c67
                                                                      try clear c67b0
                                                                      try clear c67b1
                                                                      try clear c67b2
                                                                      try clear c75
                                                                      try clear c80
                                                                      try clear c80b0
                                                                      try clear c80b1
                                                                      try clear c80b2
                                                                      try clear c81
                                                                      try clear c83
                                                                      try clear c84
                                                                      try clear c88
                                                                      try clear c93
                                                                      try clear c94
                                                                      try clear c96
                                                                      try clear c96b0
                                                                      try clear c97
                                                                      try clear c97b0
                                                                      try clear c98
                                                                      try clear c98b0
                                                                      try clear c100
                                                                      try clear c100b0
                                                                      try clear c101
                                                                      try clear c101b0
                                                                      try clear c102
                                                                      try clear c102b0
                                                                      try clear hcz13_0
                                                                      try clear hcz13_1
                                                                      try clear hcz16_0
                                                                      try clear hcz16_1
                                                                      try clear hcz18_0
                                                                      try clear hcz18_1
                                                                      try clear hcz20_0
                                                                      try clear hcz20_1
                                                                      try clear hcz30_0
                                                                      try clear hcz30_1
                                                                      try clear hcz37_0
                                                                      try clear hcz37_1
                                                                      try clear hcz47_0
                                                                      try clear hcz47_1
                                                                      try clear hcz48_0
                                                                      try clear hcz48_1
                                                                      try clear hcz54_0
                                                                      try clear hcz54_1
                                                                      try clear hcz76_0
                                                                      try clear hcz76_1
                                                                      try clear hcz78_0
                                                                      try clear hcz78_1
                                                                      try clear hcz89_0
                                                                      try clear hcz89_1
                                                                      try clear hcz91_0
                                                                      try clear hcz91_1
                                                                      try clear hfz13_0
                                                                      try clear hfz13_1
                                                                      try clear hfz16_0
                                                                      try clear hfz16_1
                                                                      try clear hfz18_0
                                                                      try clear hfz18_1
                                                                      try clear hfz20_0
                                                                      try clear hfz20_1
                                                                      try clear hfz30_0
                                                                      try clear hfz30_1
                                                                      try clear hfz37_0
                                                                      try clear hfz37_1
                                                                      try clear hfz47_0
                                                                      try clear hfz47_1
                                                                      try clear hfz48_0
                                                                      try clear hfz48_1
                                                                      try clear hfz54_0
                                                                      try clear hfz54_1
                                                                      try clear hfz76_0
                                                                      try clear hfz76_1
                                                                      try clear hfz78_0
                                                                      try clear hfz78_1
                                                                      try clear hfz89_0
                                                                      try clear hfz89_1
                                                                      try clear hfz91_0
                                                                      try clear hfz91_1
                                                                      try clear hx123_0
                                                                      try clear hx126_0
                                                                      try clear hx129_0
                                                                      try clear hx150_0
                                                                      try clear hx151_0
                                                                      try clear p1
                                                                      try clear p12
                                                                      try clear p123
                                                                      try clear p126
                                                                      try clear p129
                                                                      try clear p15
                                                                      try clear p150
                                                                      try clear p151
                                                                      try clear p2
                                                                      try clear p6
                                                                      try clear p64
                                                                      try clear q1
                                                                      try clear q12
                                                                      try clear q123
                                                                      try clear q126
                                                                      try clear q129
                                                                      try clear q15
                                                                      try clear q150
                                                                      try clear q151
                                                                      obtain ⟨x43_8, x243_8, rfl, rfl, HA, HK8, HO_35, HO_37, HO_109000, HO_138000, BK108, BK137, HR150_0, HR151_0, HB⟩ := hrel
                                                                      cases gk with
                                                                      | zero => exact absurd HA.out (by simp [laws_FnQuorums.l5])
                                                                      | succ k8 =>
                                                                        have H := HA.out
                                                                        clear HA
                                                                        simp only [laws_FnQuorums.l5] at H
                                                                        by_cases c103 : x243_8 < ((rd_L1 t142 x231_6).length : Int)
                                                                        · rw [if_pos c103] at H
                                                                          have c103b0 : decide (x243_8 < ((rd_L1 t142 x231_6).length : Int)) = true := decide_eq_true c103
                                                                          clear c103
                                                                          by_cases c104 : 0 ≤ x243_8
                                                                          · rw [if_pos c104] at H
                                                                            have c104b0 : decide (0 ≤ x243_8) = true := decide_eq_true c104
                                                                            clear c104
                                                                            by_cases c105 : x243_8 < ((rd_L1 t142 x231_6).length : Int)
                                                                            · rw [if_pos c105] at H
                                                                              have c105b0 : decide (x243_8 < ((rd_L1 t142 x231_6).length : Int)) = true := decide_eq_true c105
                                                                              clear c105
                                                                              by_cases c106 : x43_8 = true
                                                                              · subst c106
                                                                                have H1 : (laws_FnQuorums.l5 k8 t142 t146 (rd_L1 t142 x231_6) (rd_L1 t146 x237_7) true (t142.length : Int) x231_6 (t146.length : Int) x237_7 (rd_L1 t142 x231_6) ((rd_L1 t142 x231_6).length : Int) (wrap64 (x243_8 + 1))) = some r := by rw [if_pos rfl] at H; exact H
                                                                                clear H
                                                                                have H := H1
                                                                                clear H1
                                                                                have H' := Aside0.mk H
                                                                                clear H
                                                                                have p152 : 0 ≤ (x243_8 : Int) := of_decide_eq_true (by first | (with_reducible assumption) | assumption)
                                                                                have q152 : x243_8 < ((rd_L1 t142 x231_6).length : Int) := of_decide_eq_true (by first | (with_reducible assumption) | assumption)
                                                                                obtain ⟨ad152, e152, hx152_0⟩ := Kd.at_int HR150_0.out x243_8 p152 q152
                                                                                cases e152
                                                                                replace p152 := eq_true p152
                                                                                replace q152 := eq_true q152
                                                                                go_wp2
                                                                                go_roundg k8
                                                                                case measure => have := HJ8.out; have := HJ34.out; have := HJ70.out; have := HJ81.out; have := HJ86.out; have := HK6.out; have := HK7.out; have := HK8.out; omega
                                                                                case rel => exact ⟨(true), (wrap64 (x243_8 + 1)), (by first | rfl | (simp; done) | (simp [*]; done)), (by first | rfl | (simp; done) | (simp [*]; done)), H', ⟨by have := HJ8.out; have := HJ34.out; have := HJ70.out; have := HJ81.out; have := HJ86.out; have := HK6.out; have := HK7.out; have := HK8.out; omega⟩, ⟨by (with_reducible repeat (first | apply Kd.S_alloc | apply Kd.S_drewN | apply Kd.S_drew)); exact HO_35.out⟩, ⟨by (with_reducible repeat (first | apply Kd.S_alloc | apply Kd.S_drewN | apply Kd.S_drew)); exact HO_37.out⟩, ⟨by (with_reducible repeat (first | apply Kd.R_alloc | apply Kd.R_drewN | apply Kd.R_drew)); exact HO_109000.out⟩, ⟨by (with_reducible repeat (first | apply Kd.R_alloc | apply Kd.R_drewN | apply Kd.R_drew)); exact HO_138000.out⟩, ⟨by (with_reducible repeat (first | refine blk_drewN ?_ _ | refine blk_drew ?_ | refine blk_alloc ?_ _)); exact BK108.out⟩, ⟨by (with_reducible repeat (first | refine blk_drewN ?_ _ | refine blk_drew ?_ | refine blk_alloc ?_ _)); exact BK137.out⟩, ⟨by repeat (first | (with_reducible exact HR150_0.out) | (with_reducible refine Kd.C_alloc ?_ _) | (with_reducible refine Kd.C_drewN ?_ _) | (with_reducible refine Kd.C_drew ?_) | exact HR150_0.out)⟩, ⟨by repeat (first | (with_reducible exact HR151_0.out) | (with_reducible refine Kd.C_alloc ?_ _) | (with_reducible refine Kd.C_drewN ?_ _) | (with_reducible refine Kd.C_drew ?_) | exact HR151_0.out)⟩, ⟨by repeat (first | (with_reducible first | exact HB.out | apply below_alloc | apply pw_below_drewN | apply below_drew1 | refine below_set ?_ GE108.out | refine below_set ?_ GE137.out) | exact HB.out)⟩⟩
                                                                              · replace c106 := Bool.eq_false_iff.mpr c106
                                                                                subst c106
                                                                                have H1 : ((laws_has.f k8 (rd_L1 t146 x237_7) (rd (rd_L1 t142 x231_6) x243_8)).bind fun t153 => (laws_FnQuorums.l5 k8 t142 t146 (rd_L1 t142 x231_6) (rd_L1 t146 x237_7) t153 (t142.length : Int) x231_6 (t146.length : Int) x237_7 (rd_L1 t142 x231_6) ((rd_L1 t142 x231_6).length : Int) (wrap64 (x243_8 + 1)))) = some r := by rw [if_neg (show ¬ (false = true) by decide)] at H; exact H
                                                                                clear H
                                                                                have H := H1
                                                                                clear H1
                                                                                replace H := Option.bind_eq_some_iff.mp H
                                                                                obtain ⟨t153, A1070, H⟩ := H
                                                                                replace H : (laws_FnQuorums.l5 k8 t142 t146 (rd_L1 t142 x231_6) (rd_L1 t146 x237_7) t153 (t142.length : Int) x231_6 (t146.length : Int) x237_7 (rd_L1 t142 x231_6) ((rd_L1 t142 x231_6).length : Int) (wrap64 (x243_8 + 1))) = some r := H
                                                                                have A107 := Aside0.mk A1070
                                                                                clear A1070
                                                                                have H' := Aside0.mk H
                                                                                clear H
                                                                                have p152 : 0 ≤ (x243_8 : Int) := of_decide_eq_true (by first | (with_reducible assumption) | assumption)
                                                                                have q152 : x243_8 < ((rd_L1 t142 x231_6).length : Int) := of_decide_eq_true (by first | (with_reducible assumption) | assumption)
                                                                                obtain ⟨ad152, e152, hx152_0⟩ := Kd.at_int HR150_0.out x243_8 p152 q152
                                                                                cases e152
                                                                                replace p152 := eq_true p152
                                                                                replace q152 := eq_true q152
                                                                                go_wp2_with (first | (go_at_call 38; (with_reducible refine (laws_has.calls k8 _ _ (rd_L1 t146 x237_7) (rd (rd_L1 t142 x231_6) x243_8) t153 _ ?side1 ?side2 A107.out).mono ?_); (case side1 => repeat (first | exact HR151_0.out | (with_reducible refine Kd.C_alloc ?_ _) | (with_reducible refine Kd.C_drewN ?_ _) | (with_reducible refine Kd.C_drew ?_))); (case side2 => exact HC151_0.out); rintro e w' ⟨rfl, ⟨nd, rfl⟩⟩))
                                                                                go_roundg k8
                                                                                case measure => have := HJ8.out; have := HJ34.out; have := HJ70.out; have := HJ81.out; have := HJ86.out; have := HK6.out; have := HK7.out; have := HK8.out; omega
                                                                                case rel => exact ⟨(t153), (wrap64 (x243_8 + 1)), (by first | rfl | (simp; done) | (simp [*]; done)), (by first | rfl | (simp; done) | (simp [*]; done)), H', ⟨by have := HJ8.out; have := HJ34.out; have := HJ70.out; have := HJ81.out; have := HJ86.out; have := HK6.out; have := HK7.out; have := HK8.out; omega⟩, ⟨by (with_reducible repeat (first | apply Kd.S_alloc | apply Kd.S_drewN | apply Kd.S_drew)); exact HO_35.out⟩, ⟨by (with_reducible repeat (first | apply Kd.S_alloc | apply Kd.S_drewN | apply Kd.S_drew)); exact HO_37.out⟩, ⟨by (with_reducible repeat (first | apply Kd.R_alloc | apply Kd.R_drewN | apply Kd.R_drew)); exact HO_109000.out⟩, ⟨by (with_reducible repeat (first | apply Kd.R_alloc | apply Kd.R_drewN | apply Kd.R_drew)); exact HO_138000.out⟩, ⟨by (with_reducible repeat (first | refine blk_drewN ?_ _ | refine blk_drew ?_ | refine blk_alloc ?_ _)); exact BK108.out⟩, ⟨by (with_reducible repeat (first | refine blk_drewN ?_ _ | refine blk_drew ?_ | refine blk_alloc ?_ _)); exact BK137.out⟩, ⟨by repeat (first | (with_reducible exact HR150_0.out) | (with_reducible refine Kd.C_alloc ?_ _) | (with_reducible refine Kd.C_drewN ?_ _) | (with_reducible refine Kd.C_drew ?_) | exact HR150_0.out)⟩, ⟨by repeat (first | (with_reducible exact HR151_0.out) | (with_reducible refine Kd.C_alloc ?_ _) | (with_reducible refine Kd.C_drewN ?_ _) | (with_reducible refine Kd.C_drew ?_) | exact HR151_0.out)⟩, ⟨by repeat (first | (with_reducible first | exact HB.out | apply below_alloc | apply pw_below_drewN | apply below_drew1 | refine below_set ?_ GE108.out | refine below_set ?_ GE137.out) | exact HB.out)⟩⟩
                                                                            · rw [if_neg c105] at H
                                                                              exact absurd H (by simp)
                                                                          · rw [if_neg c104] at H
                                                                            exact absurd H (by simp)
                                                                        · rw [if_neg c103] at H
                                                                          have c103b0 : decide (x243_8 < ((rd_L1 t142 x231_6).length : Int)) = false := decide_eq_false c103
                                                                          clear c103
                                                                          by_cases c108 : x43_8 = true
                                                                          · subst c108
                                                                            have H1 : (laws_FnQuorums.l4 k8 t142 t146 (rd_L1 t142 x231_6) (t142.length : Int) x231_6 (t146.length : Int) (wrap64 (x237_7 + 1))) = some r := by rw [if_pos rfl] at H; exact H
                                                                            clear H
                                                                            have H := H1
                                                                            clear H1
                                                                            have H' := Aside0.mk H
                                                                            clear H
                                                                            go_wp2
                                                                            go_roundg k8
                                                                            case measure => have := HJ8.out; have := HJ34.out; have := HJ70.out; have := HJ81.out; have := HJ86.out; have := HK6.out; have := HK7.out; have := HK8.out; omega
                                                                            case rel => exact ⟨(wrap64 (x237_7 + 1)), (by first | rfl | (simp; done) | (simp [*]; done)), H', ⟨by have := HJ8.out; have := HJ34.out; have := HJ70.out; have := HJ81.out; have := HJ86.out; have := HK6.out; have := HK7.out; have := HK8.out; omega⟩, ⟨by (with_reducible repeat (first | apply Kd.S_alloc | apply Kd.S_drewN | apply Kd.S_drew)); exact HO_35.out⟩, ⟨by (with_reducible repeat (first | apply Kd.S_alloc | apply Kd.S_drewN | apply Kd.S_drew)); exact HO_37.out⟩, ⟨by (with_reducible repeat (first | apply Kd.R_alloc | apply Kd.R_drewN | apply Kd.R_drew)); exact HO_109000.out⟩, ⟨by (with_reducible repeat (first | apply Kd.R_alloc | apply Kd.R_drewN | apply Kd.R_drew)); exact HO_138000.out⟩, ⟨by (with_reducible repeat (first | refine blk_drewN ?_ _ | refine blk_drew ?_ | refine blk_alloc ?_ _)); exact BK108.out⟩, ⟨by (with_reducible repeat (first | refine blk_drewN ?_ _ | refine blk_drew ?_ | refine blk_alloc ?_ _)); exact BK137.out⟩, ⟨by repeat (first | (with_reducible exact HR150_0.out) | (with_reducible refine Kd.C_alloc ?_ _) | (with_reducible refine Kd.C_drewN ?_ _) | (with_reducible refine Kd.C_drew ?_) | exact HR150_0.out)⟩, ⟨by repeat (first | (with_reducible first | exact HB.out | apply below_alloc | apply pw_below_drewN | apply below_drew1 | refine below_set ?_ GE108.out | refine below_set ?_ GE137.out) | exact HB.out)⟩⟩
                                                                          · replace c108 := Bool.eq_false_iff.mpr c108
                                                                            subst c108
                                                                            have H1 : (some false) = some r := by rw [if_neg (show ¬ (false = true) by decide)] at H; exact H
                                                                            clear H
                                                                            have H := H1
                                                                            clear H1
                                                                            obtain rfl := Option.some.inj H
                                                                            go_wp2
                                                                            go_ret
                                                                            exact ⟨by first | rfl | (simp [errW_none, errW_some] <;> rfl) | (simp [*, errW_none, errW_some] <;> rfl), by repeat (first | (with_reducible first | exact HB.out | apply below_alloc | apply pw_below_drewN | apply below_drew1 | refine below_set ?_ GE108.out | refine below_set ?_ GE137.out) | exact HB.out)⟩
                                                                · rw [if_neg c102] at H
                                                                  exact absurd H (by simp)
                                                              · rw [if_neg c101] at H
                                                                exact absurd H (by simp)
                                                            · rw [if_neg c100] at H
                                                              have c100b0 : decide (x237_7 < (t146.length : Int)) = false := decide_eq_false c100
                                                              clear c100
                                                              have H' := Aside0.mk H
                                                              clear H
                                                              go_wp2
                                                              go_roundg k7
                                                              case measure => have := HJ8.out; have := HJ34.out; have := HJ70.out; have := HJ81.out; have := HJ86.out; have := HK6.out; have := HK7.out; omega
                                                              case rel => exact ⟨(wrap64 (x231_6 + 1)), (by first | rfl | (simp; done) | (simp [*]; done)), H', ⟨by have := HJ8.out; have := HJ34.out; have := HJ70.out; have := HJ81.out; have := HJ86.out; have := HK6.out; have := HK7.out; omega⟩, ⟨by (with_reducible repeat (first | apply Kd.S_alloc | apply Kd.S_drewN | apply Kd.S_drew)); exact HO_35.out⟩, ⟨by (with_reducible repeat (first | apply Kd.S_alloc | apply Kd.S_drewN | apply Kd.S_drew)); exact HO_37.out⟩, ⟨by (with_reducible repeat (first | apply Kd.R_alloc | apply Kd.R_drewN | apply Kd.R_drew)); exact HO_109000.out⟩, ⟨by (with_reducible repeat (first | apply Kd.R_alloc | apply Kd.R_drewN | apply Kd.R_drew)); exact HO_138000.out⟩, ⟨by (with_reducible repeat (first | refine blk_drewN ?_ _ | refine blk_drew ?_ | refine blk_alloc ?_ _)); exact BK108.out⟩, ⟨by (with_reducible repeat (first | refine blk_drewN ?_ _ | refine blk_drew ?_ | refine blk_alloc ?_ _)); exact BK137.out⟩, ⟨by repeat (first | (with_reducible first | exact HB.out | apply below_alloc | apply pw_below_drewN | apply below_drew1 | refine below_set ?_ GE108.out | refine below_set ?_ GE137.out) | exact HB.out)⟩⟩
                                                    · rw [if_neg c98] at H
                                                      exact absurd H (by simp)
                                                  · rw [if_neg c97] at H
                                                    exact absurd H (by simp)
                                                · rw [if_neg c96] at H
                                                  have c96b0 : decide (x231_6 < (t142.length : Int)) = false := decide_eq_false c96
                                                  clear c96
                                                  obtain rfl := Option.some.inj H
                                                  go_wp2
                                                  go_ret
                                                  exact ⟨by first | rfl | (simp [errW_none, errW_some] <;> rfl) | (simp [*, errW_none, errW_some] <;> rfl), by repeat (first | (with_reducible first | exact HB.out | apply below_alloc | apply pw_below_drewN | apply below_drew1 | refine below_set ?_ GE108.out | refine below_set ?_ GE137.out) | exact HB.out)⟩
                                · replace c84 := Bool.eq_false_iff.mpr c84
                                  subst c84
                                  have H1 : (some true) = some r := by rw [if_neg (show ¬ (false = true) by decide)] at H; exact H
                                  clear H
                                  have H := H1
                                  clear H1
                                  obtain rfl := Option.some.inj H
                                  go_wp2
                                  go_ret
                                  exact ⟨by first | rfl | (simp [errW_none, errW_some] <;> rfl) | (simp [*, errW_none, errW_some] <;> rfl), by repeat (first | (with_reducible first | exact HB.out | apply below_alloc | apply pw_below_drewN | apply below_drew1 | refine below_set ?_ GE108.out | refine below_set ?_ GE137.out) | exact HB.out)⟩
def laws_FnQuorums.Pure : Prop := ∀ (l0 : List Int) (l1 : List Int), l0.length ≤ maxLen → l0.length * 1 ≤ 140737488351232 → (∀ x ∈ l0, (Lit.int .u8 x).wf = true) → l1.length ≤ maxLen → l1.length * 1 ≤ 140737488351232 → (∀ x ∈ l1, (Lit.int .u8 x).wf = true) → ∃ k, laws_FnQuorums.f k l0 l1 = some true
theorem laws_FnQuorums.walk (P : laws_FnQuorums.Pure) (a0 : Option Addr) (len0 cap0 : Nat) (z0 : List Int) (a1 : Option Addr) (len1 cap1 : Nat) (z1 : List Int) (w : World) (w0 : (a0 = none ∧ len0 = 0 ∧ cap0 = 0 ∧ z0 = []) ∨ ∃ x, a0 = some x ∧ len0 ≤ cap0 ∧ cap0 ≤ maxLen ∧ z0.length = cap0 ∧ (∀ i, i < z0.length → w.cell? (x.add i) = some (.int .u8 (z0.getD i 0))) ∧ ∀ n ∈ z0, (Lit.int .u8 n).wf = true) (y0 : len0 * 1 ≤ 140737488351232) (w1 : (a1 = none ∧ len1 = 0 ∧ cap1 = 0 ∧ z1 = []) ∨ ∃ x, a1 = some x ∧ len1 ≤ cap1 ∧ cap1 ≤ maxLen ∧ z1.length = cap1 ∧ (∀ i, i < z1.length → w.cell? (x.add i) = some (.int .u8 (z1.getD i 0))) ∧ ∀ n ∈ z1, (Lit.int .u8 n).wf = true) (y1 : len1 * 1 ≤ 140737488351232) :
    Calls Try.prog 8 #[.slice a0 len0 cap0, .slice a1 len1 cap1] w fun e w' => e = .returned (.bool true) ∧ Below w.heap.size w w' := by
  obtain ⟨l0, rfl, hr0, hm0, hw0, hc0⟩ := ReadsInt.ofRowC w0
  obtain ⟨l1, rfl, hr1, hm1, hw1, hc1⟩ := ReadsInt.ofRowC w1
  obtain ⟨k, h⟩ := P l0 l1 hm0 y0 hw0 hm1 y1 hw1
  refine (laws_FnQuorums.calls k _ _ l0 _ _ l1 true w (Kd.C_of_reads (d := (0 : Int)) (h1 := fun _ => rfl) hr0) hc0 (Kd.C_of_reads (d := (0 : Int)) (h1 := fun _ => rfl) hr1) hc1 h).mono ?_
  rintro e w' ⟨rfl, hd⟩
  exact ⟨rfl, hd⟩
end Go.Proofs.Ytjngkfepppejeaa.P
end
