-- Written by programs of this session (wip/prune.py, wip/xp.py), out of the translation and the printed words; what the law does not reach is left out. Not trusted: Lean checks it.
import Derived.Test.YtjngkfepppejeaaZFnCoteriesPx0
import Derived.Test.YtjngkfepppejeaaZFnCoteriesPx10
import Derived.Test.YtjngkfepppejeaaZFnCoteriesPx4
import Derived.Test.YtjngkfepppejeaaZFnCoteriesPx6
import Derived.Test.YtjngkfepppejeaaZFnCoteriesPx9
section
namespace Go.Proofs.Ytjngkfepppejeaa.P
open Go.RowKit Go.Proofs.YtjngkfepppejeaaW.PrintWords Go.Proofs.YtjngkfepppejeaaW.PrintLast Go.Proofs.YtjngkfepppejeaaW.PrintMore
attribute [local go_sem] max2_int min2_int max_two min_two max_three min_three max_four min_four   -- for this text's walks alone
set_option linter.unusedVariables false
set_option linter.unusedSimpArgs false
mutual
def laws_FnCoteries.j0 : Nat → List Int → List (List Int) → List (List Int) → Bool → Bool → Bool → Bool → Option (Bool)
 | 0, _, _, _, _, _, _, _ => none
 | k + 1, x1, x6, x7, x8, x11, x12, x134 => if x134 = true then (some false) else (if x8 = true then (laws_FnCoteries.l0 k x1 x6 x7 x11 x12 (x7.length : Int) 0) else (laws_FnCoteries.j9 k x1))
def laws_FnCoteries.j9 : Nat → List Int → Option (Bool)
 | 0, _ => none
 | k + 1, x1 => (spec_DrawDominates.f k x1).bind fun bt142 => ((impl_Dominates.f k bt142.1 bt142.2).bind fun bt148 => ((spec_Dominates.f k bt142.1 bt142.2).bind fun bt150 => ((spec_DrawSurvives.f k x1).bind fun bt152 => ((impl_Survives.f k bt152.1 bt152.2).bind fun bt158 => ((spec_Survives.f k bt152.1 bt152.2).bind fun bt160 => ((spec_DrawGridQuorums.f x1).bind fun bt162 => ((impl_GridQuorums.f k bt162.1 bt162.2).bind fun bt164 => ((spec_GridQuorums.f k bt162.1 bt162.2).bind fun bt168 => (if (bt148.2 != bt150.2) = true then (laws_FnCoteries.j10 k bt142.1 bt142.2 bt148.1 bt148.2 bt162.1 bt162.2 bt164.1 bt164.2 true) else (if (bt148.1 != bt150.1) = true then (laws_FnCoteries.j10 k bt142.1 bt142.2 bt148.1 bt148.2 bt162.1 bt162.2 bt164.1 bt164.2 true) else (if (bt158.2 != bt160.2) = true then (laws_FnCoteries.j10 k bt142.1 bt142.2 bt148.1 bt148.2 bt162.1 bt162.2 bt164.1 bt164.2 true) else (if (bt158.1 != bt160.1) = true then (laws_FnCoteries.j10 k bt142.1 bt142.2 bt148.1 bt148.2 bt162.1 bt162.2 bt164.1 bt164.2 true) else (if (bt164.2 != bt168.2) = true then (laws_FnCoteries.j10 k bt142.1 bt142.2 bt148.1 bt148.2 bt162.1 bt162.2 bt164.1 bt164.2 true) else ((laws_sameLists.f k bt164.1 bt168.1).bind fun t172 => (laws_FnCoteries.j10 k bt142.1 bt142.2 bt148.1 bt148.2 bt162.1 bt162.2 bt164.1 bt164.2 (!t172))))))))))))))))
def laws_FnCoteries.j10 : Nat → List (List Int) → List (List Int) → Bool → Bool → Int → Int → List (List Int) → Bool → Bool → Option (Bool)
 | 0, _, _, _, _, _, _, _, _, _ => none
 | k + 1, x34, x35, x36, x37, x46, x47, x48, x49, x297 => if x297 = true then (some false) else (if x49 = true then ((impl_AllMeet.f k x48).bind fun bt173 => (if bt173.2 = true then (if bt173.1 = true then (laws_FnCoteries.j11 k x34 x35 x36 x37 ((x48.length : Int) != (wrap64 (x46 * x47)))) else (laws_FnCoteries.j11 k x34 x35 x36 x37 true)) else (laws_FnCoteries.j11 k x34 x35 x36 x37 true))) else (laws_FnCoteries.j12 k x34 x35 x36 x37))
def laws_FnCoteries.j12 : Nat → List (List Int) → List (List Int) → Bool → Bool → Option (Bool)
 | 0, _, _, _, _ => none
 | k + 1, x34, x35, x36, x37 => if x37 = true then ((impl_Dominates.f k x35 x34).bind fun bt175 => (if bt175.2 = true then (if x36 = true then (some (!bt175.1)) else (some (!false))) else (some false))) else (some true)
def laws_FnCoteries.j11 : Nat → List (List Int) → List (List Int) → Bool → Bool → Bool → Option (Bool)
 | 0, _, _, _, _, _ => none
 | k + 1, x34, x35, x36, x37, x317 => if x317 = true then (some false) else (laws_FnCoteries.j12 k x34 x35 x36 x37)
def laws_FnCoteries.l0 : Nat → List Int → List (List Int) → List (List Int) → Bool → Bool → Int → Int → Option (Bool)
 | 0, _, _, _, _, _, _, _ => none
 | k + 1, x1, x6, x7, x11, x12, x137, x138 => if x138 < x137 then (if 0 ≤ x138 then (if x138 < (x7.length : Int) then ((impl_Survives.f k x6 (rd_L1 x7 x138)).bind fun bt123 => (if bt123.2 = true then (laws_FnCoteries.j2 k x1 x6 x7 x11 x12 (rd_L1 x7 x138) x137 x138 bt123.1) else (laws_FnCoteries.j2 k x1 x6 x7 x11 x12 (rd_L1 x7 x138) x137 x138 true))) else (none)) else (none)) else (if x12 = true then (laws_FnCoteries.j5 k x1 x6 x7 x11) else (laws_FnCoteries.j5 k x1 x6 x7 false))
def laws_FnCoteries.j2 : Nat → List Int → List (List Int) → List (List Int) → Bool → Bool → List Int → Int → Int → Bool → Option (Bool)
 | 0, _, _, _, _, _, _, _, _, _ => none
 | k + 1, x1, x6, x7, x11, x12, x20, x137, x138, x152 => if x152 = true then (some false) else (laws_FnCoteries.l1 k x1 x6 x7 x11 x12 x20 x137 x138 (x20.length : Int) 0)
def laws_FnCoteries.l1 : Nat → List Int → List (List Int) → List (List Int) → Bool → Bool → List Int → Int → Int → Int → Int → Option (Bool)
 | 0, _, _, _, _, _, _, _, _, _, _ => none
 | k + 1, x1, x6, x7, x11, x12, x20, x137, x138, x154, x155 => if x155 < x154 then ((some (([] : List Int) : List Int)).bind fun y125 => (if 0 ≤ x155 then (if x155 ≤ (x20.length : Int) then (if y125.length + (x20.take (x155 : Int).toNat).length < 17592186044416 then ((some (y125 ++ (x20.take (x155 : Int).toNat) : List Int)).bind fun y129 => (if 0 ≤ (wrap64 (x155 + 1)) then (if (wrap64 (x155 + 1)) ≤ (x20.length : Int) then (if y129.length + (x20.drop ((wrap64 (x155 + 1)) : Int).toNat).length < 17592186044416 then ((impl_Survives.f k x6 (y129 ++ (x20.drop ((wrap64 (x155 + 1)) : Int).toNat))).bind fun bt136 => (if bt136.2 = true then (laws_FnCoteries.j4 k x1 x6 x7 x11 x12 x20 x137 x138 x154 x155 (!bt136.1)) else (laws_FnCoteries.j4 k x1 x6 x7 x11 x12 x20 x137 x138 x154 x155 true))) else (none)) else (none)) else (none))) else (none)) else (none)) else (none))) else (laws_FnCoteries.l0 k x1 x6 x7 x11 x12 x137 (wrap64 (x138 + 1)))
def laws_FnCoteries.j4 : Nat → List Int → List (List Int) → List (List Int) → Bool → Bool → List Int → Int → Int → Int → Int → Bool → Option (Bool)
 | 0, _, _, _, _, _, _, _, _, _, _, _ => none
 | k + 1, x1, x6, x7, x11, x12, x20, x137, x138, x154, x155, x178 => if x178 = true then (some false) else (laws_FnCoteries.l1 k x1 x6 x7 x11 x12 x20 x137 x138 x154 (wrap64 (x155 + 1)))
def laws_FnCoteries.j5 : Nat → List Int → List (List Int) → List (List Int) → Bool → Option (Bool)
 | 0, _, _, _, _ => none
 | k + 1, x1, x6, x7, x184 => if x184 = true then (laws_FnCoteries.l2 k x1 x6 x7 (x6.length : Int) 0) else (laws_FnCoteries.j9 k x1)
def laws_FnCoteries.l2 : Nat → List Int → List (List Int) → List (List Int) → Int → Int → Option (Bool)
 | 0, _, _, _, _, _ => none
 | k + 1, x1, x6, x7, x186, x187 => if x187 < x186 then (if 0 ≤ x187 then (if x187 < (x6.length : Int) then (laws_FnCoteries.l3 k x1 x6 x7 (rd_L1 x6 x187) false x186 x187 (x7.length : Int) 0) else (none)) else (none)) else (laws_FnCoteries.j9 k x1)
def laws_FnCoteries.l3 : Nat → List Int → List (List Int) → List (List Int) → List Int → Bool → Int → Int → Int → Int → Option (Bool)
 | 0, _, _, _, _, _, _, _, _, _ => none
 | k + 1, x1, x6, x7, x27, x28, x186, x187, x192, x193 => if x193 < x192 then (if 0 ≤ x193 then (if x193 < (x7.length : Int) then (laws_FnCoteries.l4 k x1 x6 x7 x27 x28 true x186 x187 x192 x193 (rd_L1 x7 x193) ((rd_L1 x7 x193).length : Int) 0) else (none)) else (none)) else (if x28 = true then (laws_FnCoteries.l2 k x1 x6 x7 x186 (wrap64 (x187 + 1))) else (some false))
def laws_FnCoteries.l4 : Nat → List Int → List (List Int) → List (List Int) → List Int → Bool → Bool → Int → Int → Int → Int → List Int → Int → Int → Option (Bool)
 | 0, _, _, _, _, _, _, _, _, _, _, _, _, _ => none
 | k + 1, x1, x6, x7, x27, x28, x31, x186, x187, x192, x193, x197, x198, x199 => if x199 < x198 then (if 0 ≤ x199 then (if x199 < (x197.length : Int) then (if x31 = true then ((laws_has.f k x27 (rd x197 x199)).bind fun t141 => (laws_FnCoteries.l4 k x1 x6 x7 x27 x28 t141 x186 x187 x192 x193 x197 x198 (wrap64 (x199 + 1)))) else (laws_FnCoteries.l4 k x1 x6 x7 x27 x28 false x186 x187 x192 x193 x197 x198 (wrap64 (x199 + 1)))) else (none)) else (none)) else (if x28 = true then (laws_FnCoteries.l3 k x1 x6 x7 x27 true x186 x187 x192 (wrap64 (x193 + 1))) else (laws_FnCoteries.l3 k x1 x6 x7 x27 x31 x186 x187 x192 (wrap64 (x193 + 1))))
end
def laws_FnCoteries.f (k : Nat) (l0 : List Int) (l1 : List Int) : Option (Bool) := if (wrap64 ((l0.length : Int) + (l1.length : Int))) > 1048576 then (some true) else ((spec_DrawBlocksOf.f k l0).bind fun bt101 => ((impl_BlocksOf.f k bt101.1 bt101.2).bind fun bt105 => ((spec_BlocksOf.f k bt101.1 bt101.2).bind fun bt109 => ((impl_IsCoterie.f k bt101.2).bind fun bt113 => ((spec_IsCoterie.f k bt101.2).bind fun bt115 => ((impl_AllMeet.f k bt101.2).bind fun bt117 => ((spec_AllMeet.f k bt101.2).bind fun bt119 => (if (bt105.2 != bt109.2) = true then (laws_FnCoteries.j0 k l1 bt101.2 bt105.1 bt105.2 bt113.1 bt113.2 true) else ((laws_sameLists.f k bt105.1 bt109.1).bind fun t121 => (if t121 = true then (if (bt113.2 != bt115.2) = true then (laws_FnCoteries.j0 k l1 bt101.2 bt105.1 bt105.2 bt113.1 bt113.2 true) else (if (bt113.1 != bt115.1) = true then (laws_FnCoteries.j0 k l1 bt101.2 bt105.1 bt105.2 bt113.1 bt113.2 true) else (if (bt117.2 != bt119.2) = true then (laws_FnCoteries.j0 k l1 bt101.2 bt105.1 bt105.2 bt113.1 bt113.2 true) else (if (bt117.1 != bt119.1) = true then (laws_FnCoteries.j0 k l1 bt101.2 bt105.1 bt105.2 bt113.1 bt113.2 true) else (if bt113.1 = true then (laws_FnCoteries.j0 k l1 bt101.2 bt105.1 bt105.2 bt113.1 bt113.2 (!bt117.1)) else (laws_FnCoteries.j0 k l1 bt101.2 bt105.1 bt105.2 bt113.1 bt113.2 false)))))) else (laws_FnCoteries.j0 k l1 bt101.2 bt105.1 bt105.2 bt113.1 bt113.2 true)))))))))))
def laws_FnCoteries.T22 : Bool × List (List Nat × List Nat) := (true, [([], []), ([], []), ([], []), ([], []), ([2, 3], [2, 3]), ([1, 4], [1, 4]), ([], []), ([], []), ([7], [7]), ([6, 8], [6, 8]), ([5, 9, 5], [5, 9]), ([0, 10, 10], [0, 10]), ([11], [11]), ([12], [12]), ([12], [12]), ([13, 11, 0, 1, 2, 3, 4, 5, 6, 7, 8, 9, 10, 11, 12, 13], [13]), ([14, 15, 0, 1, 2, 3, 4, 5, 6, 7, 8, 9, 10, 11, 12, 13, 14, 15], [14])])
def laws_FnCoteries.B22 : List Nat := [0, 0, 0, 0, 12, 30, 0, 0, 128, 448, 1022, 2047, 4095, 8191, 8191, 16383, 65535]
theorem laws_FnCoteries.tab22 : rtab .any (opsOf Try.f9 22) = laws_FnCoteries.T22 := by kernel_rfl
theorem laws_FnCoteries.bits22 : waitsOk laws_FnCoteries.T22.2 laws_FnCoteries.B22 = true := by kernel_rfl
set_option maxHeartbeats 8000000 in
set_option maxRecDepth 100000 in
theorem laws_FnCoteries.calls (k : Nat) (A0 : Option Addr) (c0 : Nat) (l0 : List Int) (A1 : Option Addr) (c1 : Nat) (l1 : List Int) (r : Bool) (w : World) (hr0 : Kd.C (Kd.int .u8) w A0 l0.length l0) (hc0 : l0.length ≤ c0) (hr1 : Kd.C (Kd.int .u8) w A1 l1.length l1) (hc1 : l1.length ≤ c1) (h : laws_FnCoteries.f k l0 l1 = some r) :
  Calls Try.prog 9 #[.slice A0 l0.length c0, .slice A1 l1.length c1] w fun e w' => e = .returned (.bool r) ∧ Below w.heap.size w w' := by
 have hu31 := Try.underlying31
 have hu3 := Try.underlying3
 have HR0 := Aside0.mk hr0
 have HC0 := Aside0.mk hc0
 clear hr0 hc0
 have HR1 := Aside0.mk hr1
 have HC1 := Aside0.mk hc1
 clear hr1 hc1
 have HB := Aside0.mk (Below.refl w.heap.size w)
 have H : (if (wrap64 ((l0.length : Int) + (l1.length : Int))) > 1048576 then (some true) else ((spec_DrawBlocksOf.f k l0).bind fun bt101 => ((impl_BlocksOf.f k bt101.1 bt101.2).bind fun bt105 => ((spec_BlocksOf.f k bt101.1 bt101.2).bind fun bt109 => ((impl_IsCoterie.f k bt101.2).bind fun bt113 => ((spec_IsCoterie.f k bt101.2).bind fun bt115 => ((impl_AllMeet.f k bt101.2).bind fun bt117 => ((spec_AllMeet.f k bt101.2).bind fun bt119 => (if (bt105.2 != bt109.2) = true then (laws_FnCoteries.j0 k l1 bt101.2 bt105.1 bt105.2 bt113.1 bt113.2 true) else ((laws_sameLists.f k bt105.1 bt109.1).bind fun t121 => (if t121 = true then (if (bt113.2 != bt115.2) = true then (laws_FnCoteries.j0 k l1 bt101.2 bt105.1 bt105.2 bt113.1 bt113.2 true) else (if (bt113.1 != bt115.1) = true then (laws_FnCoteries.j0 k l1 bt101.2 bt105.1 bt105.2 bt113.1 bt113.2 true) else (if (bt117.2 != bt119.2) = true then (laws_FnCoteries.j0 k l1 bt101.2 bt105.1 bt105.2 bt113.1 bt113.2 true) else (if (bt117.1 != bt119.1) = true then (laws_FnCoteries.j0 k l1 bt101.2 bt105.1 bt105.2 bt113.1 bt113.2 true) else (if bt113.1 = true then (laws_FnCoteries.j0 k l1 bt101.2 bt105.1 bt105.2 bt113.1 bt113.2 (!bt117.1)) else (laws_FnCoteries.j0 k l1 bt101.2 bt105.1 bt105.2 bt113.1 bt113.2 false)))))) else (laws_FnCoteries.j0 k l1 bt101.2 bt105.1 bt105.2 bt113.1 bt113.2 true)))))))))))) = some r := h
 clear h
 by_cases c3 : (wrap64 ((l0.length : Int) + (l1.length : Int))) > 1048576
 ·rw [if_pos c3] at H
  have c3b0 : decide (1048576 < (wrap64 ((l0.length : Int) + (l1.length : Int)))) = true := decide_eq_true c3
  clear c3
  as_aux_lemma =>
   obtain rfl := Option.some.inj H
   go_enter Try.func9, Try.ntmps9
   go_wp2
   go_ret
   exact ⟨by first | rfl | (simp [errW_none, errW_some] <;> rfl) | (simp [*, errW_none, errW_some] <;> rfl), by repeat (first | (with_reducible first | exact HB.out | apply below_alloc | apply pw_below_drewN | apply below_drew1) | exact HB.out)⟩
 ·rw [if_neg c3] at H
  have c3b0 : decide (1048576 < (wrap64 ((l0.length : Int) + (l1.length : Int)))) = false := decide_eq_false c3
  clear c3
  replace H := Option.bind_eq_some_iff.mp H
  obtain ⟨⟨t101, t102⟩, A40, H⟩ := H
  replace H : ((impl_BlocksOf.f k t101 t102).bind fun bt105 => ((spec_BlocksOf.f k t101 t102).bind fun bt109 => ((impl_IsCoterie.f k t102).bind fun bt113 => ((spec_IsCoterie.f k t102).bind fun bt115 => ((impl_AllMeet.f k t102).bind fun bt117 => ((spec_AllMeet.f k t102).bind fun bt119 => (if (bt105.2 != bt109.2) = true then (laws_FnCoteries.j0 k l1 t102 bt105.1 bt105.2 bt113.1 bt113.2 true) else ((laws_sameLists.f k bt105.1 bt109.1).bind fun t121 => (if t121 = true then (if (bt113.2 != bt115.2) = true then (laws_FnCoteries.j0 k l1 t102 bt105.1 bt105.2 bt113.1 bt113.2 true) else (if (bt113.1 != bt115.1) = true then (laws_FnCoteries.j0 k l1 t102 bt105.1 bt105.2 bt113.1 bt113.2 true) else (if (bt117.2 != bt119.2) = true then (laws_FnCoteries.j0 k l1 t102 bt105.1 bt105.2 bt113.1 bt113.2 true) else (if (bt117.1 != bt119.1) = true then (laws_FnCoteries.j0 k l1 t102 bt105.1 bt105.2 bt113.1 bt113.2 true) else (if bt113.1 = true then (laws_FnCoteries.j0 k l1 t102 bt105.1 bt105.2 bt113.1 bt113.2 (!bt117.1)) else (laws_FnCoteries.j0 k l1 t102 bt105.1 bt105.2 bt113.1 bt113.2 false)))))) else (laws_FnCoteries.j0 k l1 t102 bt105.1 bt105.2 bt113.1 bt113.2 true)))))))))) = some r := H
  have A4 := Aside0.mk A40
  clear A40
  replace H := Option.bind_eq_some_iff.mp H
  obtain ⟨⟨t105, t106⟩, A50, H⟩ := H
  replace H : ((spec_BlocksOf.f k t101 t102).bind fun bt109 => ((impl_IsCoterie.f k t102).bind fun bt113 => ((spec_IsCoterie.f k t102).bind fun bt115 => ((impl_AllMeet.f k t102).bind fun bt117 => ((spec_AllMeet.f k t102).bind fun bt119 => (if (t106 != bt109.2) = true then (laws_FnCoteries.j0 k l1 t102 t105 t106 bt113.1 bt113.2 true) else ((laws_sameLists.f k t105 bt109.1).bind fun t121 => (if t121 = true then (if (bt113.2 != bt115.2) = true then (laws_FnCoteries.j0 k l1 t102 t105 t106 bt113.1 bt113.2 true) else (if (bt113.1 != bt115.1) = true then (laws_FnCoteries.j0 k l1 t102 t105 t106 bt113.1 bt113.2 true) else (if (bt117.2 != bt119.2) = true then (laws_FnCoteries.j0 k l1 t102 t105 t106 bt113.1 bt113.2 true) else (if (bt117.1 != bt119.1) = true then (laws_FnCoteries.j0 k l1 t102 t105 t106 bt113.1 bt113.2 true) else (if bt113.1 = true then (laws_FnCoteries.j0 k l1 t102 t105 t106 bt113.1 bt113.2 (!bt117.1)) else (laws_FnCoteries.j0 k l1 t102 t105 t106 bt113.1 bt113.2 false)))))) else (laws_FnCoteries.j0 k l1 t102 t105 t106 bt113.1 bt113.2 true))))))))) = some r := H
  have A5 := Aside0.mk A50
  clear A50
  replace H := Option.bind_eq_some_iff.mp H
  obtain ⟨⟨t109, t110⟩, A60, H⟩ := H
  replace H : ((impl_IsCoterie.f k t102).bind fun bt113 => ((spec_IsCoterie.f k t102).bind fun bt115 => ((impl_AllMeet.f k t102).bind fun bt117 => ((spec_AllMeet.f k t102).bind fun bt119 => (if (t106 != t110) = true then (laws_FnCoteries.j0 k l1 t102 t105 t106 bt113.1 bt113.2 true) else ((laws_sameLists.f k t105 t109).bind fun t121 => (if t121 = true then (if (bt113.2 != bt115.2) = true then (laws_FnCoteries.j0 k l1 t102 t105 t106 bt113.1 bt113.2 true) else (if (bt113.1 != bt115.1) = true then (laws_FnCoteries.j0 k l1 t102 t105 t106 bt113.1 bt113.2 true) else (if (bt117.2 != bt119.2) = true then (laws_FnCoteries.j0 k l1 t102 t105 t106 bt113.1 bt113.2 true) else (if (bt117.1 != bt119.1) = true then (laws_FnCoteries.j0 k l1 t102 t105 t106 bt113.1 bt113.2 true) else (if bt113.1 = true then (laws_FnCoteries.j0 k l1 t102 t105 t106 bt113.1 bt113.2 (!bt117.1)) else (laws_FnCoteries.j0 k l1 t102 t105 t106 bt113.1 bt113.2 false)))))) else (laws_FnCoteries.j0 k l1 t102 t105 t106 bt113.1 bt113.2 true)))))))) = some r := H
  have A6 := Aside0.mk A60
  clear A60
  replace H := Option.bind_eq_some_iff.mp H
  obtain ⟨⟨t113, t114⟩, A70, H⟩ := H
  replace H : ((spec_IsCoterie.f k t102).bind fun bt115 => ((impl_AllMeet.f k t102).bind fun bt117 => ((spec_AllMeet.f k t102).bind fun bt119 => (if (t106 != t110) = true then (laws_FnCoteries.j0 k l1 t102 t105 t106 t113 t114 true) else ((laws_sameLists.f k t105 t109).bind fun t121 => (if t121 = true then (if (t114 != bt115.2) = true then (laws_FnCoteries.j0 k l1 t102 t105 t106 t113 t114 true) else (if (t113 != bt115.1) = true then (laws_FnCoteries.j0 k l1 t102 t105 t106 t113 t114 true) else (if (bt117.2 != bt119.2) = true then (laws_FnCoteries.j0 k l1 t102 t105 t106 t113 t114 true) else (if (bt117.1 != bt119.1) = true then (laws_FnCoteries.j0 k l1 t102 t105 t106 t113 t114 true) else (if t113 = true then (laws_FnCoteries.j0 k l1 t102 t105 t106 t113 t114 (!bt117.1)) else (laws_FnCoteries.j0 k l1 t102 t105 t106 t113 t114 false)))))) else (laws_FnCoteries.j0 k l1 t102 t105 t106 t113 t114 true))))))) = some r := H
  have A7 := Aside0.mk A70
  clear A70
  replace H := Option.bind_eq_some_iff.mp H
  obtain ⟨⟨t115, t116⟩, A80, H⟩ := H
  replace H : ((impl_AllMeet.f k t102).bind fun bt117 => ((spec_AllMeet.f k t102).bind fun bt119 => (if (t106 != t110) = true then (laws_FnCoteries.j0 k l1 t102 t105 t106 t113 t114 true) else ((laws_sameLists.f k t105 t109).bind fun t121 => (if t121 = true then (if (t114 != t116) = true then (laws_FnCoteries.j0 k l1 t102 t105 t106 t113 t114 true) else (if (t113 != t115) = true then (laws_FnCoteries.j0 k l1 t102 t105 t106 t113 t114 true) else (if (bt117.2 != bt119.2) = true then (laws_FnCoteries.j0 k l1 t102 t105 t106 t113 t114 true) else (if (bt117.1 != bt119.1) = true then (laws_FnCoteries.j0 k l1 t102 t105 t106 t113 t114 true) else (if t113 = true then (laws_FnCoteries.j0 k l1 t102 t105 t106 t113 t114 (!bt117.1)) else (laws_FnCoteries.j0 k l1 t102 t105 t106 t113 t114 false)))))) else (laws_FnCoteries.j0 k l1 t102 t105 t106 t113 t114 true)))))) = some r := H
  have A8 := Aside0.mk A80
  clear A80
  replace H := Option.bind_eq_some_iff.mp H
  obtain ⟨⟨t117, t118⟩, A90, H⟩ := H
  replace H : ((spec_AllMeet.f k t102).bind fun bt119 => (if (t106 != t110) = true then (laws_FnCoteries.j0 k l1 t102 t105 t106 t113 t114 true) else ((laws_sameLists.f k t105 t109).bind fun t121 => (if t121 = true then (if (t114 != t116) = true then (laws_FnCoteries.j0 k l1 t102 t105 t106 t113 t114 true) else (if (t113 != t115) = true then (laws_FnCoteries.j0 k l1 t102 t105 t106 t113 t114 true) else (if (t118 != bt119.2) = true then (laws_FnCoteries.j0 k l1 t102 t105 t106 t113 t114 true) else (if (t117 != bt119.1) = true then (laws_FnCoteries.j0 k l1 t102 t105 t106 t113 t114 true) else (if t113 = true then (laws_FnCoteries.j0 k l1 t102 t105 t106 t113 t114 (!t117)) else (laws_FnCoteries.j0 k l1 t102 t105 t106 t113 t114 false)))))) else (laws_FnCoteries.j0 k l1 t102 t105 t106 t113 t114 true))))) = some r := H
  have A9 := Aside0.mk A90
  clear A90
  replace H := Option.bind_eq_some_iff.mp H
  obtain ⟨⟨t119, t120⟩, A100, H⟩ := H
  replace H : (if (t106 != t110) = true then (laws_FnCoteries.j0 k l1 t102 t105 t106 t113 t114 true) else ((laws_sameLists.f k t105 t109).bind fun t121 => (if t121 = true then (if (t114 != t116) = true then (laws_FnCoteries.j0 k l1 t102 t105 t106 t113 t114 true) else (if (t113 != t115) = true then (laws_FnCoteries.j0 k l1 t102 t105 t106 t113 t114 true) else (if (t118 != t120) = true then (laws_FnCoteries.j0 k l1 t102 t105 t106 t113 t114 true) else (if (t117 != t119) = true then (laws_FnCoteries.j0 k l1 t102 t105 t106 t113 t114 true) else (if t113 = true then (laws_FnCoteries.j0 k l1 t102 t105 t106 t113 t114 (!t117)) else (laws_FnCoteries.j0 k l1 t102 t105 t106 t113 t114 false)))))) else (laws_FnCoteries.j0 k l1 t102 t105 t106 t113 t114 true)))) = some r := H
  have A10 := Aside0.mk A100
  clear A100
  have HC11 := Aside0.mk H
  clear H
  go_enter Try.func9, Try.ntmps9
  go_upto_region 10 with (first | ((with_reducible refine gate_callee (f := 42) rfl ?_); refine goesL_ (some 64) rfl rfl Try.func42 (by kernel_rfl) rfl #[.slice A0 l0.length c0] rfl (by (try simp only [List.map_toArray, List.map_cons, List.map_nil]); first | done | rfl | (simp only [List.length_drop, List.length_take]; rfl)) ?_; (with_reducible refine (spec_DrawBlocksOf.calls k _ _ l0 t101 t102 _ ?side1 ?side2 A4.out).mono ?_); (case side1 => repeat (first | exact HR0.out | (with_reducible refine Kd.C_alloc ?_ _) | (with_reducible refine Kd.C_drewN ?_ _) | (with_reducible refine Kd.C_drew ?_))); (case side2 => exact HC0.out); rintro e w12 ⟨v103, rfl, ho0, hb⟩; refine ⟨_, rfl, ?_⟩; have n0_ := Aside0.mk (Kd.S_lower ho0 (below_size (by repeat (first | (with_reducible first | exact HB.out | apply below_alloc | apply pw_below_drewN | apply below_drew1) | exact HB.out)))); have n1_ := Aside0.mk (below_step (by repeat (first | (with_reducible first | exact HB.out | apply below_alloc | apply pw_below_drewN | apply below_drew1) | exact HB.out)) hb); clear HB; have HO104 := n0_; have HB := n1_; clear n0_ n1_; (try clear hb); (try clear ho0); obtain ⟨Ao13, co13, eo13⟩ := Kd.S_slice HO104.out; subst eo13) | ((with_reducible refine gate_callee (f := 31) rfl ?_); refine goesL_ (some 70) rfl rfl Try.func31 (by kernel_rfl) rfl #[.int .i64 t101, .slice Ao13 t102.length co13] rfl (by (try simp only [List.map_toArray, List.map_cons, List.map_nil]); first | done | rfl | (simp only [List.length_drop, List.length_take]; rfl)) ?_; (with_reducible refine (impl_BlocksOf.calls k t101 _ _ t102 t105 t106 _ ?side1 ?side2 A5.out).mono ?_); (case side1 => repeat (first | exact (Kd.S_reads' HO104.out).2.2 | (with_reducible refine Kd.C_alloc ?_ _) | (with_reducible refine Kd.C_drewN ?_ _) | (with_reducible refine Kd.C_drew ?_))); (case side2 => exact (Kd.S_reads' HO104.out).2.1); rintro e w14 ⟨v107, rfl, ho0, hb⟩; refine ⟨_, rfl, ?_⟩; have n0_ := Aside0.mk (Kd.S_elder' (by (with_reducible repeat (first | apply Kd.S_alloc | apply Kd.S_drewN | apply Kd.S_drew)); exact HO104.out) (Kd.S_base ho0) hb); have n1_ := Aside0.mk (Kd.S_lower (Kd.S_new' ho0 (Kd.S_lt (by (with_reducible repeat (first | apply Kd.S_alloc | apply Kd.S_drewN | apply Kd.S_drew)); exact HO104.out))) (below_size (by repeat (first | (with_reducible first | exact HB.out | apply below_alloc | apply pw_below_drewN | apply below_drew1) | exact HB.out)))); have n2_ := Aside0.mk (below_step (by repeat (first | (with_reducible first | exact HB.out | apply below_alloc | apply pw_below_drewN | apply below_drew1) | exact HB.out)) hb); clear HO104; clear HB; have HO104 := n0_; have HO108 := n1_; have HB := n2_; clear n0_ n1_ n2_; (try clear hb); (try clear ho0)) | ((with_reducible refine gate_callee (f := 30) rfl ?_); refine goesL_ (some 76) rfl rfl Try.func30 (by kernel_rfl) rfl #[.int .i64 t101, .slice Ao13 t102.length co13] rfl (by (try simp only [List.map_toArray, List.map_cons, List.map_nil]); first | done | rfl | (simp only [List.length_drop, List.length_take]; rfl)) ?_; (with_reducible refine (spec_BlocksOf.calls k t101 _ _ t102 t109 t110 _ ?side1 ?side2 A6.out).mono ?_); (case side1 => repeat (first | exact (Kd.S_reads' HO104.out).2.2 | (with_reducible refine Kd.C_alloc ?_ _) | (with_reducible refine Kd.C_drewN ?_ _) | (with_reducible refine Kd.C_drew ?_))); (case side2 => exact (Kd.S_reads' HO104.out).2.1); rintro e w15 ⟨v111, rfl, ho0, hb⟩; refine ⟨_, rfl, ?_⟩; have n0_ := Aside0.mk (Kd.S_elder' (by (with_reducible repeat (first | apply Kd.S_alloc | apply Kd.S_drewN | apply Kd.S_drew)); exact HO104.out) (Kd.S_base ho0) hb); have n1_ := Aside0.mk (Kd.S_elder' (by (with_reducible repeat (first | apply Kd.S_alloc | apply Kd.S_drewN | apply Kd.S_drew)); exact HO108.out) (Kd.S_base ho0) hb); have n2_ := Aside0.mk (Kd.S_lower (Kd.S_new' (Kd.S_new' ho0 (Kd.S_lt (by (with_reducible repeat (first | apply Kd.S_alloc | apply Kd.S_drewN | apply Kd.S_drew)); exact HO104.out))) (Kd.S_lt (by (with_reducible repeat (first | apply Kd.S_alloc | apply Kd.S_drewN | apply Kd.S_drew)); exact HO108.out))) (below_size (by repeat (first | (with_reducible first | exact HB.out | apply below_alloc | apply pw_below_drewN | apply below_drew1) | exact HB.out)))); have n3_ := Aside0.mk (below_step (by repeat (first | (with_reducible first | exact HB.out | apply below_alloc | apply pw_below_drewN | apply below_drew1) | exact HB.out)) hb); clear HO104; clear HO108; clear HB; have HO104 := n0_; have HO108 := n1_; have HO112 := n2_; have HB := n3_; clear n0_ n1_ n2_ n3_; (try clear hb); (try clear ho0)) | ((with_reducible refine gate_callee (f := 43) rfl ?_); refine goesL_ (some 81) rfl rfl Try.func43 (by kernel_rfl) rfl #[.slice Ao13 t102.length co13] rfl (by (try simp only [List.map_toArray, List.map_cons, List.map_nil]); first | done | rfl | (simp only [List.length_drop, List.length_take]; rfl)) ?_; (with_reducible refine (impl_IsCoterie.calls k _ _ t102 t113 t114 _ ?side1 ?side2 A7.out).mono ?_); (case side1 => repeat (first | exact (Kd.S_reads' HO104.out).2.2 | (with_reducible refine Kd.C_alloc ?_ _) | (with_reducible refine Kd.C_drewN ?_ _) | (with_reducible refine Kd.C_drew ?_))); (case side2 => exact (Kd.S_reads' HO104.out).2.1); rintro e w16 ⟨rfl, hb⟩; refine ⟨_, rfl, ?_⟩; have n0_ := Aside0.mk (Kd.S_below (by (with_reducible repeat (first | apply Kd.S_alloc | apply Kd.S_drewN | apply Kd.S_drew)); exact HO104.out) hb); have n1_ := Aside0.mk (Kd.S_below (by (with_reducible repeat (first | apply Kd.S_alloc | apply Kd.S_drewN | apply Kd.S_drew)); exact HO108.out) hb); have n2_ := Aside0.mk (Kd.S_below (by (with_reducible repeat (first | apply Kd.S_alloc | apply Kd.S_drewN | apply Kd.S_drew)); exact HO112.out) hb); have n3_ := Aside0.mk (below_step (by repeat (first | (with_reducible first | exact HB.out | apply below_alloc | apply pw_below_drewN | apply below_drew1) | exact HB.out)) hb); clear HO104; clear HO108; clear HO112; clear HB; have HO104 := n0_; have HO108 := n1_; have HO112 := n2_; have HB := n3_; clear n0_ n1_ n2_ n3_; (try clear hb)) | ((with_reducible refine gate_callee (f := 44) rfl ?_); refine goesL_ (some 86) rfl rfl Try.func44 (by kernel_rfl) rfl #[.slice Ao13 t102.length co13] rfl (by (try simp only [List.map_toArray, List.map_cons, List.map_nil]); first | done | rfl | (simp only [List.length_drop, List.length_take]; rfl)) ?_; (with_reducible refine (spec_IsCoterie.calls k _ _ t102 t115 t116 _ ?side1 ?side2 A8.out).mono ?_); (case side1 => repeat (first | exact (Kd.S_reads' HO104.out).2.2 | (with_reducible refine Kd.C_alloc ?_ _) | (with_reducible refine Kd.C_drewN ?_ _) | (with_reducible refine Kd.C_drew ?_))); (case side2 => exact (Kd.S_reads' HO104.out).2.1); rintro e w' ⟨rfl, ⟨nd, rfl⟩⟩; refine ⟨_, rfl, ?_⟩) | ((with_reducible refine gate_callee (f := 37) rfl ?_); refine goesL_ (some 91) rfl rfl Try.func37 (by kernel_rfl) rfl #[.slice Ao13 t102.length co13] rfl (by (try simp only [List.map_toArray, List.map_cons, List.map_nil]); first | done | rfl | (simp only [List.length_drop, List.length_take]; rfl)) ?_; (with_reducible refine (impl_AllMeet.calls k _ _ t102 t117 t118 _ ?side1 ?side2 A9.out).mono ?_); (case side1 => repeat (first | exact (Kd.S_reads' HO104.out).2.2 | (with_reducible refine Kd.C_alloc ?_ _) | (with_reducible refine Kd.C_drewN ?_ _) | (with_reducible refine Kd.C_drew ?_))); (case side2 => exact (Kd.S_reads' HO104.out).2.1); rintro e w17 ⟨rfl, hb⟩; refine ⟨_, rfl, ?_⟩; have n0_ := Aside0.mk (Kd.S_below (by (with_reducible repeat (first | apply Kd.S_alloc | apply Kd.S_drewN | apply Kd.S_drew)); exact HO104.out) hb); have n1_ := Aside0.mk (Kd.S_below (by (with_reducible repeat (first | apply Kd.S_alloc | apply Kd.S_drewN | apply Kd.S_drew)); exact HO108.out) hb); have n2_ := Aside0.mk (Kd.S_below (by (with_reducible repeat (first | apply Kd.S_alloc | apply Kd.S_drewN | apply Kd.S_drew)); exact HO112.out) hb); have n3_ := Aside0.mk (below_step (by repeat (first | (with_reducible first | exact HB.out | apply below_alloc | apply pw_below_drewN | apply below_drew1) | exact HB.out)) hb); clear HO104; clear HO108; clear HO112; clear HB; have HO104 := n0_; have HO108 := n1_; have HO112 := n2_; have HB := n3_; clear n0_ n1_ n2_ n3_; (try clear hb)) | ((with_reducible refine gate_callee (f := 45) rfl ?_); refine goesL_ (some 96) rfl rfl Try.func45 (by kernel_rfl) rfl #[.slice Ao13 t102.length co13] rfl (by (try simp only [List.map_toArray, List.map_cons, List.map_nil]); first | done | rfl | (simp only [List.length_drop, List.length_take]; rfl)) ?_; (with_reducible refine (spec_AllMeet.calls k _ _ t102 t119 t120 _ ?side1 ?side2 A10.out).mono ?_); (case side1 => repeat (first | exact (Kd.S_reads' HO104.out).2.2 | (with_reducible refine Kd.C_alloc ?_ _) | (with_reducible refine Kd.C_drewN ?_ _) | (with_reducible refine Kd.C_drew ?_))); (case side2 => exact (Kd.S_reads' HO104.out).2.1); rintro e w' ⟨rfl, ⟨nd, rfl⟩⟩; refine ⟨_, rfl, ?_⟩))
  (try simp only [Act.put, List.setIfInBounds_toArray, List.set_cons_zero, List.set_cons_succ])
  go_cut [134] (fun v134 wc => ∃ (kq : Nat) (x134_10 : Bool), v134 = .bool x134_10 ∧ Aside0 (laws_FnCoteries.j0 kq l1 t102 t105 t106 t113 t114 x134_10 = some r) ∧ Aside0 (kq ≤ k) ∧ Aside0 (Kd.S (Kd.slice 3 (Kd.int .i64)) 31 wc w.heap.size (fun k_ => some k_ ≠ (v107 : Value).ownBlock) (.slice Ao13 t102.length co13) t102) ∧ Aside0 (Kd.S (Kd.slice 3 (Kd.int .i64)) 31 wc w.heap.size (fun k_ => some k_ ≠ ((.slice Ao13 t102.length co13) : Value).ownBlock) v107 t105) ∧ Aside0 (Below w.heap.size w wc))
  case first =>
   have H := HC11.out
   clear HC11
   by_cases c18 : (t106 != t110) = true
   ·rw [if_pos c18] at H
    have c18b0 : (t106 != t110) = true := c18
    (try (have c18b1 : decide (t106 = t110) = false := by simpa using c18))
    (try (have c18b2 : (t106 == t110) = false := by simpa using c18))
    (try (have c18b3 : ¬ (t106 = t110) := by simpa using c18))
    clear c18
    (first | rw [c18b0] | (simp only [i64_w, i32_w]; rw [c18b0]) | skip)
    as_aux_lemma =>
     have H' := Aside0.mk H
     clear H
     go_wp2
     go_meet
     case rel => exact ⟨_, (true), (by first | rfl | (simp; done) | (simp [*]; done)), H', ⟨by first | omega | exact Nat.le_refl _⟩, ⟨by (with_reducible repeat (first | apply Kd.S_alloc | apply Kd.S_drewN | apply Kd.S_drew)); exact Kd.S_mono HO104.out (fun _ hk => hk.1.2)⟩, ⟨by (with_reducible repeat (first | apply Kd.S_alloc | apply Kd.S_drewN | apply Kd.S_drew)); exact Kd.S_mono HO108.out (fun _ hk => hk.1.2)⟩, ⟨by repeat (first | (with_reducible first | exact HB.out | apply below_alloc | apply pw_below_drewN | apply below_drew1) | exact HB.out)⟩⟩
   ·rw [if_neg c18] at H
    have c18b0 : (t106 != t110) = false := by simpa using c18
    (try (have c18b1 : decide (t106 = t110) = true := by simpa using c18))
    (try (have c18b2 : (t106 == t110) = true := by simpa using c18))
    clear c18
    (first | rw [c18b0] | (simp only [i64_w, i32_w]; rw [c18b0]) | skip)
    replace H := Option.bind_eq_some_iff.mp H
    obtain ⟨t121, A190, H⟩ := H
    have A19 := Aside0.mk A190
    clear A190
    by_cases c20 : t121 = true
    ·subst c20
     rw [if_pos rfl] at H
     by_cases c21 : (t114 != t116) = true
     ·rw [if_pos c21] at H
      have c21b0 : (t114 != t116) = true := c21
      (try (have c21b1 : decide (t114 = t116) = false := by simpa using c21))
      (try (have c21b2 : (t114 == t116) = false := by simpa using c21))
      (try (have c21b3 : ¬ (t114 = t116) := by simpa using c21))
      clear c21
      as_aux_lemma =>
       have H' := Aside0.mk H
       clear H
       obtain ⟨Ao22, co22, eo22⟩ := Kd.S_slice HO108.out
       subst eo22
       obtain ⟨Ao23, co23, eo23⟩ := Kd.S_slice HO112.out
       subst eo23
       go_wp2_with (first | (go_at_call 35; (with_reducible refine (laws_sameLists.calls k _ _ t105 _ _ t109 true _ ?side1 ?side2 ?side3 ?side4 A19.out).mono ?_); (case side1 => repeat (first | exact (Kd.S_reads' HO108.out).2.2 | (with_reducible refine Kd.C_alloc ?_ _) | (with_reducible refine Kd.C_drewN ?_ _) | (with_reducible refine Kd.C_drew ?_))); (case side2 => exact (Kd.S_reads' HO108.out).2.1); (case side3 => repeat (first | exact (Kd.S_reads' HO112.out).2.2 | (with_reducible refine Kd.C_alloc ?_ _) | (with_reducible refine Kd.C_drewN ?_ _) | (with_reducible refine Kd.C_drew ?_))); (case side4 => exact (Kd.S_reads' HO112.out).2.1); rintro e w' ⟨rfl, ⟨nd, rfl⟩⟩))
       go_meet
       case rel => exact ⟨_, (true), (by first | rfl | (simp; done) | (simp [*]; done)), H', ⟨by first | omega | exact Nat.le_refl _⟩, ⟨by (with_reducible repeat (first | apply Kd.S_alloc | apply Kd.S_drewN | apply Kd.S_drew)); exact Kd.S_mono HO104.out (fun _ hk => hk.1.2)⟩, ⟨by (with_reducible repeat (first | apply Kd.S_alloc | apply Kd.S_drewN | apply Kd.S_drew)); exact Kd.S_mono HO108.out (fun _ hk => hk.1.2)⟩, ⟨by repeat (first | (with_reducible first | exact HB.out | apply below_alloc | apply pw_below_drewN | apply below_drew1) | exact HB.out)⟩⟩
     ·rw [if_neg c21] at H
      have c21b0 : (t114 != t116) = false := by simpa using c21
      (try (have c21b1 : decide (t114 = t116) = true := by simpa using c21))
      (try (have c21b2 : (t114 == t116) = true := by simpa using c21))
      clear c21
      by_cases c24 : (t113 != t115) = true
      ·rw [if_pos c24] at H
       have c24b0 : (t113 != t115) = true := c24
       (try (have c24b1 : decide (t113 = t115) = false := by simpa using c24))
       (try (have c24b2 : (t113 == t115) = false := by simpa using c24))
       (try (have c24b3 : ¬ (t113 = t115) := by simpa using c24))
       clear c24
       as_aux_lemma =>
        have H' := Aside0.mk H
        clear H
        obtain ⟨Ao25, co25, eo25⟩ := Kd.S_slice HO108.out
        subst eo25
        obtain ⟨Ao26, co26, eo26⟩ := Kd.S_slice HO112.out
        subst eo26
        go_wp2_with (first | (go_at_call 35; (with_reducible refine (laws_sameLists.calls k _ _ t105 _ _ t109 true _ ?side1 ?side2 ?side3 ?side4 A19.out).mono ?_); (case side1 => repeat (first | exact (Kd.S_reads' HO108.out).2.2 | (with_reducible refine Kd.C_alloc ?_ _) | (with_reducible refine Kd.C_drewN ?_ _) | (with_reducible refine Kd.C_drew ?_))); (case side2 => exact (Kd.S_reads' HO108.out).2.1); (case side3 => repeat (first | exact (Kd.S_reads' HO112.out).2.2 | (with_reducible refine Kd.C_alloc ?_ _) | (with_reducible refine Kd.C_drewN ?_ _) | (with_reducible refine Kd.C_drew ?_))); (case side4 => exact (Kd.S_reads' HO112.out).2.1); rintro e w' ⟨rfl, ⟨nd, rfl⟩⟩))
        go_meet
        case rel => exact ⟨_, (true), (by first | rfl | (simp; done) | (simp [*]; done)), H', ⟨by first | omega | exact Nat.le_refl _⟩, ⟨by (with_reducible repeat (first | apply Kd.S_alloc | apply Kd.S_drewN | apply Kd.S_drew)); exact Kd.S_mono HO104.out (fun _ hk => hk.1.2)⟩, ⟨by (with_reducible repeat (first | apply Kd.S_alloc | apply Kd.S_drewN | apply Kd.S_drew)); exact Kd.S_mono HO108.out (fun _ hk => hk.1.2)⟩, ⟨by repeat (first | (with_reducible first | exact HB.out | apply below_alloc | apply pw_below_drewN | apply below_drew1) | exact HB.out)⟩⟩
      ·rw [if_neg c24] at H
       have c24b0 : (t113 != t115) = false := by simpa using c24
       (try (have c24b1 : decide (t113 = t115) = true := by simpa using c24))
       (try (have c24b2 : (t113 == t115) = true := by simpa using c24))
       clear c24
       by_cases c27 : (t118 != t120) = true
       ·rw [if_pos c27] at H
        have c27b0 : (t118 != t120) = true := c27
        (try (have c27b1 : decide (t118 = t120) = false := by simpa using c27))
        (try (have c27b2 : (t118 == t120) = false := by simpa using c27))
        (try (have c27b3 : ¬ (t118 = t120) := by simpa using c27))
        clear c27
        as_aux_lemma =>
         have H' := Aside0.mk H
         clear H
         obtain ⟨Ao28, co28, eo28⟩ := Kd.S_slice HO108.out
         subst eo28
         obtain ⟨Ao29, co29, eo29⟩ := Kd.S_slice HO112.out
         subst eo29
         go_wp2_with (first | (go_at_call 35; (with_reducible refine (laws_sameLists.calls k _ _ t105 _ _ t109 true _ ?side1 ?side2 ?side3 ?side4 A19.out).mono ?_); (case side1 => repeat (first | exact (Kd.S_reads' HO108.out).2.2 | (with_reducible refine Kd.C_alloc ?_ _) | (with_reducible refine Kd.C_drewN ?_ _) | (with_reducible refine Kd.C_drew ?_))); (case side2 => exact (Kd.S_reads' HO108.out).2.1); (case side3 => repeat (first | exact (Kd.S_reads' HO112.out).2.2 | (with_reducible refine Kd.C_alloc ?_ _) | (with_reducible refine Kd.C_drewN ?_ _) | (with_reducible refine Kd.C_drew ?_))); (case side4 => exact (Kd.S_reads' HO112.out).2.1); rintro e w' ⟨rfl, ⟨nd, rfl⟩⟩))
         go_meet
         case rel => exact ⟨_, (true), (by first | rfl | (simp; done) | (simp [*]; done)), H', ⟨by first | omega | exact Nat.le_refl _⟩, ⟨by (with_reducible repeat (first | apply Kd.S_alloc | apply Kd.S_drewN | apply Kd.S_drew)); exact Kd.S_mono HO104.out (fun _ hk => hk.1.2)⟩, ⟨by (with_reducible repeat (first | apply Kd.S_alloc | apply Kd.S_drewN | apply Kd.S_drew)); exact Kd.S_mono HO108.out (fun _ hk => hk.1.2)⟩, ⟨by repeat (first | (with_reducible first | exact HB.out | apply below_alloc | apply pw_below_drewN | apply below_drew1) | exact HB.out)⟩⟩
       ·rw [if_neg c27] at H
        have c27b0 : (t118 != t120) = false := by simpa using c27
        (try (have c27b1 : decide (t118 = t120) = true := by simpa using c27))
        (try (have c27b2 : (t118 == t120) = true := by simpa using c27))
        clear c27
        by_cases c30 : (t117 != t119) = true
        ·rw [if_pos c30] at H
         have c30b0 : (t117 != t119) = true := c30
         (try (have c30b1 : decide (t117 = t119) = false := by simpa using c30))
         (try (have c30b2 : (t117 == t119) = false := by simpa using c30))
         (try (have c30b3 : ¬ (t117 = t119) := by simpa using c30))
         clear c30
         as_aux_lemma =>
          have H' := Aside0.mk H
          clear H
          obtain ⟨Ao31, co31, eo31⟩ := Kd.S_slice HO108.out
          subst eo31
          obtain ⟨Ao32, co32, eo32⟩ := Kd.S_slice HO112.out
          subst eo32
          go_wp2_with (first | (go_at_call 35; (with_reducible refine (laws_sameLists.calls k _ _ t105 _ _ t109 true _ ?side1 ?side2 ?side3 ?side4 A19.out).mono ?_); (case side1 => repeat (first | exact (Kd.S_reads' HO108.out).2.2 | (with_reducible refine Kd.C_alloc ?_ _) | (with_reducible refine Kd.C_drewN ?_ _) | (with_reducible refine Kd.C_drew ?_))); (case side2 => exact (Kd.S_reads' HO108.out).2.1); (case side3 => repeat (first | exact (Kd.S_reads' HO112.out).2.2 | (with_reducible refine Kd.C_alloc ?_ _) | (with_reducible refine Kd.C_drewN ?_ _) | (with_reducible refine Kd.C_drew ?_))); (case side4 => exact (Kd.S_reads' HO112.out).2.1); rintro e w' ⟨rfl, ⟨nd, rfl⟩⟩))
          go_meet
          case rel => exact ⟨_, (true), (by first | rfl | (simp; done) | (simp [*]; done)), H', ⟨by first | omega | exact Nat.le_refl _⟩, ⟨by (with_reducible repeat (first | apply Kd.S_alloc | apply Kd.S_drewN | apply Kd.S_drew)); exact Kd.S_mono HO104.out (fun _ hk => hk.1.2)⟩, ⟨by (with_reducible repeat (first | apply Kd.S_alloc | apply Kd.S_drewN | apply Kd.S_drew)); exact Kd.S_mono HO108.out (fun _ hk => hk.1.2)⟩, ⟨by repeat (first | (with_reducible first | exact HB.out | apply below_alloc | apply pw_below_drewN | apply below_drew1) | exact HB.out)⟩⟩
        ·rw [if_neg c30] at H
         have c30b0 : (t117 != t119) = false := by simpa using c30
         (try (have c30b1 : decide (t117 = t119) = true := by simpa using c30))
         (try (have c30b2 : (t117 == t119) = true := by simpa using c30))
         clear c30
         by_cases c33 : t113 = true
         ·subst c33
          rw [if_pos rfl] at H
          as_aux_lemma =>
           have H' := Aside0.mk H
           clear H
           obtain ⟨Ao34, co34, eo34⟩ := Kd.S_slice HO108.out
           subst eo34
           obtain ⟨Ao35, co35, eo35⟩ := Kd.S_slice HO112.out
           subst eo35
           go_wp2_with (first | (go_at_call 35; (with_reducible refine (laws_sameLists.calls k _ _ t105 _ _ t109 true _ ?side1 ?side2 ?side3 ?side4 A19.out).mono ?_); (case side1 => repeat (first | exact (Kd.S_reads' HO108.out).2.2 | (with_reducible refine Kd.C_alloc ?_ _) | (with_reducible refine Kd.C_drewN ?_ _) | (with_reducible refine Kd.C_drew ?_))); (case side2 => exact (Kd.S_reads' HO108.out).2.1); (case side3 => repeat (first | exact (Kd.S_reads' HO112.out).2.2 | (with_reducible refine Kd.C_alloc ?_ _) | (with_reducible refine Kd.C_drewN ?_ _) | (with_reducible refine Kd.C_drew ?_))); (case side4 => exact (Kd.S_reads' HO112.out).2.1); rintro e w' ⟨rfl, ⟨nd, rfl⟩⟩))
           go_meet
           case rel => exact ⟨_, (!t117), (by first | rfl | (simp; done) | (simp [*]; done)), H', ⟨by first | omega | exact Nat.le_refl _⟩, ⟨by (with_reducible repeat (first | apply Kd.S_alloc | apply Kd.S_drewN | apply Kd.S_drew)); exact Kd.S_mono HO104.out (fun _ hk => hk.1.2)⟩, ⟨by (with_reducible repeat (first | apply Kd.S_alloc | apply Kd.S_drewN | apply Kd.S_drew)); exact Kd.S_mono HO108.out (fun _ hk => hk.1.2)⟩, ⟨by repeat (first | (with_reducible first | exact HB.out | apply below_alloc | apply pw_below_drewN | apply below_drew1) | exact HB.out)⟩⟩
         ·replace c33 := Bool.eq_false_iff.mpr c33
          subst c33
          rw [if_neg (show ¬ (false = true) by decide)] at H
          as_aux_lemma =>
           have H' := Aside0.mk H
           clear H
           obtain ⟨Ao36, co36, eo36⟩ := Kd.S_slice HO108.out
           subst eo36
           obtain ⟨Ao37, co37, eo37⟩ := Kd.S_slice HO112.out
           subst eo37
           go_wp2_with (first | (go_at_call 35; (with_reducible refine (laws_sameLists.calls k _ _ t105 _ _ t109 true _ ?side1 ?side2 ?side3 ?side4 A19.out).mono ?_); (case side1 => repeat (first | exact (Kd.S_reads' HO108.out).2.2 | (with_reducible refine Kd.C_alloc ?_ _) | (with_reducible refine Kd.C_drewN ?_ _) | (with_reducible refine Kd.C_drew ?_))); (case side2 => exact (Kd.S_reads' HO108.out).2.1); (case side3 => repeat (first | exact (Kd.S_reads' HO112.out).2.2 | (with_reducible refine Kd.C_alloc ?_ _) | (with_reducible refine Kd.C_drewN ?_ _) | (with_reducible refine Kd.C_drew ?_))); (case side4 => exact (Kd.S_reads' HO112.out).2.1); rintro e w' ⟨rfl, ⟨nd, rfl⟩⟩))
           go_meet
           case rel => exact ⟨_, (false), (by first | rfl | (simp; done) | (simp [*]; done)), H', ⟨by first | omega | exact Nat.le_refl _⟩, ⟨by (with_reducible repeat (first | apply Kd.S_alloc | apply Kd.S_drewN | apply Kd.S_drew)); exact Kd.S_mono HO104.out (fun _ hk => hk.1.2)⟩, ⟨by (with_reducible repeat (first | apply Kd.S_alloc | apply Kd.S_drewN | apply Kd.S_drew)); exact Kd.S_mono HO108.out (fun _ hk => hk.1.2)⟩, ⟨by repeat (first | (with_reducible first | exact HB.out | apply below_alloc | apply pw_below_drewN | apply below_drew1) | exact HB.out)⟩⟩
    ·replace c20 := Bool.eq_false_iff.mpr c20
     subst c20
     rw [if_neg (show ¬ (false = true) by decide)] at H
     as_aux_lemma =>
      have H' := Aside0.mk H
      clear H
      obtain ⟨Ao38, co38, eo38⟩ := Kd.S_slice HO108.out
      subst eo38
      obtain ⟨Ao39, co39, eo39⟩ := Kd.S_slice HO112.out
      subst eo39
      go_wp2_with (first | (go_at_call 35; (with_reducible refine (laws_sameLists.calls k _ _ t105 _ _ t109 false _ ?side1 ?side2 ?side3 ?side4 A19.out).mono ?_); (case side1 => repeat (first | exact (Kd.S_reads' HO108.out).2.2 | (with_reducible refine Kd.C_alloc ?_ _) | (with_reducible refine Kd.C_drewN ?_ _) | (with_reducible refine Kd.C_drew ?_))); (case side2 => exact (Kd.S_reads' HO108.out).2.1); (case side3 => repeat (first | exact (Kd.S_reads' HO112.out).2.2 | (with_reducible refine Kd.C_alloc ?_ _) | (with_reducible refine Kd.C_drewN ?_ _) | (with_reducible refine Kd.C_drew ?_))); (case side4 => exact (Kd.S_reads' HO112.out).2.1); rintro e w' ⟨rfl, ⟨nd, rfl⟩⟩))
      go_meet
      case rel => exact ⟨_, (true), (by first | rfl | (simp; done) | (simp [*]; done)), H', ⟨by first | omega | exact Nat.le_refl _⟩, ⟨by (with_reducible repeat (first | apply Kd.S_alloc | apply Kd.S_drewN | apply Kd.S_drew)); exact Kd.S_mono HO104.out (fun _ hk => hk.1.2)⟩, ⟨by (with_reducible repeat (first | apply Kd.S_alloc | apply Kd.S_drewN | apply Kd.S_drew)); exact Kd.S_mono HO108.out (fun _ hk => hk.1.2)⟩, ⟨by repeat (first | (with_reducible first | exact HB.out | apply below_alloc | apply pw_below_drewN | apply below_drew1) | exact HB.out)⟩⟩
  case rest =>
   as_aux_lemma =>
    clear HC11
    try clear c3
    try clear c3b0
    obtain ⟨kq, x134_10, rfl, HA, HJ10, HO_6, HO_7, HB⟩ := hcut
    cases kq with
    | zero => exact absurd HA.out (by simp [laws_FnCoteries.j0])
    | succ kj10 =>
     have H := HA.out
     clear HA
     simp only [laws_FnCoteries.j0] at H
     by_cases c40 : x134_10 = true
     ·subst c40
      rw [if_pos rfl] at H
      as_aux_lemma =>
       obtain rfl := Option.some.inj H
       go_wp2
       go_ret
       exact ⟨by first | rfl | (simp [errW_none, errW_some] <;> rfl) | (simp [*, errW_none, errW_some] <;> rfl), by repeat (first | (with_reducible first | exact HB.out | apply below_alloc | apply pw_below_drewN | apply below_drew1) | exact HB.out)⟩
     ·replace c40 := Bool.eq_false_iff.mpr c40
      subst c40
      rw [if_neg (show ¬ (false = true) by decide)] at H
      have HC41 := Aside0.mk H
      clear H
      go_upto_if 135 with (fail)
      go_cut [] (fun wc => ∃ (kq : Nat), Aside0 (laws_FnCoteries.j9 kq l1 = some r) ∧ Aside0 (kq ≤ kj10) ∧ Aside0 (Below w.heap.size w wc))
      case first =>
       have H := HC41.out
       clear HC41
       by_cases c42 : t106 = true
       ·subst c42
        rw [if_pos rfl] at H
        have H' := Aside0.mk H
        clear H
        obtain ⟨Ao43, co43, eo43⟩ := Kd.S_slice HO_7.out
        subst eo43
        go_wp2
        go_loopg [138] kj10 (fun kq v138 w' => ∃ (x138_2 : Int), v138 = .int .i64 x138_2 ∧ Aside0 (laws_FnCoteries.l0 kq l1 t102 t105 t113 t114 (t105.length : Int) x138_2 = some r) ∧ Aside0 (kq ≤ kj10) ∧ Aside0 (Kd.S (Kd.slice 3 (Kd.int .i64)) 31 w' w.heap.size (fun k_ => some k_ ≠ ((.slice Ao43 t105.length co43) : Value).ownBlock) (.slice Ao13 t102.length co13) t102) ∧ Aside0 (Kd.S (Kd.slice 3 (Kd.int .i64)) 31 w' w.heap.size (fun k_ => some k_ ≠ ((.slice Ao13 t102.length co13) : Value).ownBlock) (.slice Ao43 t105.length co43) t105) ∧ Aside0 (Below w.heap.size w w'))
        case atStart => exact ⟨(0), (by first | rfl | (simp; done) | (simp [*]; done)), H', ⟨Nat.le_refl _⟩, ⟨by (with_reducible repeat (first | apply Kd.S_alloc | apply Kd.S_drewN | apply Kd.S_drew)); exact HO_6.out⟩, ⟨by (with_reducible repeat (first | apply Kd.S_alloc | apply Kd.S_drewN | apply Kd.S_drew)); exact HO_7.out⟩, ⟨by repeat (first | (with_reducible first | exact HB.out | apply below_alloc | apply pw_below_drewN | apply below_drew1) | exact HB.out)⟩⟩
        case round =>
         as_aux_lemma =>
          clear H'
          try clear c3
          try clear c3b0
          try clear c40
          try clear c42
          obtain ⟨x138_2, rfl, HA, HK2, HO_6, HO_7, HB⟩ := hrel
          cases gk with
          | zero => exact absurd HA.out (by simp [laws_FnCoteries.l0])
          | succ k2 =>
           have H := HA.out
           clear HA
           simp only [laws_FnCoteries.l0] at H
           by_cases c44 : x138_2 < (t105.length : Int)
           ·rw [if_pos c44] at H
            have c44b0 : decide (x138_2 < (t105.length : Int)) = true := decide_eq_true c44
            clear c44
            (first | rw [c44b0] | (simp only [i64_w, i32_w]; rw [c44b0]) | skip)
            by_cases c45 : 0 ≤ x138_2
            ·rw [if_pos c45] at H
             have c45b0 : decide (0 ≤ x138_2) = true := decide_eq_true c45
             clear c45
             by_cases c46 : x138_2 < (t105.length : Int)
             ·rw [if_pos c46] at H
              have c46b0 : decide (x138_2 < (t105.length : Int)) = true := decide_eq_true c46
              clear c46
              replace H := Option.bind_eq_some_iff.mp H
              obtain ⟨⟨t123, t124⟩, A470, H⟩ := H
              replace H : (if t124 = true then (laws_FnCoteries.j2 k2 l1 t102 t105 t113 t114 (rd_L1 t105 x138_2) (t105.length : Int) x138_2 t123) else (laws_FnCoteries.j2 k2 l1 t102 t105 t113 t114 (rd_L1 t105 x138_2) (t105.length : Int) x138_2 true)) = some r := H
              have A47 := Aside0.mk A470
              clear A470
              have HC48 := Aside0.mk H
              clear H
              have p122 : 0 ≤ (x138_2 : Int) := of_decide_eq_true (by assumption)
              have q122 : x138_2 < (t105.length : Int) := of_decide_eq_true (by assumption)
              obtain ⟨ad122, A122_0, c122_0, e122, hx122_0, hl122_0, hi122_0⟩ := at_L1 (Kd.S_reads' HO_7.out).2.2 x138_2 p122 q122
              cases e122
              obtain ⟨ce122, hce122, hMe122, hcc122⟩ := Kd.S_get HO_7.out [] x138_2 p122 (by first | exact q122 | exact of_decide_eq_true (by assumption) | (have e_ := (Kd.S_reads' HO_7.out).1; omega))
              obtain ⟨ve122_0, rfl, ge122_0⟩ := hMe122
              have hv122_0 := hcc122 0 _ rfl
              rw [Nat.add_zero, show ((Kd.slice 3 (Kd.int .i64))).sz = 1 from rfl, Nat.mul_one] at hv122_0
              replace hv122_0 := Option.some.inj (hv122_0.symm.trans hx122_0)
              rw [hv122_0] at ge122_0
              have HL122_0 := Aside0.mk (show Kd.R (Kd.int .i64) 3 _ _ _ _ (rd_L1 t105 x138_2) from ge122_0)
              clear hv122_0 ge122_0
              clear hcc122 hce122
              have HR122_0 := Aside0.mk hi122_0
              have HC122_0 := Aside0.mk hl122_0
              clear hi122_0 hl122_0
              replace p122 := eq_true p122
              replace q122 := eq_true q122
              go_upto_region 17 with (first | ((with_reducible refine gate_callee (f := 46) rfl ?_); refine goesL_ (some 145) rfl rfl Try.func46 (by kernel_rfl) rfl #[.slice Ao13 t102.length co13, .slice A122_0 (rd_L1 t105 x138_2).length c122_0] rfl (by (try simp only [List.map_toArray, List.map_cons, List.map_nil]); first | done | rfl | (simp only [List.length_drop, List.length_take]; rfl)) ?_; (with_reducible refine (impl_Survives.calls k2 _ _ t102 _ _ (rd_L1 t105 x138_2) t123 t124 _ ?side1 ?side2 ?side3 ?side4 A47.out).mono ?_); (case side1 => repeat (first | exact (Kd.S_reads' HO_6.out).2.2 | (with_reducible refine Kd.C_alloc ?_ _) | (with_reducible refine Kd.C_drewN ?_ _) | (with_reducible refine Kd.C_drew ?_))); (case side2 => exact (Kd.S_reads' HO_6.out).2.1); (case side3 => repeat (first | exact (by repeat (first | (with_reducible exact HR122_0.out) | (with_reducible refine Kd.C_alloc ?_ _) | (with_reducible refine Kd.C_drewN ?_ _) | (with_reducible refine Kd.C_drew ?_) | exact HR122_0.out)) | (with_reducible refine Kd.C_alloc ?_ _) | (with_reducible refine Kd.C_drewN ?_ _) | (with_reducible refine Kd.C_drew ?_))); (case side4 => exact HC122_0.out); rintro e w49 ⟨rfl, hb⟩; refine ⟨_, rfl, ?_⟩; have n0_ := Aside0.mk (Kd.S_below (by (with_reducible repeat (first | apply Kd.S_alloc | apply Kd.S_drewN | apply Kd.S_drew)); exact HO_6.out) hb); have n1_ := Aside0.mk (Kd.S_below (by (with_reducible repeat (first | apply Kd.S_alloc | apply Kd.S_drewN | apply Kd.S_drew)); exact HO_7.out) hb); have n2_ := Aside0.mk (Kd.R_below (by (with_reducible repeat (first | apply Kd.R_alloc | apply Kd.R_drewN | apply Kd.R_drew)); exact HL122_0.out) hb); have n3_ := Aside0.mk (Kd.C_below (by repeat (first | (with_reducible exact HR122_0.out) | (with_reducible refine Kd.C_alloc ?_ _) | (with_reducible refine Kd.C_drewN ?_ _) | (with_reducible refine Kd.C_drew ?_) | exact HR122_0.out)) hb); have n4_ := Aside0.mk (below_step (by repeat (first | (with_reducible first | exact HB.out | apply below_alloc | apply pw_below_drewN | apply below_drew1) | exact HB.out)) hb); clear HO_6; clear HO_7; clear HL122_0; clear HR122_0; clear HB; have HO_6 := n0_; have HO_7 := n1_; have HL122_0 := n2_; have HR122_0 := n3_; have HB := n4_; clear n0_ n1_ n2_ n3_ n4_; (try clear hb)))
              (try simp only [Act.put, List.setIfInBounds_toArray, List.set_cons_zero, List.set_cons_succ])
              go_cut [152] (fun v152 wc => ∃ (kq : Nat) (x152_47 : Bool), v152 = .bool x152_47 ∧ Aside0 (laws_FnCoteries.j2 kq l1 t102 t105 t113 t114 (rd_L1 t105 x138_2) (t105.length : Int) x138_2 x152_47 = some r) ∧ Aside0 (kq ≤ k2) ∧ Aside0 (Kd.S (Kd.slice 3 (Kd.int .i64)) 31 wc w.heap.size (fun k_ => some k_ ≠ ((.slice (some ad122) t105.length co43) : Value).ownBlock) (.slice Ao13 t102.length co13) t102) ∧ Aside0 (Kd.S (Kd.slice 3 (Kd.int .i64)) 31 wc w.heap.size (fun k_ => some k_ ≠ ((.slice Ao13 t102.length co13) : Value).ownBlock) (.slice (some ad122) t105.length co43) t105) ∧ Aside0 (Kd.R (Kd.int .i64) 3 wc w.heap.size (fun k_ => some k_ ≠ ((.slice Ao13 t102.length co13) : Value).ownBlock) (.slice A122_0 (rd_L1 t105 x138_2).length c122_0) (rd_L1 t105 x138_2)) ∧ Aside0 (Below w.heap.size w wc))
              case first =>
               have H := HC48.out
               clear HC48
               by_cases c50 : t124 = true
               ·subst c50
                rw [if_pos rfl] at H
                as_aux_lemma =>
                 have H' := Aside0.mk H
                 clear H
                 go_wp2
                 go_meet
                 case rel => exact ⟨_, (t123), (by first | rfl | (simp; done) | (simp [*]; done)), H', ⟨by have := HJ10.out; have := HK2.out; first | omega | exact Nat.le_refl _⟩, ⟨by (with_reducible repeat (first | apply Kd.S_alloc | apply Kd.S_drewN | apply Kd.S_drew)); exact HO_6.out⟩, ⟨by (with_reducible repeat (first | apply Kd.S_alloc | apply Kd.S_drewN | apply Kd.S_drew)); exact HO_7.out⟩, ⟨by (with_reducible repeat (first | apply Kd.R_alloc | apply Kd.R_drewN | apply Kd.R_drew)); exact Kd.R_mono HL122_0.out (fun _ hk => by first | exact hk.1.2 | exact hk.1.1 | exact hk.2 | exact hk.1 | exact hk)⟩, ⟨by repeat (first | (with_reducible first | exact HB.out | apply below_alloc | apply pw_below_drewN | apply below_drew1) | exact HB.out)⟩⟩
               ·replace c50 := Bool.eq_false_iff.mpr c50
                subst c50
                rw [if_neg (show ¬ (false = true) by decide)] at H
                as_aux_lemma =>
                 have H' := Aside0.mk H
                 clear H
                 go_wp2
                 go_meet
                 case rel => exact ⟨_, (true), (by first | rfl | (simp; done) | (simp [*]; done)), H', ⟨by have := HJ10.out; have := HK2.out; first | omega | exact Nat.le_refl _⟩, ⟨by (with_reducible repeat (first | apply Kd.S_alloc | apply Kd.S_drewN | apply Kd.S_drew)); exact HO_6.out⟩, ⟨by (with_reducible repeat (first | apply Kd.S_alloc | apply Kd.S_drewN | apply Kd.S_drew)); exact HO_7.out⟩, ⟨by (with_reducible repeat (first | apply Kd.R_alloc | apply Kd.R_drewN | apply Kd.R_drew)); exact Kd.R_mono HL122_0.out (fun _ hk => by first | exact hk.1.2 | exact hk.1.1 | exact hk.2 | exact hk.1 | exact hk)⟩, ⟨by repeat (first | (with_reducible first | exact HB.out | apply below_alloc | apply pw_below_drewN | apply below_drew1) | exact HB.out)⟩⟩
              case rest =>
               as_aux_lemma =>
                clear HC48
                try clear c3
                try clear c3b0
                try clear c40
                try clear c42
                try clear c44
                try clear c44b0
                try clear c45
                try clear c45b0
                try clear c46
                try clear c46b0
                try clear hx122_0
                try clear p122
                try clear q122
                obtain ⟨kq, x152_47, rfl, HA, HJ47, HO_6, HO_7, HLX, HB⟩ := hcut
                have HR122_0 := Aside0.mk (Kd.R_reads' HLX.out).2.2
                cases kq with
                | zero => exact absurd HA.out (by simp [laws_FnCoteries.j2])
                | succ kj47 =>
                 have H := HA.out
                 clear HA
                 simp only [laws_FnCoteries.j2] at H
                 by_cases c51 : x152_47 = true
                 ·subst c51
                  rw [if_pos rfl] at H
                  as_aux_lemma =>
                   obtain rfl := Option.some.inj H
                   go_wp2
                   go_ret
                   exact ⟨by first | rfl | (simp [errW_none, errW_some] <;> rfl) | (simp [*, errW_none, errW_some] <;> rfl), by repeat (first | (with_reducible first | exact HB.out | apply below_alloc | apply pw_below_drewN | apply below_drew1) | exact HB.out)⟩
                 ·replace c51 := Bool.eq_false_iff.mpr c51
                  subst c51
                  rw [if_neg (show ¬ (false = true) by decide)] at H
                  have H' := Aside0.mk H
                  clear H
                  go_wp2
                  go_loopg [155] kj47 (fun kq v155 w' => ∃ (x155_4 : Int), v155 = .int .i64 x155_4 ∧ Aside0 (laws_FnCoteries.l1 kq l1 t102 t105 t113 t114 (rd_L1 t105 x138_2) (t105.length : Int) x138_2 ((rd_L1 t105 x138_2).length : Int) x155_4 = some r) ∧ Aside0 (kq ≤ kj47) ∧ Aside0 (Kd.S (Kd.slice 3 (Kd.int .i64)) 31 w' w.heap.size (fun k_ => some k_ ≠ ((.slice (some ad122) t105.length co43) : Value).ownBlock) (.slice Ao13 t102.length co13) t102) ∧ Aside0 (Kd.S (Kd.slice 3 (Kd.int .i64)) 31 w' w.heap.size (fun k_ => some k_ ≠ ((.slice Ao13 t102.length co13) : Value).ownBlock) (.slice (some ad122) t105.length co43) t105) ∧ Aside0 (Kd.R (Kd.int .i64) 3 w' w.heap.size (fun k_ => some k_ ≠ ((.slice Ao13 t102.length co13) : Value).ownBlock) (.slice A122_0 (rd_L1 t105 x138_2).length c122_0) (rd_L1 t105 x138_2)) ∧ Aside0 (Below w.heap.size w w'))
                  case atStart => exact ⟨(0), (by first | rfl | (simp; done) | (simp [*]; done)), H', ⟨Nat.le_refl _⟩, ⟨by (with_reducible repeat (first | apply Kd.S_alloc | apply Kd.S_drewN | apply Kd.S_drew)); exact HO_6.out⟩, ⟨by (with_reducible repeat (first | apply Kd.S_alloc | apply Kd.S_drewN | apply Kd.S_drew)); exact HO_7.out⟩, ⟨by (with_reducible repeat (first | apply Kd.R_alloc | apply Kd.R_drewN | apply Kd.R_drew)); exact HLX.out⟩, ⟨by repeat (first | (with_reducible first | exact HB.out | apply below_alloc | apply pw_below_drewN | apply below_drew1) | exact HB.out)⟩⟩
                  case round =>
                   as_aux_lemma =>
                    clear H'
                    try clear c3
                    try clear c3b0
                    try clear c40
                    try clear c42
                    try clear c44
                    try clear c44b0
                    try clear c45
                    try clear c45b0
                    try clear c46
                    try clear c46b0
                    try clear c51
                    try clear hx122_0
                    try clear p122
                    try clear q122
                    obtain ⟨x155_4, rfl, HA, HK4, HO_6, HO_7, HLX, HB⟩ := hrel
                    have HR122_0 := Aside0.mk (Kd.R_reads' HLX.out).2.2
                    cases gk with
                    | zero => exact absurd HA.out (by simp [laws_FnCoteries.l1])
                    | succ k4 =>
                     have H := HA.out
                     clear HA
                     simp only [laws_FnCoteries.l1] at H
                     by_cases c52 : x155_4 < ((rd_L1 t105 x138_2).length : Int)
                     ·rw [if_pos c52] at H
                      have c52b0 : decide (x155_4 < ((rd_L1 t105 x138_2).length : Int)) = true := decide_eq_true c52
                      clear c52
                      obtain ⟨y125, hy125⟩ : ∃ y_ : List Int, y_ = (([] : List Int)) := ⟨_, rfl⟩
                      replace H : (if 0 ≤ x155_4 then (if x155_4 ≤ ((rd_L1 t105 x138_2).length : Int) then (if y125.length + ((rd_L1 t105 x138_2).take (x155_4 : Int).toNat).length < 17592186044416 then ((some (y125 ++ ((rd_L1 t105 x138_2).take (x155_4 : Int).toNat) : List Int)).bind fun y129 => (if 0 ≤ (wrap64 (x155_4 + 1)) then (if (wrap64 (x155_4 + 1)) ≤ ((rd_L1 t105 x138_2).length : Int) then (if y129.length + ((rd_L1 t105 x138_2).drop ((wrap64 (x155_4 + 1)) : Int).toNat).length < 17592186044416 then ((impl_Survives.f k4 t102 (y129 ++ ((rd_L1 t105 x138_2).drop ((wrap64 (x155_4 + 1)) : Int).toNat))).bind fun bt136 => (if bt136.2 = true then (laws_FnCoteries.j4 k4 l1 t102 t105 t113 t114 (rd_L1 t105 x138_2) (t105.length : Int) x138_2 ((rd_L1 t105 x138_2).length : Int) x155_4 (!bt136.1)) else (laws_FnCoteries.j4 k4 l1 t102 t105 t113 t114 (rd_L1 t105 x138_2) (t105.length : Int) x138_2 ((rd_L1 t105 x138_2).length : Int) x155_4 true))) else (none)) else (none)) else (none))) else (none)) else (none)) else (none)) = some r := by first | (rw [hy125]; with_reducible exact H) | (have H2_ := (Option.bind_some _ _).symm.trans H; rw [hy125]; with_reducible exact H2_) | (have H2_ := (Option.bind_some _ _).symm.trans H; with_reducible exact H2_) | with_reducible exact H | (rw [hy125]; exact H) | exact H
                      have Ny125 := Aside0.mk hy125
                      clear hy125
                      by_cases c53 : 0 ≤ x155_4
                      ·rw [if_pos c53] at H
                       have c53b0 := eq_true c53
                       have c53b1 : decide (0 ≤ x155_4) = true := decide_eq_true c53
                       clear c53
                       by_cases c54 : x155_4 ≤ ((rd_L1 t105 x138_2).length : Int)
                       ·rw [if_pos c54] at H
                        have c54b0 := eq_true c54
                        have c54b1 : decide (x155_4 ≤ ((rd_L1 t105 x138_2).length : Int)) = true := decide_eq_true c54
                        clear c54
                        by_cases c55 : y125.length + ((rd_L1 t105 x138_2).take (x155_4 : Int).toNat).length < 17592186044416
                        ·rw [if_pos c55] at H
                         have LMc55 := Aside0.mk c55
                         clear c55
                         obtain ⟨y129, hy129⟩ : ∃ y_ : List Int, y_ = (y125 ++ ((rd_L1 t105 x138_2).take (x155_4 : Int).toNat)) := ⟨_, rfl⟩
                         replace H : (if 0 ≤ (wrap64 (x155_4 + 1)) then (if (wrap64 (x155_4 + 1)) ≤ ((rd_L1 t105 x138_2).length : Int) then (if y129.length + ((rd_L1 t105 x138_2).drop ((wrap64 (x155_4 + 1)) : Int).toNat).length < 17592186044416 then ((impl_Survives.f k4 t102 (y129 ++ ((rd_L1 t105 x138_2).drop ((wrap64 (x155_4 + 1)) : Int).toNat))).bind fun bt136 => (if bt136.2 = true then (laws_FnCoteries.j4 k4 l1 t102 t105 t113 t114 (rd_L1 t105 x138_2) (t105.length : Int) x138_2 ((rd_L1 t105 x138_2).length : Int) x155_4 (!bt136.1)) else (laws_FnCoteries.j4 k4 l1 t102 t105 t113 t114 (rd_L1 t105 x138_2) (t105.length : Int) x138_2 ((rd_L1 t105 x138_2).length : Int) x155_4 true))) else (none)) else (none)) else (none)) = some r := by first | (rw [hy129]; with_reducible exact H) | (have H2_ := (Option.bind_some _ _).symm.trans H; rw [hy129]; with_reducible exact H2_) | (have H2_ := (Option.bind_some _ _).symm.trans H; with_reducible exact H2_) | with_reducible exact H | (rw [hy129]; exact H) | exact H
                         have Ny129 := Aside0.mk hy129
                         clear hy129
                         obtain ⟨ji56, hji56⟩ : ∃ j_ : Int, (wrap64 (x155_4 + 1)) = j_ := ⟨_, rfl⟩
                         replace H : (if 0 ≤ (ji56) then (if (ji56) ≤ ((rd_L1 t105 x138_2).length : Int) then (if y129.length + ((rd_L1 t105 x138_2).drop ((ji56) : Int).toNat).length < 17592186044416 then ((impl_Survives.f k4 t102 (y129 ++ ((rd_L1 t105 x138_2).drop ((ji56) : Int).toNat))).bind fun bt136 => (if bt136.2 = true then (laws_FnCoteries.j4 k4 l1 t102 t105 t113 t114 (rd_L1 t105 x138_2) (t105.length : Int) x138_2 ((rd_L1 t105 x138_2).length : Int) x155_4 (!bt136.1)) else (laws_FnCoteries.j4 k4 l1 t102 t105 t113 t114 (rd_L1 t105 x138_2) (t105.length : Int) x138_2 ((rd_L1 t105 x138_2).length : Int) x155_4 true))) else (none)) else (none)) else (none)) = some r := by first | (rw [hji56] at H; exact H) | (simp only [hji56] at H ⊢; exact H)
                         have hji56w : (IntKind.i64.wrap (x155_4 + 1)) = ji56 := (i64_w _).trans hji56
                         by_cases c57 : 0 ≤ (ji56)
                         ·rw [if_pos c57] at H
                          have c57b0 := eq_true c57
                          have c57b1 : decide (0 ≤ (ji56)) = true := decide_eq_true c57
                          clear c57
                          by_cases c58 : (ji56) ≤ ((rd_L1 t105 x138_2).length : Int)
                          ·rw [if_pos c58] at H
                           have c58b0 := eq_true c58
                           have c58b1 : decide ((ji56) ≤ ((rd_L1 t105 x138_2).length : Int)) = true := decide_eq_true c58
                           clear c58
                           by_cases c59 : y129.length + ((rd_L1 t105 x138_2).drop ((ji56) : Int).toNat).length < 17592186044416
                           ·rw [if_pos c59] at H
                            have LMc59 := Aside0.mk c59
                            clear c59
                            obtain ⟨y133, hy133⟩ : ∃ y_ : List Int, y_ = (y129 ++ ((rd_L1 t105 x138_2).drop ((ji56) : Int).toNat)) := ⟨_, rfl⟩
                            replace H : ((impl_Survives.f k4 t102 y133).bind fun bt136 => (if bt136.2 = true then (laws_FnCoteries.j4 k4 l1 t102 t105 t113 t114 (rd_L1 t105 x138_2) (t105.length : Int) x138_2 ((rd_L1 t105 x138_2).length : Int) x155_4 (!bt136.1)) else (laws_FnCoteries.j4 k4 l1 t102 t105 t113 t114 (rd_L1 t105 x138_2) (t105.length : Int) x138_2 ((rd_L1 t105 x138_2).length : Int) x155_4 true))) = some r := by first | (rw [hy133]; with_reducible exact H) | (have H2_ := (Option.bind_some _ _).symm.trans H; rw [hy133]; with_reducible exact H2_) | (have H2_ := (Option.bind_some _ _).symm.trans H; with_reducible exact H2_) | with_reducible exact H | (rw [hy133]; exact H) | exact H
                            have Ny133 := Aside0.mk hy133
                            clear hy133
                            replace H := Option.bind_eq_some_iff.mp H
                            obtain ⟨⟨t136, t137⟩, A600, H⟩ := H
                            replace H : (if t137 = true then (laws_FnCoteries.j4 k4 l1 t102 t105 t113 t114 (rd_L1 t105 x138_2) (t105.length : Int) x138_2 ((rd_L1 t105 x138_2).length : Int) x155_4 (!t136)) else (laws_FnCoteries.j4 k4 l1 t102 t105 t113 t114 (rd_L1 t105 x138_2) (t105.length : Int) x138_2 ((rd_L1 t105 x138_2).length : Int) x155_4 true)) = some r := H
                            have A60 := Aside0.mk A600
                            clear A600
                            have HC61 := Aside0.mk H
                            clear H
                            try go_wp2
                            have n0_ := Aside0.mk (Kd.S_drew HO_6.out)
                            have n1_ := Aside0.mk (Kd.S_drew HO_7.out)
                            have nX_ := Aside0.mk (Kd.R_drew HLX.out)
                            clear HLX
                            have HLX := nX_
                            clear nX_
                            have n2_ := Aside0.mk (below_drew1 HB.out)
                            clear HO_6
                            clear HO_7
                            clear HB
                            have HO_6 := n0_
                            have HO_7 := n1_
                            have HB := n2_
                            clear n0_ n1_ n2_
                            obtain ⟨i063, hi063, _, hsz63, _⟩ := info_parts info3
                            obtain ⟨hcut63, hA63, hC63⟩ := print_take_of (P := Try.prog) (Value.int .i64) 0 31 3 .i64 Try.underlying31 hi063 hsz63 A122_0 c122_0 (rd_L1 t105 x138_2) x155_4 (of_decide_eq_true (by assumption)) (of_decide_eq_true (by assumption)) HC122_0.out
                            have hAk63 := Aside0.mk hA63
                            have HR128 := Aside0.mk (Kd.C_of_reads (h1 := fun _ => rfl) (hA63 _ (Kd.reads_of_C HR122_0.out)))
                            have HC128 := Aside0.mk hC63
                            clear hA63 hC63 hi063 hsz63
                            obtain ⟨i064, hi064, _, hsz64, _⟩ := info_parts info3
                            obtain ⟨A64, hcut64, hA64, hC64⟩ := print_drop_of (P := Try.prog) (Value.int .i64) 0 31 3 .i64 Try.underlying31 hi064 hsz64 A122_0 c122_0 (rd_L1 t105 x138_2) (ji56) (of_decide_eq_true (by assumption)) (of_decide_eq_true (by assumption)) HC122_0.out
                            have hAk64 := Aside0.mk hA64
                            have HR132 := Aside0.mk (Kd.C_of_reads (h1 := fun _ => rfl) (hA64 _ (Kd.reads_of_C HR122_0.out)))
                            have HC132 := Aside0.mk hC64
                            clear hA64 hC64 hi064 hsz64
                            refine start_ (n := 17) (S := fun w' => True) (ds := []) #[false, false, false, false, false, false, false, false, false, false, false, false, false, false, false, false, false] (by kernel_rfl) rfl rfl trivial (fun hHeld => ?_); refine with_tabW laws_FnCoteries.tab22 laws_FnCoteries.bits22 (fun HT_ HW_ => ?_)
                            generalize wr.drew = w62 at HO_6 HO_7 HLX HB hHeld ⊢
                            refine pure_ (i := 0) (N := some 159) (v := ?_) (a' := ?_) #[true, false, false, false, false, false, false, false, false, false, false, false, false, false, false, false, false] rfl rfl (any_of HT_.out (by kernel_rfl)) (fun _ _ _ h => h) (Or.inl ⟨by rfl, ?_⟩) ?_ ?_
                            rotate_left
                            ·intro w'
                             go_simp
                             with_reducible rfl
                            rotate_left
                            ·simp only [Act.put, List.setIfInBounds_toArray, List.set_cons_zero, List.set_cons_succ, i64_w, i32_w]
                             rfl
                            refine pure_ (i := 2) (N := some 161) (v := ?_) (a' := ?_) #[true, false, true, false, false, false, false, false, false, false, false, false, false, false, false, false, false] rfl rfl (any_of HT_.out (by kernel_rfl)) (fun _ _ _ h => h) (Or.inl ⟨by rfl, ?_⟩) ?_ ?_
                            rotate_left
                            ·intro w'
                             go_simp
                             with_reducible rfl
                            rotate_left
                            ·simp only [Act.put, List.setIfInBounds_toArray, List.set_cons_zero, List.set_cons_succ, i64_w, i32_w]
                             rfl
                            refine pure_ (i := 3) (N := some 162) (v := ?_) (a' := ?_) #[true, false, true, true, false, false, false, false, false, false, false, false, false, false, false, false, false] rfl rfl (any_of HT_.out (by kernel_rfl)) (fun _ _ _ h => h) (Or.inl ⟨by rfl, ?_⟩) ?_ ?_
                            rotate_left
                            ·intro w'
                             go_simp
                             with_reducible rfl
                            rotate_left
                            ·simp only [Act.put, List.setIfInBounds_toArray, List.set_cons_zero, List.set_cons_succ, i64_w, i32_w]
                             rfl
                            refine pure_ (i := 4) (N := some 163) (v := ?_) (a' := ?_) #[true, false, true, true, true, false, false, false, false, false, false, false, false, false, false, false, false] rfl rfl (any_of HT_.out (by kernel_rfl)) (fun _ _ _ h => h) (Or.inl ⟨by rfl, ?_⟩) ?_ ?_
                            rotate_left
                            ·intro w'
                             go_simp
                             with_reducible rfl
                            rotate_left
                            ·simp only [Act.put, List.setIfInBounds_toArray, List.set_cons_zero, List.set_cons_succ, i64_w, i32_w]
                             rfl
                            refine pure_ (i := 6) (N := some 165) (v := ?_) (a' := ?_) #[true, false, true, true, true, false, true, false, false, false, false, false, false, false, false, false, false] rfl rfl (any_of HT_.out (by kernel_rfl)) (fun _ _ _ h => h) (Or.inl ⟨by rfl, ?_⟩) ?_ ?_
                            rotate_left
                            ·intro w'
                             go_simp
                             with_reducible rfl
                            rotate_left
                            ·simp only [Act.put, List.setIfInBounds_toArray, List.set_cons_zero, List.set_cons_succ, i64_w, i32_w]
                             rfl
                            refine pure_ (i := 7) (N := some 166) (v := ?_) (a' := ?_) #[true, false, true, true, true, false, true, true, false, false, false, false, false, false, false, false, false] rfl rfl (any_of HT_.out (by kernel_rfl)) (fun _ _ _ h => h) (Or.inl ⟨by rfl, ?_⟩) ?_ ?_
                            rotate_left
                            ·intro w'
                             go_simp
                             with_reducible rfl
                            rotate_left
                            ·simp only [Act.put, List.setIfInBounds_toArray, List.set_cons_zero, List.set_cons_succ, i64_w, i32_w]
                             rfl
                            refine pure_ (i := 8) (N := some 167) (v := ?_) (a' := ?_) #[true, false, true, true, true, false, true, true, true, false, false, false, false, false, false, false, false] rfl rfl (any_of HT_.out (by kernel_rfl)) (fun _ _ _ h => h) (Or.inl ⟨by rfl, ?_⟩) ?_ ?_
                            rotate_left
                            ·intro w'
                             go_simp
                             with_reducible rfl
                            rotate_left
                            ·simp only [Act.put, List.setIfInBounds_toArray, List.set_cons_zero, List.set_cons_succ, i64_w, i32_w]
                             rfl
                            refine pure_ (i := 9) (N := some 168) (v := ?_) (a' := ?_) #[true, false, true, true, true, false, true, true, true, true, false, false, false, false, false, false, false] rfl rfl (any_of HT_.out (by kernel_rfl)) (fun _ _ _ h => h) (Or.inl ⟨by rfl, ?_⟩) ?_ ?_
                            rotate_left
                            ·intro w'
                             go_simp
                             with_reducible rfl
                            rotate_left
                            ·simp only [Act.put, List.setIfInBounds_toArray, List.set_cons_zero, List.set_cons_succ, i64_w, i32_w]
                             rfl
                            refine one_ (i := 1) (N := some 160) #[true, true, true, true, true, false, true, true, true, true, false, false, false, false, false, false, false] rfl rfl (one_of HT_.out (by kernel_rfl)) (by decide) (fun K hK => ?_)
                            refine Kd.R_lit_step (Kd.int .i64) _ 3 ?hg (N := 160) ?hd (xs := ([] : List Int)) (inner := []) (ok := fun _ => True) (okp := fun _ => True) ?hr ?hp (fun _ hk => hk) trivial (Below.refl _ _) (Nat.le_refl _) (by simp) ?_; (case hd => rfl); (case hg => rfl); (case hr => first | (go_simp; done) | (go_simp; rfl)); (case hp => exact (Reps.none _ _))
                            intro v126 w65 ho66 hb hg_ hnew_
                            clear hg_ hnew_
                            (first | rw [← Ny125.out] at ho66 | (simp only [Int.reduceToNat] at ho66; rw [← Ny125.out] at ho66))
                            have n0_ := Aside0.mk (Kd.S_elder' (by (with_reducible repeat (first | apply Kd.S_alloc | apply Kd.S_drewN | apply Kd.S_drew)); exact HO_6.out) (Kd.R_base ho66) hb)
                            have n1_ := Aside0.mk (Kd.S_elder' (by (with_reducible repeat (first | apply Kd.S_alloc | apply Kd.S_drewN | apply Kd.S_drew)); exact HO_7.out) (Kd.R_base ho66) hb)
                            have nX_ := Aside0.mk (Kd.R_elder' (by (with_reducible repeat (first | apply Kd.R_alloc | apply Kd.R_drewN | apply Kd.R_drew)); exact HLX.out) (Kd.R_base ho66) hb)
                            clear HLX
                            have HLX := nX_
                            clear nX_
                            have n2_ := Aside0.mk (Kd.R_lower ho66 (below_size (by repeat (first | (with_reducible first | exact HB.out | apply below_alloc | apply pw_below_drewN | apply below_drew1) | exact HB.out))))
                            have n3_ := Aside0.mk (below_step (by repeat (first | (with_reducible first | exact HB.out | apply below_alloc | apply pw_below_drewN | apply below_drew1) | exact HB.out)) hb)
                            clear HO_6
                            clear HO_7
                            clear HB
                            have HO_6 := n0_
                            have HO_7 := n1_
                            have HO127 := n2_
                            have HB := n3_
                            clear n0_ n1_ n2_ n3_
                            clear hb ho66
                            refine hK.out _ _ trivial (fun hHeld => ?_)
                            clear hK K
                            refine norm_ (a' := ?_) ?_ ?_
                            rotate_left
                            ·show Act.put _ (some 160) _ = _
                             simp only [Act.put, List.setIfInBounds_toArray, List.set_cons_zero, List.set_cons_succ, i64_w, i32_w]
                             rfl
                            refine one_ (i := 5) (N := some 164) #[true, true, true, true, true, true, true, true, true, true, false, false, false, false, false, false, false] rfl rfl (one_of HT_.out (by kernel_rfl)) (by decide) (fun K hK => ?_)
                            refine Kd.R_append_rows_step (Kd.int .i64) (w0 := w) w.heap.size (by rfl) (.tmp 160) (.tmp 163) 31 3 (.int .i64 0) 8 rfl Try.underlying31 info3 rfl (by decide) (by omega) v126 y125 ((rd_L1 t105 x138_2).take (x155_4 : Int).toNat) _ _ _ (fun _ => True) (fun _ => False) rfl rfl ?aO ?aR (fun _ _ h => h) (fun _ h => h.elim) ?aF ?aB ?aS ?aL ?_
                            (case aR => first | (have hC_ := Kd.C_of_reads (d := (0 : Int)) (h1 := fun _ => rfl) (hAk63.out _ (Kd.reads_of_C (Kd.R_reads' HLX.out).2.2)); rw [show ((rd_L1 t105 x138_2).take (x155_4 : Int).toNat).length = x155_4.toNat from (by rw [List.length_take]; have h_ : (x155_4 : Int) ≤ ((rd_L1 t105 x138_2).length : Int) := of_decide_eq_true (by assumption); omega)] at hC_; exact hC_) | (have hC_ := Kd.C_of_reads (d := (0 : Int)) (h1 := fun _ => rfl) (hAk63.out _ (Kd.reads_of_C (Kd.R_reads' HLX.out).2.2)); exact hC_) | (rw [← show ((rd_L1 t105 x138_2).take (x155_4 : Int).toNat).length = x155_4.toNat from (by rw [List.length_take]; have h_ : (x155_4 : Int) ≤ ((rd_L1 t105 x138_2).length : Int) := of_decide_eq_true (by assumption); omega)]; repeat (first | exact (Kd.C_below HR128.out HB.out) | (with_reducible refine Kd.C_alloc ?_ _) | (with_reducible refine Kd.C_drewN ?_ _) | (with_reducible refine Kd.C_drew ?_))) | (repeat (first | exact (Kd.C_below HR128.out HB.out) | (with_reducible refine Kd.C_alloc ?_ _) | (with_reducible refine Kd.C_drewN ?_ _) | (with_reducible refine Kd.C_drew ?_))))
                            (case aB => exact (by repeat (first | (with_reducible first | exact HB.out | apply below_alloc | apply pw_below_drewN | apply below_drew1) | exact HB.out)))
                            (case aF => exact (fun _ _ => trivial))
                            (case aO => exact (by (with_reducible repeat (first | apply Kd.R_alloc | apply Kd.R_drewN | apply Kd.R_drew)); exact HO127.out))
                            (case aS => exact (below_size (by repeat (first | (with_reducible first | exact HB.out | apply below_alloc | apply pw_below_drewN | apply below_drew1) | exact HB.out))))
                            (case aL => have := LMc55.out; have hlx_ := (show ((rd_L1 t105 x138_2).take (x155_4 : Int).toNat).length = x155_4.toNat from (by rw [List.length_take]; have h_ : (x155_4 : Int) ≤ ((rd_L1 t105 x138_2).length : Int) := of_decide_eq_true (by assumption); omega)); omega)
                            intro v130 w67 ho hb hg hat
                            rw [← Ny129.out] at ho
                            have n0_ := Aside0.mk (Kd.S_after (ok := (fun k_ => some k_ ≠ (.slice (some ad122) t105.length co43 : Value).ownBlock)) (by (with_reducible repeat (first | apply Kd.S_alloc | apply Kd.S_drewN | apply Kd.S_drew)); exact HO_6.out) hg hat)
                            have n1_ := Aside0.mk (Kd.S_after (ok := (fun k_ => some k_ ≠ (.slice Ao13 t102.length co13 : Value).ownBlock)) (by (with_reducible repeat (first | apply Kd.S_alloc | apply Kd.S_drewN | apply Kd.S_drew)); exact HO_7.out) hg hat)
                            have nX_ := Aside0.mk (Kd.R_after (ok := (fun k_ => some k_ ≠ (.slice Ao13 t102.length co13 : Value).ownBlock)) (by (with_reducible repeat (first | apply Kd.R_alloc | apply Kd.R_drewN | apply Kd.R_drew)); exact HLX.out) hg hat)
                            clear HLX
                            have HLX := nX_
                            clear nX_
                            have n2_ := Aside0.mk (hb)
                            have n3_ := Aside0.mk (ho)
                            clear HO_6
                            clear HO_7
                            clear HB
                            clear HO127
                            have HO_6 := n0_
                            have HO_7 := n1_
                            have HB := n2_
                            have HO131 := n3_
                            clear n0_ n1_ n2_ n3_
                            clear ho hb hg hat
                            refine hK.out _ _ trivial (fun hHeld => ?_)
                            clear hK K
                            refine norm_ (a' := ?_) ?_ ?_
                            rotate_left
                            ·show Act.put _ (some 164) _ = _
                             simp only [Act.put, List.setIfInBounds_toArray, List.set_cons_zero, List.set_cons_succ, i64_w, i32_w]
                             rfl
                            refine one_ (i := 10) (N := some 169) #[true, true, true, true, true, true, true, true, true, true, true, false, false, false, false, false, false] rfl rfl (one_of HT_.out (by kernel_rfl)) (by decide) (fun K hK => ?_)
                            refine Kd.R_append_rows_step (Kd.int .i64) (w0 := w) w.heap.size (by rfl) (.tmp 164) (.tmp 168) 31 3 (.int .i64 0) 8 rfl Try.underlying31 info3 rfl (by decide) (by omega) v130 y129 ((rd_L1 t105 x138_2).drop ((ji56) : Int).toNat) _ _ _ (fun _ => True) (fun _ => False) rfl rfl ?aO ?aR (fun _ _ h => h) (fun _ h => h.elim) ?aF ?aB ?aS ?aL ?_
                            (case aR => first | (have hC_ := Kd.C_of_reads (d := (0 : Int)) (h1 := fun _ => rfl) (hAk64.out _ (Kd.reads_of_C (Kd.R_reads' HLX.out).2.2)); rw [show ((rd_L1 t105 x138_2).drop ((ji56) : Int).toNat).length = ((rd_L1 t105 x138_2).length - (ji56).toNat) from List.length_drop] at hC_; exact hC_) | (have hC_ := Kd.C_of_reads (d := (0 : Int)) (h1 := fun _ => rfl) (hAk64.out _ (Kd.reads_of_C (Kd.R_reads' HLX.out).2.2)); exact hC_) | (rw [← show ((rd_L1 t105 x138_2).drop ((ji56) : Int).toNat).length = ((rd_L1 t105 x138_2).length - (ji56).toNat) from List.length_drop]; repeat (first | exact (Kd.C_below HR132.out HB.out) | (with_reducible refine Kd.C_alloc ?_ _) | (with_reducible refine Kd.C_drewN ?_ _) | (with_reducible refine Kd.C_drew ?_))) | (repeat (first | exact (Kd.C_below HR132.out HB.out) | (with_reducible refine Kd.C_alloc ?_ _) | (with_reducible refine Kd.C_drewN ?_ _) | (with_reducible refine Kd.C_drew ?_))))
                            (case aB => exact (by repeat (first | (with_reducible first | exact HB.out | apply below_alloc | apply pw_below_drewN | apply below_drew1) | exact HB.out)))
                            (case aF => exact (fun _ _ => trivial))
                            (case aO => exact (by (with_reducible repeat (first | apply Kd.R_alloc | apply Kd.R_drewN | apply Kd.R_drew)); exact HO131.out))
                            (case aS => exact (below_size (by repeat (first | (with_reducible first | exact HB.out | apply below_alloc | apply pw_below_drewN | apply below_drew1) | exact HB.out))))
                            (case aL => have := LMc59.out; have hlx_ := (show ((rd_L1 t105 x138_2).drop ((ji56) : Int).toNat).length = ((rd_L1 t105 x138_2).length - (ji56).toNat) from List.length_drop); omega)
                            intro v134 w68 ho hb hg hat
                            rw [← Ny133.out] at ho
                            have n0_ := Aside0.mk (Kd.S_after (ok := (fun k_ => some k_ ≠ (.slice (some ad122) t105.length co43 : Value).ownBlock)) (by (with_reducible repeat (first | apply Kd.S_alloc | apply Kd.S_drewN | apply Kd.S_drew)); exact HO_6.out) hg hat)
                            have n1_ := Aside0.mk (Kd.S_after (ok := (fun k_ => some k_ ≠ (.slice Ao13 t102.length co13 : Value).ownBlock)) (by (with_reducible repeat (first | apply Kd.S_alloc | apply Kd.S_drewN | apply Kd.S_drew)); exact HO_7.out) hg hat)
                            have nX_ := Aside0.mk (Kd.R_after (ok := (fun k_ => some k_ ≠ (.slice Ao13 t102.length co13 : Value).ownBlock)) (by (with_reducible repeat (first | apply Kd.R_alloc | apply Kd.R_drewN | apply Kd.R_drew)); exact HLX.out) hg hat)
                            clear HLX
                            have HLX := nX_
                            clear nX_
                            have n2_ := Aside0.mk (hb)
                            have n3_ := Aside0.mk (ho)
                            clear HO_6
                            clear HO_7
                            clear HB
                            clear HO131
                            have HO_6 := n0_
                            have HO_7 := n1_
                            have HB := n2_
                            have HO135 := n3_
                            clear n0_ n1_ n2_ n3_
                            clear ho hb hg hat
                            obtain ⟨Ao69, co69, eo69⟩ := Kd.R_slice HO135.out
                            (first | subst eo69 | (injection eo69 with f1_ f2_ f3_; have f4_ := f1_.symm; have f5_ := f3_.symm; clear f1_ f2_ f3_; subst f4_; subst f5_))
                            refine hK.out _ _ trivial (fun hHeld => ?_)
                            clear hK K
                            refine norm_ (a' := ?_) ?_ ?_
                            rotate_left
                            ·show Act.put _ (some 169) _ = _
                             simp only [Act.put, List.setIfInBounds_toArray, List.set_cons_zero, List.set_cons_succ, i64_w, i32_w]
                             rfl
                            refine one_ (i := 11) (N := some 170) #[true, true, true, true, true, true, true, true, true, true, true, true, false, false, false, false, false] rfl rfl (one_of HT_.out (by kernel_rfl)) (by decide) (fun K hK => ?_)
                            refine goes_ Try.func46 (by kernel_rfl) rfl #[.slice Ao13 t102.length co13, .slice Ao69 y133.length co69] (by rfl) rfl rfl (by (try simp only [List.map_toArray, List.map_cons, List.map_nil]); first | done | rfl | (simp only [List.length_drop, List.length_take]; rfl)) ?_
                            with_reducible refine (impl_Survives.calls k4 _ _ t102 _ _ y133 t136 t137 _ ?side1 ?side2 ?side3 ?side4 A60.out).mono ?_
                            (case side1 => repeat (first | exact (Kd.S_reads' HO_6.out).2.2 | (with_reducible refine Kd.C_alloc ?_ _) | (with_reducible refine Kd.C_drewN ?_ _) | (with_reducible refine Kd.C_drew ?_)))
                            (case side2 => exact (Kd.S_reads' HO_6.out).2.1)
                            (case side3 => repeat (first | exact (Kd.R_reads' HO135.out).2.2 | (with_reducible refine Kd.C_alloc ?_ _) | (with_reducible refine Kd.C_drewN ?_ _) | (with_reducible refine Kd.C_drew ?_)))
                            (case side4 => exact (Kd.R_reads' HO135.out).2.1)
                            rintro e w70 ⟨rfl, hb⟩
                            refine ⟨_, rfl, ?_⟩
                            have n0_ := Aside0.mk (Kd.S_below (by (with_reducible repeat (first | apply Kd.S_alloc | apply Kd.S_drewN | apply Kd.S_drew)); exact HO_6.out) hb)
                            have n1_ := Aside0.mk (Kd.S_below (by (with_reducible repeat (first | apply Kd.S_alloc | apply Kd.S_drewN | apply Kd.S_drew)); exact HO_7.out) hb)
                            have nX_ := Aside0.mk (Kd.R_below (by (with_reducible repeat (first | apply Kd.R_alloc | apply Kd.R_drewN | apply Kd.R_drew)); exact HLX.out) hb)
                            clear HLX
                            have HLX := nX_
                            clear nX_
                            have n2_ := Aside0.mk (Kd.R_below (by (with_reducible repeat (first | apply Kd.R_alloc | apply Kd.R_drewN | apply Kd.R_drew)); exact HO135.out) hb)
                            have n3_ := Aside0.mk (below_step (by repeat (first | (with_reducible first | exact HB.out | apply below_alloc | apply pw_below_drewN | apply below_drew1) | exact HB.out)) hb)
                            clear HO_6
                            clear HO_7
                            clear HO135
                            clear HB
                            have HO_6 := n0_
                            have HO_7 := n1_
                            have HO135 := n2_
                            have HB := n3_
                            clear n0_ n1_ n2_ n3_
                            (try clear hb)
                            (try clear hb2)
                            (try clear hk)
                            (try clear hi)
                            refine hK.out _ _ trivial (fun hHeld => ?_)
                            clear hK K
                            refine norm_ (a' := ?_) ?_ ?_
                            rotate_left
                            ·show Act.put _ (some 170) _ = _
                             simp only [Act.put, List.setIfInBounds_toArray, List.set_cons_zero, List.set_cons_succ, i64_w, i32_w]
                             rfl
                            refine pure_ (i := 12) (N := some 158) (v := ?_) (a' := ?_) #[true, true, true, true, true, true, true, true, true, true, true, true, true, false, false, false, false] rfl rfl (any_of HT_.out (by kernel_rfl)) (fun _ _ _ h => h) (Or.inl ⟨by rfl, ?_⟩) ?_ ?_
                            rotate_left
                            ·intro w'
                             go_simp
                             with_reducible rfl
                            rotate_left
                            ·simp only [Act.put, List.setIfInBounds_toArray, List.set_cons_zero, List.set_cons_succ, i64_w, i32_w]
                             rfl
                            refine pure_ (i := 13) (N := some 171) (v := ?_) (a' := ?_) #[true, true, true, true, true, true, true, true, true, true, true, true, true, true, false, false, false] rfl rfl (any_of HT_.out (by kernel_rfl)) (fun _ _ _ h => h) (Or.inl ⟨by rfl, ?_⟩) ?_ ?_
                            rotate_left
                            ·intro w'
                             go_simp
                             with_reducible rfl
                            rotate_left
                            ·simp only [Act.put, List.setIfInBounds_toArray, List.set_cons_zero, List.set_cons_succ, i64_w, i32_w]
                             rfl
                            refine pure_ (i := 14) (N := some 172) (v := ?_) (a' := ?_) #[true, true, true, true, true, true, true, true, true, true, true, true, true, true, true, false, false] rfl rfl (any_of HT_.out (by kernel_rfl)) (fun _ _ _ h => h) (Or.inl ⟨by rfl, ?_⟩) ?_ ?_
                            rotate_left
                            ·intro w'
                             go_simp
                             with_reducible rfl
                            rotate_left
                            ·simp only [Act.put, List.setIfInBounds_toArray, List.set_cons_zero, List.set_cons_succ, i64_w, i32_w]
                             rfl
                            refine pure_ (i := 15) (N := some 24) (v := ?_) (a' := ?_) #[true, true, true, true, true, true, true, true, true, true, true, true, true, true, true, true, false] rfl rfl (any_of HT_.out (by kernel_rfl)) (fun _ _ _ h => h) (Or.inl ⟨by rfl, ?_⟩) ?_ ?_
                            rotate_left
                            ·intro w'
                             go_simp
                             with_reducible rfl
                            rotate_left
                            ·simp only [Act.put, List.setIfInBounds_toArray, List.set_cons_zero, List.set_cons_succ, i64_w, i32_w]
                             rfl
                            refine pure_ (i := 16) (N := some 25) (v := ?_) (a' := ?_) #[true, true, true, true, true, true, true, true, true, true, true, true, true, true, true, true, true] rfl rfl (any_of HT_.out (by kernel_rfl)) (fun _ _ _ h => h) (Or.inl ⟨by rfl, ?_⟩) ?_ ?_
                            rotate_left
                            ·intro w'
                             go_simp
                             with_reducible rfl
                            rotate_left
                            ·simp only [Act.put, List.setIfInBounds_toArray, List.set_cons_zero, List.set_cons_succ, i64_w, i32_w]
                             rfl
                            refine done_ (done_of HT_.out (by kernel_rfl)) ?_
                            go_upto_region 23 with (fail)
                            go_cut [178] (fun v178 wc => ∃ (kq : Nat) (x178_60 : Bool), v178 = .bool x178_60 ∧ Aside0 (laws_FnCoteries.j4 kq l1 t102 t105 t113 t114 (rd_L1 t105 x138_2) (t105.length : Int) x138_2 ((rd_L1 t105 x138_2).length : Int) x155_4 x178_60 = some r) ∧ Aside0 (kq ≤ k4) ∧ Aside0 (Kd.S (Kd.slice 3 (Kd.int .i64)) 31 wc w.heap.size (fun k_ => some k_ ≠ ((.slice (some ad122) t105.length co43) : Value).ownBlock) (.slice Ao13 t102.length co13) t102) ∧ Aside0 (Kd.S (Kd.slice 3 (Kd.int .i64)) 31 wc w.heap.size (fun k_ => some k_ ≠ ((.slice Ao13 t102.length co13) : Value).ownBlock) (.slice (some ad122) t105.length co43) t105) ∧ Aside0 (Kd.R (Kd.int .i64) 3 wc w.heap.size (fun k_ => some k_ ≠ ((.slice Ao13 t102.length co13) : Value).ownBlock) (.slice A122_0 (rd_L1 t105 x138_2).length c122_0) (rd_L1 t105 x138_2)) ∧ Aside0 (Below w.heap.size w wc))
                            case first =>
                             have H := HC61.out
                             clear HC61
                             by_cases c71 : t137 = true
                             ·subst c71
                              rw [if_pos rfl] at H
                              as_aux_lemma =>
                               have H' := Aside0.mk H
                               clear H
                               go_wp2
                               go_meet
                               case rel => exact ⟨_, (!t136), (by first | rfl | (simp; done) | (simp [*]; done)), H', ⟨by have := HJ10.out; have := HK2.out; have := HJ47.out; have := HK4.out; first | omega | exact Nat.le_refl _⟩, ⟨by (with_reducible repeat (first | apply Kd.S_alloc | apply Kd.S_drewN | apply Kd.S_drew)); exact Kd.S_mono HO_6.out (fun _ hk => hk.1)⟩, ⟨by (with_reducible repeat (first | apply Kd.S_alloc | apply Kd.S_drewN | apply Kd.S_drew)); exact Kd.S_mono HO_7.out (fun _ hk => hk.1)⟩, ⟨by (with_reducible repeat (first | apply Kd.R_alloc | apply Kd.R_drewN | apply Kd.R_drew)); exact Kd.R_mono HLX.out (fun _ hk => by first | exact hk | exact hk.1 | exact hk.1.1 | exact hk.1.1.1)⟩, ⟨by repeat (first | (with_reducible first | exact HB.out | apply below_alloc | apply pw_below_drewN | apply below_drew1) | exact HB.out)⟩⟩
                             ·replace c71 := Bool.eq_false_iff.mpr c71
                              subst c71
                              rw [if_neg (show ¬ (false = true) by decide)] at H
                              as_aux_lemma =>
                               have H' := Aside0.mk H
                               clear H
                               go_wp2
                               go_meet
                               case rel => exact ⟨_, (true), (by first | rfl | (simp; done) | (simp [*]; done)), H', ⟨by have := HJ10.out; have := HK2.out; have := HJ47.out; have := HK4.out; first | omega | exact Nat.le_refl _⟩, ⟨by (with_reducible repeat (first | apply Kd.S_alloc | apply Kd.S_drewN | apply Kd.S_drew)); exact Kd.S_mono HO_6.out (fun _ hk => hk.1)⟩, ⟨by (with_reducible repeat (first | apply Kd.S_alloc | apply Kd.S_drewN | apply Kd.S_drew)); exact Kd.S_mono HO_7.out (fun _ hk => hk.1)⟩, ⟨by (with_reducible repeat (first | apply Kd.R_alloc | apply Kd.R_drewN | apply Kd.R_drew)); exact Kd.R_mono HLX.out (fun _ hk => by first | exact hk | exact hk.1 | exact hk.1.1 | exact hk.1.1.1)⟩, ⟨by repeat (first | (with_reducible first | exact HB.out | apply below_alloc | apply pw_below_drewN | apply below_drew1) | exact HB.out)⟩⟩
                            case rest =>
                             as_aux_lemma =>
                              clear HC61
                              try clear c3
                              try clear c3b0
                              try clear c40
                              try clear c42
                              try clear c44
                              try clear c44b0
                              try clear c45
                              try clear c45b0
                              try clear c46
                              try clear c46b0
                              try clear c51
                              try clear c52
                              try clear c52b0
                              try clear c53
                              try clear c53b0
                              try clear c53b1
                              try clear c54
                              try clear c54b0
                              try clear c54b1
                              try clear c55
                              try clear c57
                              try clear c57b0
                              try clear c57b1
                              try clear c58
                              try clear c58b0
                              try clear c58b1
                              try clear c59
                              try clear hx122_0
                              try clear p122
                              try clear q122
                              obtain ⟨kq, x178_60, rfl, HA, HJ60, HO_6, HO_7, HLX, HB⟩ := hcut
                              cases kq with
                              | zero => exact absurd HA.out (by simp [laws_FnCoteries.j4])
                              | succ kj60 =>
                               have H := HA.out
                               clear HA
                               simp only [laws_FnCoteries.j4] at H
                               by_cases c72 : x178_60 = true
                               ·subst c72
                                rw [if_pos rfl] at H
                                as_aux_lemma =>
                                 obtain rfl := Option.some.inj H
                                 go_wp2
                                 go_ret
                                 exact ⟨by first | rfl | (simp [errW_none, errW_some] <;> rfl) | (simp only [← hji56]; first | rfl | (simp [errW_none, errW_some] <;> rfl)) | (simp [*, errW_none, errW_some] <;> rfl), by repeat (first | (with_reducible first | exact HB.out | apply below_alloc | apply pw_below_drewN | apply below_drew1) | exact HB.out)⟩
                               ·replace c72 := Bool.eq_false_iff.mpr c72
                                subst c72
                                rw [if_neg (show ¬ (false = true) by decide)] at H
                                as_aux_lemma =>
                                 have H' := Aside0.mk H
                                 clear H
                                 go_wp2
                                 go_roundg kj60
                                 case measure => have := HJ10.out; have := HK2.out; have := HJ47.out; have := HK4.out; have := HJ60.out; omega
                                 case rel => exact ⟨(wrap64 (x155_4 + 1)), (by first | rfl | (simp; done) | (simp [*]; done)), H', ⟨by have := HJ10.out; have := HK2.out; have := HJ47.out; have := HK4.out; have := HJ60.out; omega⟩, ⟨by (with_reducible repeat (first | apply Kd.S_alloc | apply Kd.S_drewN | apply Kd.S_drew)); exact HO_6.out⟩, ⟨by (with_reducible repeat (first | apply Kd.S_alloc | apply Kd.S_drewN | apply Kd.S_drew)); exact HO_7.out⟩, ⟨by (with_reducible repeat (first | apply Kd.R_alloc | apply Kd.R_drewN | apply Kd.R_drew)); exact HLX.out⟩, ⟨by repeat (first | (with_reducible first | exact HB.out | apply below_alloc | apply pw_below_drewN | apply below_drew1) | exact HB.out)⟩⟩
                           ·rw [if_neg c59] at H
                            exact absurd H (by simp)
                          ·rw [if_neg c58] at H
                           exact absurd H (by simp)
                         ·rw [if_neg c57] at H
                          exact absurd H (by simp)
                        ·rw [if_neg c55] at H
                         exact absurd H (by simp)
                       ·rw [if_neg c54] at H
                        exact absurd H (by simp)
                      ·rw [if_neg c53] at H
                       exact absurd H (by simp)
                     ·rw [if_neg c52] at H
                      have c52b0 : decide (x155_4 < ((rd_L1 t105 x138_2).length : Int)) = false := decide_eq_false c52
                      clear c52
                      as_aux_lemma =>
                       have H' := Aside0.mk H
                       clear H
                       go_wp2
                       go_roundg k4
                       case measure => have := HJ10.out; have := HK2.out; have := HJ47.out; have := HK4.out; omega
                       case rel => exact ⟨(wrap64 (x138_2 + 1)), (by first | rfl | (simp; done) | (simp [*]; done)), H', ⟨by have := HJ10.out; have := HK2.out; have := HJ47.out; have := HK4.out; omega⟩, ⟨by (with_reducible repeat (first | apply Kd.S_alloc | apply Kd.S_drewN | apply Kd.S_drew)); exact HO_6.out⟩, ⟨by (with_reducible repeat (first | apply Kd.S_alloc | apply Kd.S_drewN | apply Kd.S_drew)); exact HO_7.out⟩, ⟨by repeat (first | (with_reducible first | exact HB.out | apply below_alloc | apply pw_below_drewN | apply below_drew1) | exact HB.out)⟩⟩
             ·rw [if_neg c46] at H
              exact absurd H (by simp)
            ·rw [if_neg c45] at H
             exact absurd H (by simp)
           ·rw [if_neg c44] at H
            have c44b0 : decide (x138_2 < (t105.length : Int)) = false := decide_eq_false c44
            clear c44
            (first | rw [c44b0] | (simp only [i64_w, i32_w]; rw [c44b0]) | skip)
            have HC73 := Aside0.mk H
            clear H
            go_upto_region 27 with (fail)
            go_cut [184] (fun v184 wc => ∃ (kq : Nat) (x184_72 : Bool), v184 = .bool x184_72 ∧ Aside0 (laws_FnCoteries.j5 kq l1 t102 t105 x184_72 = some r) ∧ Aside0 (kq ≤ k2) ∧ Aside0 (Kd.S (Kd.slice 3 (Kd.int .i64)) 31 wc w.heap.size (fun k_ => some k_ ≠ ((.slice Ao43 t105.length co43) : Value).ownBlock) (.slice Ao13 t102.length co13) t102) ∧ Aside0 (Kd.S (Kd.slice 3 (Kd.int .i64)) 31 wc w.heap.size (fun k_ => some k_ ≠ ((.slice Ao13 t102.length co13) : Value).ownBlock) (.slice Ao43 t105.length co43) t105) ∧ Aside0 (Below w.heap.size w wc))
            case first =>
             have H := HC73.out
             clear HC73
             by_cases c74 : t114 = true
             ·subst c74
              rw [if_pos rfl] at H
              as_aux_lemma =>
               have H' := Aside0.mk H
               clear H
               go_wp2
               go_meet
               case rel => exact ⟨_, (t113), (by first | rfl | (simp; done) | (simp [*]; done)), H', ⟨by have := HJ10.out; have := HK2.out; first | omega | exact Nat.le_refl _⟩, ⟨by (with_reducible repeat (first | apply Kd.S_alloc | apply Kd.S_drewN | apply Kd.S_drew)); exact HO_6.out⟩, ⟨by (with_reducible repeat (first | apply Kd.S_alloc | apply Kd.S_drewN | apply Kd.S_drew)); exact HO_7.out⟩, ⟨by repeat (first | (with_reducible first | exact HB.out | apply below_alloc | apply pw_below_drewN | apply below_drew1) | exact HB.out)⟩⟩
             ·replace c74 := Bool.eq_false_iff.mpr c74
              subst c74
              rw [if_neg (show ¬ (false = true) by decide)] at H
              as_aux_lemma =>
               have H' := Aside0.mk H
               clear H
               go_wp2
               go_meet
               case rel => exact ⟨_, (false), (by first | rfl | (simp; done) | (simp [*]; done)), H', ⟨by have := HJ10.out; have := HK2.out; first | omega | exact Nat.le_refl _⟩, ⟨by (with_reducible repeat (first | apply Kd.S_alloc | apply Kd.S_drewN | apply Kd.S_drew)); exact HO_6.out⟩, ⟨by (with_reducible repeat (first | apply Kd.S_alloc | apply Kd.S_drewN | apply Kd.S_drew)); exact HO_7.out⟩, ⟨by repeat (first | (with_reducible first | exact HB.out | apply below_alloc | apply pw_below_drewN | apply below_drew1) | exact HB.out)⟩⟩
            case rest =>
             as_aux_lemma =>
              clear HC73
              try clear c3
              try clear c3b0
              try clear c40
              try clear c42
              try clear c44
              try clear c44b0
              obtain ⟨kq, x184_72, rfl, HA, HJ72, HO_6, HO_7, HB⟩ := hcut
              cases kq with
              | zero => exact absurd HA.out (by simp [laws_FnCoteries.j5])
              | succ kj72 =>
               have H := HA.out
               clear HA
               simp only [laws_FnCoteries.j5] at H
               by_cases c75 : x184_72 = true
               ·subst c75
                rw [if_pos rfl] at H
                have H' := Aside0.mk H
                clear H
                go_wp2
                go_loopg [187] kj72 (fun kq v187 w' => ∃ (x187_4 : Int), v187 = .int .i64 x187_4 ∧ Aside0 (laws_FnCoteries.l2 kq l1 t102 t105 (t102.length : Int) x187_4 = some r) ∧ Aside0 (kq ≤ kj72) ∧ Aside0 (Kd.S (Kd.slice 3 (Kd.int .i64)) 31 w' w.heap.size (fun k_ => some k_ ≠ ((.slice Ao43 t105.length co43) : Value).ownBlock) (.slice Ao13 t102.length co13) t102) ∧ Aside0 (Kd.S (Kd.slice 3 (Kd.int .i64)) 31 w' w.heap.size (fun k_ => some k_ ≠ ((.slice Ao13 t102.length co13) : Value).ownBlock) (.slice Ao43 t105.length co43) t105) ∧ Aside0 (Below w.heap.size w w'))
                case atStart => exact ⟨(0), (by first | rfl | (simp; done) | (simp [*]; done)), H', ⟨Nat.le_refl _⟩, ⟨by (with_reducible repeat (first | apply Kd.S_alloc | apply Kd.S_drewN | apply Kd.S_drew)); exact HO_6.out⟩, ⟨by (with_reducible repeat (first | apply Kd.S_alloc | apply Kd.S_drewN | apply Kd.S_drew)); exact HO_7.out⟩, ⟨by repeat (first | (with_reducible first | exact HB.out | apply below_alloc | apply pw_below_drewN | apply below_drew1) | exact HB.out)⟩⟩
                case round =>
                 as_aux_lemma =>
                  clear H'
                  try clear c3
                  try clear c3b0
                  try clear c40
                  try clear c42
                  try clear c44
                  try clear c44b0
                  try clear c75
                  obtain ⟨x187_4, rfl, HA, HK4, HO_6, HO_7, HB⟩ := hrel
                  cases gk with
                  | zero => exact absurd HA.out (by simp [laws_FnCoteries.l2])
                  | succ k4 =>
                   have H := HA.out
                   clear HA
                   simp only [laws_FnCoteries.l2] at H
                   by_cases c76 : x187_4 < (t102.length : Int)
                   ·rw [if_pos c76] at H
                    have c76b0 : decide (x187_4 < (t102.length : Int)) = true := decide_eq_true c76
                    clear c76
                    by_cases c77 : 0 ≤ x187_4
                    ·rw [if_pos c77] at H
                     have c77b0 : decide (0 ≤ x187_4) = true := decide_eq_true c77
                     clear c77
                     by_cases c78 : x187_4 < (t102.length : Int)
                     ·rw [if_pos c78] at H
                      have c78b0 : decide (x187_4 < (t102.length : Int)) = true := decide_eq_true c78
                      clear c78
                      have H' := Aside0.mk H
                      clear H
                      have p138 : 0 ≤ (x187_4 : Int) := of_decide_eq_true (by assumption)
                      have q138 : x187_4 < (t102.length : Int) := of_decide_eq_true (by assumption)
                      obtain ⟨ad138, A138_0, c138_0, e138, hx138_0, hl138_0, hi138_0⟩ := at_L1 (Kd.S_reads' HO_6.out).2.2 x187_4 p138 q138
                      cases e138
                      obtain ⟨ce138, hce138, hMe138, hcc138⟩ := Kd.S_get HO_6.out [] x187_4 p138 (by first | exact q138 | exact of_decide_eq_true (by assumption) | (have e_ := (Kd.S_reads' HO_6.out).1; omega))
                      obtain ⟨ve138_0, rfl, ge138_0⟩ := hMe138
                      have hv138_0 := hcc138 0 _ rfl
                      rw [Nat.add_zero, show ((Kd.slice 3 (Kd.int .i64))).sz = 1 from rfl, Nat.mul_one] at hv138_0
                      replace hv138_0 := Option.some.inj (hv138_0.symm.trans hx138_0)
                      rw [hv138_0] at ge138_0
                      have HL138_0 := Aside0.mk (show Kd.R (Kd.int .i64) 3 _ _ _ _ (rd_L1 t102 x187_4) from ge138_0)
                      clear hv138_0 ge138_0
                      clear hcc138 hce138
                      have HR138_0 := Aside0.mk hi138_0
                      have HC138_0 := Aside0.mk hl138_0
                      clear hi138_0 hl138_0
                      replace p138 := eq_true p138
                      replace q138 := eq_true q138
                      go_wp2
                      go_loopg [28, 193] k4 (fun kq v28 v193 w' => ∃ (x28_5 : Bool) (x193_5 : Int), v28 = .bool x28_5 ∧ v193 = .int .i64 x193_5 ∧ Aside0 (laws_FnCoteries.l3 kq l1 t102 t105 (rd_L1 t102 x187_4) x28_5 (t102.length : Int) x187_4 (t105.length : Int) x193_5 = some r) ∧ Aside0 (kq ≤ k4) ∧ Aside0 (Kd.S (Kd.slice 3 (Kd.int .i64)) 31 w' w.heap.size (fun k_ => some k_ ≠ ((.slice Ao43 t105.length co43) : Value).ownBlock) (.slice (some ad138) t102.length co13) t102) ∧ Aside0 (Kd.S (Kd.slice 3 (Kd.int .i64)) 31 w' w.heap.size (fun k_ => some k_ ≠ ((.slice (some ad138) t102.length co13) : Value).ownBlock) (.slice Ao43 t105.length co43) t105) ∧ Aside0 (Kd.C (Kd.int .i64) w' A138_0 (rd_L1 t102 x187_4).length (rd_L1 t102 x187_4)) ∧ Aside0 (Below w.heap.size w w'))
                      case atStart => exact ⟨(false), (0), (by first | rfl | (simp; done) | (simp [*]; done)), (by first | rfl | (simp; done) | (simp [*]; done)), H', ⟨Nat.le_refl _⟩, ⟨by (with_reducible repeat (first | apply Kd.S_alloc | apply Kd.S_drewN | apply Kd.S_drew)); exact HO_6.out⟩, ⟨by (with_reducible repeat (first | apply Kd.S_alloc | apply Kd.S_drewN | apply Kd.S_drew)); exact HO_7.out⟩, ⟨by repeat (first | (with_reducible exact HR138_0.out) | (with_reducible refine Kd.C_alloc ?_ _) | (with_reducible refine Kd.C_drewN ?_ _) | (with_reducible refine Kd.C_drew ?_) | exact HR138_0.out)⟩, ⟨by repeat (first | (with_reducible first | exact HB.out | apply below_alloc | apply pw_below_drewN | apply below_drew1) | exact HB.out)⟩⟩
                      case round =>
                       as_aux_lemma =>
                        clear H'
                        try clear c3
                        try clear c3b0
                        try clear c40
                        try clear c42
                        try clear c44
                        try clear c44b0
                        try clear c75
                        try clear c76
                        try clear c76b0
                        try clear c77
                        try clear c77b0
                        try clear c78
                        try clear c78b0
                        try clear hx138_0
                        try clear p138
                        try clear q138
                        obtain ⟨x28_5, x193_5, rfl, rfl, HA, HK5, HO_6, HO_7, HR138_0, HB⟩ := hrel
                        cases gk with
                        | zero => exact absurd HA.out (by simp [laws_FnCoteries.l3])
                        | succ k5 =>
                         have H := HA.out
                         clear HA
                         simp only [laws_FnCoteries.l3] at H
                         by_cases c79 : x193_5 < (t105.length : Int)
                         ·rw [if_pos c79] at H
                          have c79b0 : decide (x193_5 < (t105.length : Int)) = true := decide_eq_true c79
                          clear c79
                          by_cases c80 : 0 ≤ x193_5
                          ·rw [if_pos c80] at H
                           have c80b0 : decide (0 ≤ x193_5) = true := decide_eq_true c80
                           clear c80
                           by_cases c81 : x193_5 < (t105.length : Int)
                           ·rw [if_pos c81] at H
                            have c81b0 : decide (x193_5 < (t105.length : Int)) = true := decide_eq_true c81
                            clear c81
                            have H' := Aside0.mk H
                            clear H
                            have p139 : 0 ≤ (x193_5 : Int) := of_decide_eq_true (by assumption)
                            have q139 : x193_5 < (t105.length : Int) := of_decide_eq_true (by assumption)
                            obtain ⟨ad139, A139_0, c139_0, e139, hx139_0, hl139_0, hi139_0⟩ := at_L1 (Kd.S_reads' HO_7.out).2.2 x193_5 p139 q139
                            cases e139
                            obtain ⟨ce139, hce139, hMe139, hcc139⟩ := Kd.S_get HO_7.out [] x193_5 p139 (by first | exact q139 | exact of_decide_eq_true (by assumption) | (have e_ := (Kd.S_reads' HO_7.out).1; omega))
                            obtain ⟨ve139_0, rfl, ge139_0⟩ := hMe139
                            have hv139_0 := hcc139 0 _ rfl
                            rw [Nat.add_zero, show ((Kd.slice 3 (Kd.int .i64))).sz = 1 from rfl, Nat.mul_one] at hv139_0
                            replace hv139_0 := Option.some.inj (hv139_0.symm.trans hx139_0)
                            rw [hv139_0] at ge139_0
                            have HL139_0 := Aside0.mk (show Kd.R (Kd.int .i64) 3 _ _ _ _ (rd_L1 t105 x193_5) from ge139_0)
                            clear hv139_0 ge139_0
                            clear hcc139 hce139
                            have HR139_0 := Aside0.mk hi139_0
                            have HC139_0 := Aside0.mk hl139_0
                            clear hi139_0 hl139_0
                            replace p139 := eq_true p139
                            replace q139 := eq_true q139
                            go_wp2
                            go_loopg [31, 199] k5 (fun kq v31 v199 w' => ∃ (x31_6 : Bool) (x199_6 : Int), v31 = .bool x31_6 ∧ v199 = .int .i64 x199_6 ∧ Aside0 (laws_FnCoteries.l4 kq l1 t102 t105 (rd_L1 t102 x187_4) x28_5 x31_6 (t102.length : Int) x187_4 (t105.length : Int) x193_5 (rd_L1 t105 x193_5) ((rd_L1 t105 x193_5).length : Int) x199_6 = some r) ∧ Aside0 (kq ≤ k5) ∧ Aside0 (Kd.S (Kd.slice 3 (Kd.int .i64)) 31 w' w.heap.size (fun k_ => some k_ ≠ ((.slice (some ad139) t105.length co43) : Value).ownBlock) (.slice (some ad138) t102.length co13) t102) ∧ Aside0 (Kd.S (Kd.slice 3 (Kd.int .i64)) 31 w' w.heap.size (fun k_ => some k_ ≠ ((.slice (some ad138) t102.length co13) : Value).ownBlock) (.slice (some ad139) t105.length co43) t105) ∧ Aside0 (Kd.C (Kd.int .i64) w' A138_0 (rd_L1 t102 x187_4).length (rd_L1 t102 x187_4)) ∧ Aside0 (Kd.C (Kd.int .i64) w' A139_0 (rd_L1 t105 x193_5).length (rd_L1 t105 x193_5)) ∧ Aside0 (Below w.heap.size w w'))
                            case atStart => exact ⟨(true), (0), (by first | rfl | (simp; done) | (simp [*]; done)), (by first | rfl | (simp; done) | (simp [*]; done)), H', ⟨Nat.le_refl _⟩, ⟨by (with_reducible repeat (first | apply Kd.S_alloc | apply Kd.S_drewN | apply Kd.S_drew)); exact HO_6.out⟩, ⟨by (with_reducible repeat (first | apply Kd.S_alloc | apply Kd.S_drewN | apply Kd.S_drew)); exact HO_7.out⟩, ⟨by repeat (first | (with_reducible exact HR138_0.out) | (with_reducible refine Kd.C_alloc ?_ _) | (with_reducible refine Kd.C_drewN ?_ _) | (with_reducible refine Kd.C_drew ?_) | exact HR138_0.out)⟩, ⟨by repeat (first | (with_reducible exact HR139_0.out) | (with_reducible refine Kd.C_alloc ?_ _) | (with_reducible refine Kd.C_drewN ?_ _) | (with_reducible refine Kd.C_drew ?_) | exact HR139_0.out)⟩, ⟨by repeat (first | (with_reducible first | exact HB.out | apply below_alloc | apply pw_below_drewN | apply below_drew1) | exact HB.out)⟩⟩
                            case round =>
                             as_aux_lemma =>
                              clear H'
                              try clear c3
                              try clear c3b0
                              try clear c40
                              try clear c42
                              try clear c44
                              try clear c44b0
                              try clear c75
                              try clear c76
                              try clear c76b0
                              try clear c77
                              try clear c77b0
                              try clear c78
                              try clear c78b0
                              try clear c79
                              try clear c79b0
                              try clear c80
                              try clear c80b0
                              try clear c81
                              try clear c81b0
                              try clear hx138_0
                              try clear hx139_0
                              try clear p138
                              try clear p139
                              try clear q138
                              try clear q139
                              obtain ⟨x31_6, x199_6, rfl, rfl, HA, HK6, HO_6, HO_7, HR138_0, HR139_0, HB⟩ := hrel
                              cases gk with
                              | zero => exact absurd HA.out (by simp [laws_FnCoteries.l4])
                              | succ k6 =>
                               have H := HA.out
                               clear HA
                               simp only [laws_FnCoteries.l4] at H
                               by_cases c82 : x199_6 < ((rd_L1 t105 x193_5).length : Int)
                               ·rw [if_pos c82] at H
                                have c82b0 : decide (x199_6 < ((rd_L1 t105 x193_5).length : Int)) = true := decide_eq_true c82
                                clear c82
                                by_cases c83 : 0 ≤ x199_6
                                ·rw [if_pos c83] at H
                                 have c83b0 : decide (0 ≤ x199_6) = true := decide_eq_true c83
                                 clear c83
                                 by_cases c84 : x199_6 < ((rd_L1 t105 x193_5).length : Int)
                                 ·rw [if_pos c84] at H
                                  have c84b0 : decide (x199_6 < ((rd_L1 t105 x193_5).length : Int)) = true := decide_eq_true c84
                                  clear c84
                                  by_cases c85 : x31_6 = true
                                  ·subst c85
                                   rw [if_pos rfl] at H
                                   replace H := Option.bind_eq_some_iff.mp H
                                   obtain ⟨t141, A860, H⟩ := H
                                   have A86 := Aside0.mk A860
                                   clear A860
                                   as_aux_lemma =>
                                    have H' := Aside0.mk H
                                    clear H
                                    have p140 : 0 ≤ (x199_6 : Int) := of_decide_eq_true (by assumption)
                                    have q140 : x199_6 < ((rd_L1 t105 x193_5).length : Int) := of_decide_eq_true (by assumption)
                                    obtain ⟨ad140, e140, hx140_0⟩ := Kd.at_int HR139_0.out x199_6 p140 q140
                                    cases e140
                                    replace p140 := eq_true p140
                                    replace q140 := eq_true q140
                                    go_wp2_with (first | (go_at_call 38; (with_reducible refine (laws_has.calls k6 _ _ (rd_L1 t102 x187_4) (rd (rd_L1 t105 x193_5) x199_6) t141 _ ?side1 ?side2 A86.out).mono ?_); (case side1 => repeat (first | exact HR138_0.out | (with_reducible refine Kd.C_alloc ?_ _) | (with_reducible refine Kd.C_drewN ?_ _) | (with_reducible refine Kd.C_drew ?_))); (case side2 => exact HC138_0.out); rintro e w' ⟨rfl, ⟨nd, rfl⟩⟩))
                                    go_roundg k6
                                    case measure => have := HJ10.out; have := HK2.out; have := HJ72.out; have := HK4.out; have := HK5.out; have := HK6.out; omega
                                    case rel => exact ⟨(t141), (wrap64 (x199_6 + 1)), (by first | rfl | (simp; done) | (simp [*]; done)), (by first | rfl | (simp; done) | (simp [*]; done)), H', ⟨by have := HJ10.out; have := HK2.out; have := HJ72.out; have := HK4.out; have := HK5.out; have := HK6.out; omega⟩, ⟨by (with_reducible repeat (first | apply Kd.S_alloc | apply Kd.S_drewN | apply Kd.S_drew)); exact HO_6.out⟩, ⟨by (with_reducible repeat (first | apply Kd.S_alloc | apply Kd.S_drewN | apply Kd.S_drew)); exact HO_7.out⟩, ⟨by repeat (first | (with_reducible exact HR138_0.out) | (with_reducible refine Kd.C_alloc ?_ _) | (with_reducible refine Kd.C_drewN ?_ _) | (with_reducible refine Kd.C_drew ?_) | exact HR138_0.out)⟩, ⟨by repeat (first | (with_reducible exact HR139_0.out) | (with_reducible refine Kd.C_alloc ?_ _) | (with_reducible refine Kd.C_drewN ?_ _) | (with_reducible refine Kd.C_drew ?_) | exact HR139_0.out)⟩, ⟨by repeat (first | (with_reducible first | exact HB.out | apply below_alloc | apply pw_below_drewN | apply below_drew1) | exact HB.out)⟩⟩
                                  ·replace c85 := Bool.eq_false_iff.mpr c85
                                   subst c85
                                   rw [if_neg (show ¬ (false = true) by decide)] at H
                                   as_aux_lemma =>
                                    have H' := Aside0.mk H
                                    clear H
                                    have p140 : 0 ≤ (x199_6 : Int) := of_decide_eq_true (by assumption)
                                    have q140 : x199_6 < ((rd_L1 t105 x193_5).length : Int) := of_decide_eq_true (by assumption)
                                    obtain ⟨ad140, e140, hx140_0⟩ := Kd.at_int HR139_0.out x199_6 p140 q140
                                    cases e140
                                    replace p140 := eq_true p140
                                    replace q140 := eq_true q140
                                    go_wp2
                                    go_roundg k6
                                    case measure => have := HJ10.out; have := HK2.out; have := HJ72.out; have := HK4.out; have := HK5.out; have := HK6.out; omega
                                    case rel => exact ⟨(false), (wrap64 (x199_6 + 1)), (by first | rfl | (simp; done) | (simp [*]; done)), (by first | rfl | (simp; done) | (simp [*]; done)), H', ⟨by have := HJ10.out; have := HK2.out; have := HJ72.out; have := HK4.out; have := HK5.out; have := HK6.out; omega⟩, ⟨by (with_reducible repeat (first | apply Kd.S_alloc | apply Kd.S_drewN | apply Kd.S_drew)); exact HO_6.out⟩, ⟨by (with_reducible repeat (first | apply Kd.S_alloc | apply Kd.S_drewN | apply Kd.S_drew)); exact HO_7.out⟩, ⟨by repeat (first | (with_reducible exact HR138_0.out) | (with_reducible refine Kd.C_alloc ?_ _) | (with_reducible refine Kd.C_drewN ?_ _) | (with_reducible refine Kd.C_drew ?_) | exact HR138_0.out)⟩, ⟨by repeat (first | (with_reducible exact HR139_0.out) | (with_reducible refine Kd.C_alloc ?_ _) | (with_reducible refine Kd.C_drewN ?_ _) | (with_reducible refine Kd.C_drew ?_) | exact HR139_0.out)⟩, ⟨by repeat (first | (with_reducible first | exact HB.out | apply below_alloc | apply pw_below_drewN | apply below_drew1) | exact HB.out)⟩⟩
                                 ·rw [if_neg c84] at H
                                  exact absurd H (by simp)
                                ·rw [if_neg c83] at H
                                 exact absurd H (by simp)
                               ·rw [if_neg c82] at H
                                have c82b0 : decide (x199_6 < ((rd_L1 t105 x193_5).length : Int)) = false := decide_eq_false c82
                                clear c82
                                by_cases c87 : x28_5 = true
                                ·subst c87
                                 rw [if_pos rfl] at H
                                 as_aux_lemma =>
                                  have H' := Aside0.mk H
                                  clear H
                                  go_wp2
                                  go_roundg k6
                                  case measure => have := HJ10.out; have := HK2.out; have := HJ72.out; have := HK4.out; have := HK5.out; have := HK6.out; omega
                                  case rel => exact ⟨(true), (wrap64 (x193_5 + 1)), (by first | rfl | (simp; done) | (simp [*]; done)), (by first | rfl | (simp; done) | (simp [*]; done)), H', ⟨by have := HJ10.out; have := HK2.out; have := HJ72.out; have := HK4.out; have := HK5.out; have := HK6.out; omega⟩, ⟨by (with_reducible repeat (first | apply Kd.S_alloc | apply Kd.S_drewN | apply Kd.S_drew)); exact HO_6.out⟩, ⟨by (with_reducible repeat (first | apply Kd.S_alloc | apply Kd.S_drewN | apply Kd.S_drew)); exact HO_7.out⟩, ⟨by repeat (first | (with_reducible exact HR138_0.out) | (with_reducible refine Kd.C_alloc ?_ _) | (with_reducible refine Kd.C_drewN ?_ _) | (with_reducible refine Kd.C_drew ?_) | exact HR138_0.out)⟩, ⟨by repeat (first | (with_reducible first | exact HB.out | apply below_alloc | apply pw_below_drewN | apply below_drew1) | exact HB.out)⟩⟩
                                ·replace c87 := Bool.eq_false_iff.mpr c87
                                 subst c87
                                 rw [if_neg (show ¬ (false = true) by decide)] at H
                                 as_aux_lemma =>
                                  have H' := Aside0.mk H
                                  clear H
                                  go_wp2
                                  go_roundg k6
                                  case measure => have := HJ10.out; have := HK2.out; have := HJ72.out; have := HK4.out; have := HK5.out; have := HK6.out; omega
                                  case rel => exact ⟨(x31_6), (wrap64 (x193_5 + 1)), (by first | rfl | (simp; done) | (simp [*]; done)), (by first | rfl | (simp; done) | (simp [*]; done)), H', ⟨by have := HJ10.out; have := HK2.out; have := HJ72.out; have := HK4.out; have := HK5.out; have := HK6.out; omega⟩, ⟨by (with_reducible repeat (first | apply Kd.S_alloc | apply Kd.S_drewN | apply Kd.S_drew)); exact HO_6.out⟩, ⟨by (with_reducible repeat (first | apply Kd.S_alloc | apply Kd.S_drewN | apply Kd.S_drew)); exact HO_7.out⟩, ⟨by repeat (first | (with_reducible exact HR138_0.out) | (with_reducible refine Kd.C_alloc ?_ _) | (with_reducible refine Kd.C_drewN ?_ _) | (with_reducible refine Kd.C_drew ?_) | exact HR138_0.out)⟩, ⟨by repeat (first | (with_reducible first | exact HB.out | apply below_alloc | apply pw_below_drewN | apply below_drew1) | exact HB.out)⟩⟩
                           ·rw [if_neg c81] at H
                            exact absurd H (by simp)
                          ·rw [if_neg c80] at H
                           exact absurd H (by simp)
                         ·rw [if_neg c79] at H
                          have c79b0 : decide (x193_5 < (t105.length : Int)) = false := decide_eq_false c79
                          clear c79
                          by_cases c88 : x28_5 = true
                          ·subst c88
                           rw [if_pos rfl] at H
                           as_aux_lemma =>
                            have H' := Aside0.mk H
                            clear H
                            go_wp2
                            go_roundg k5
                            case measure => have := HJ10.out; have := HK2.out; have := HJ72.out; have := HK4.out; have := HK5.out; omega
                            case rel => exact ⟨(wrap64 (x187_4 + 1)), (by first | rfl | (simp; done) | (simp [*]; done)), H', ⟨by have := HJ10.out; have := HK2.out; have := HJ72.out; have := HK4.out; have := HK5.out; omega⟩, ⟨by (with_reducible repeat (first | apply Kd.S_alloc | apply Kd.S_drewN | apply Kd.S_drew)); exact HO_6.out⟩, ⟨by (with_reducible repeat (first | apply Kd.S_alloc | apply Kd.S_drewN | apply Kd.S_drew)); exact HO_7.out⟩, ⟨by repeat (first | (with_reducible first | exact HB.out | apply below_alloc | apply pw_below_drewN | apply below_drew1) | exact HB.out)⟩⟩
                          ·replace c88 := Bool.eq_false_iff.mpr c88
                           subst c88
                           rw [if_neg (show ¬ (false = true) by decide)] at H
                           as_aux_lemma =>
                            obtain rfl := Option.some.inj H
                            go_wp2
                            go_ret
                            exact ⟨by first | rfl | (simp [errW_none, errW_some] <;> rfl) | (simp [*, errW_none, errW_some] <;> rfl), by repeat (first | (with_reducible first | exact HB.out | apply below_alloc | apply pw_below_drewN | apply below_drew1) | exact HB.out)⟩
                     ·rw [if_neg c78] at H
                      exact absurd H (by simp)
                    ·rw [if_neg c77] at H
                     exact absurd H (by simp)
                   ·rw [if_neg c76] at H
                    have c76b0 : decide (x187_4 < (t102.length : Int)) = false := decide_eq_false c76
                    clear c76
                    as_aux_lemma =>
                     have H' := Aside0.mk H
                     clear H
                     go_wp2
                     go_meet
                     case rel => exact ⟨_, H', ⟨by have := HJ10.out; have := HK2.out; have := HJ72.out; have := HK4.out; first | omega | exact Nat.le_refl _⟩, ⟨by repeat (first | (with_reducible first | exact HB.out | apply below_alloc | apply pw_below_drewN | apply below_drew1) | exact HB.out)⟩⟩
               ·replace c75 := Bool.eq_false_iff.mpr c75
                subst c75
                rw [if_neg (show ¬ (false = true) by decide)] at H
                as_aux_lemma =>
                 have H' := Aside0.mk H
                 clear H
                 go_wp2
                 go_meet
                 case rel => exact ⟨_, H', ⟨by have := HJ10.out; have := HK2.out; have := HJ72.out; first | omega | exact Nat.le_refl _⟩, ⟨by repeat (first | (with_reducible first | exact HB.out | apply below_alloc | apply pw_below_drewN | apply below_drew1) | exact HB.out)⟩⟩
       ·replace c42 := Bool.eq_false_iff.mpr c42
        subst c42
        rw [if_neg (show ¬ (false = true) by decide)] at H
        as_aux_lemma =>
         have H' := Aside0.mk H
         clear H
         go_wp2
         go_meet
         case rel => exact ⟨_, H', ⟨by have := HJ10.out; first | omega | exact Nat.le_refl _⟩, ⟨by repeat (first | (with_reducible first | exact HB.out | apply below_alloc | apply pw_below_drewN | apply below_drew1) | exact HB.out)⟩⟩
      case rest =>
       as_aux_lemma =>
        clear HC41
        try clear c3
        try clear c3b0
        try clear c40
        obtain ⟨kq, HA, HJ40, HB⟩ := hcut
        cases kq with
        | zero => exact absurd HA.out (by simp [laws_FnCoteries.j9])
        | succ kj40 =>
         have H := HA.out
         clear HA
         simp only [laws_FnCoteries.j9] at H
         replace H := Option.bind_eq_some_iff.mp H
         obtain ⟨⟨t142, t145⟩, A890, H⟩ := H
         replace H : ((impl_Dominates.f kj40 t142 t145).bind fun bt148 => ((spec_Dominates.f kj40 t142 t145).bind fun bt150 => ((spec_DrawSurvives.f kj40 l1).bind fun bt152 => ((impl_Survives.f kj40 bt152.1 bt152.2).bind fun bt158 => ((spec_Survives.f kj40 bt152.1 bt152.2).bind fun bt160 => ((spec_DrawGridQuorums.f l1).bind fun bt162 => ((impl_GridQuorums.f kj40 bt162.1 bt162.2).bind fun bt164 => ((spec_GridQuorums.f kj40 bt162.1 bt162.2).bind fun bt168 => (if (bt148.2 != bt150.2) = true then (laws_FnCoteries.j10 kj40 t142 t145 bt148.1 bt148.2 bt162.1 bt162.2 bt164.1 bt164.2 true) else (if (bt148.1 != bt150.1) = true then (laws_FnCoteries.j10 kj40 t142 t145 bt148.1 bt148.2 bt162.1 bt162.2 bt164.1 bt164.2 true) else (if (bt158.2 != bt160.2) = true then (laws_FnCoteries.j10 kj40 t142 t145 bt148.1 bt148.2 bt162.1 bt162.2 bt164.1 bt164.2 true) else (if (bt158.1 != bt160.1) = true then (laws_FnCoteries.j10 kj40 t142 t145 bt148.1 bt148.2 bt162.1 bt162.2 bt164.1 bt164.2 true) else (if (bt164.2 != bt168.2) = true then (laws_FnCoteries.j10 kj40 t142 t145 bt148.1 bt148.2 bt162.1 bt162.2 bt164.1 bt164.2 true) else ((laws_sameLists.f kj40 bt164.1 bt168.1).bind fun t172 => (laws_FnCoteries.j10 kj40 t142 t145 bt148.1 bt148.2 bt162.1 bt162.2 bt164.1 bt164.2 (!t172)))))))))))))))) = some r := H
         have A89 := Aside0.mk A890
         clear A890
         replace H := Option.bind_eq_some_iff.mp H
         obtain ⟨⟨t148, t149⟩, A900, H⟩ := H
         replace H : ((spec_Dominates.f kj40 t142 t145).bind fun bt150 => ((spec_DrawSurvives.f kj40 l1).bind fun bt152 => ((impl_Survives.f kj40 bt152.1 bt152.2).bind fun bt158 => ((spec_Survives.f kj40 bt152.1 bt152.2).bind fun bt160 => ((spec_DrawGridQuorums.f l1).bind fun bt162 => ((impl_GridQuorums.f kj40 bt162.1 bt162.2).bind fun bt164 => ((spec_GridQuorums.f kj40 bt162.1 bt162.2).bind fun bt168 => (if (t149 != bt150.2) = true then (laws_FnCoteries.j10 kj40 t142 t145 t148 t149 bt162.1 bt162.2 bt164.1 bt164.2 true) else (if (t148 != bt150.1) = true then (laws_FnCoteries.j10 kj40 t142 t145 t148 t149 bt162.1 bt162.2 bt164.1 bt164.2 true) else (if (bt158.2 != bt160.2) = true then (laws_FnCoteries.j10 kj40 t142 t145 t148 t149 bt162.1 bt162.2 bt164.1 bt164.2 true) else (if (bt158.1 != bt160.1) = true then (laws_FnCoteries.j10 kj40 t142 t145 t148 t149 bt162.1 bt162.2 bt164.1 bt164.2 true) else (if (bt164.2 != bt168.2) = true then (laws_FnCoteries.j10 kj40 t142 t145 t148 t149 bt162.1 bt162.2 bt164.1 bt164.2 true) else ((laws_sameLists.f kj40 bt164.1 bt168.1).bind fun t172 => (laws_FnCoteries.j10 kj40 t142 t145 t148 t149 bt162.1 bt162.2 bt164.1 bt164.2 (!t172))))))))))))))) = some r := H
         have A90 := Aside0.mk A900
         clear A900
         replace H := Option.bind_eq_some_iff.mp H
         obtain ⟨⟨t150, t151⟩, A910, H⟩ := H
         replace H : ((spec_DrawSurvives.f kj40 l1).bind fun bt152 => ((impl_Survives.f kj40 bt152.1 bt152.2).bind fun bt158 => ((spec_Survives.f kj40 bt152.1 bt152.2).bind fun bt160 => ((spec_DrawGridQuorums.f l1).bind fun bt162 => ((impl_GridQuorums.f kj40 bt162.1 bt162.2).bind fun bt164 => ((spec_GridQuorums.f kj40 bt162.1 bt162.2).bind fun bt168 => (if (t149 != t151) = true then (laws_FnCoteries.j10 kj40 t142 t145 t148 t149 bt162.1 bt162.2 bt164.1 bt164.2 true) else (if (t148 != t150) = true then (laws_FnCoteries.j10 kj40 t142 t145 t148 t149 bt162.1 bt162.2 bt164.1 bt164.2 true) else (if (bt158.2 != bt160.2) = true then (laws_FnCoteries.j10 kj40 t142 t145 t148 t149 bt162.1 bt162.2 bt164.1 bt164.2 true) else (if (bt158.1 != bt160.1) = true then (laws_FnCoteries.j10 kj40 t142 t145 t148 t149 bt162.1 bt162.2 bt164.1 bt164.2 true) else (if (bt164.2 != bt168.2) = true then (laws_FnCoteries.j10 kj40 t142 t145 t148 t149 bt162.1 bt162.2 bt164.1 bt164.2 true) else ((laws_sameLists.f kj40 bt164.1 bt168.1).bind fun t172 => (laws_FnCoteries.j10 kj40 t142 t145 t148 t149 bt162.1 bt162.2 bt164.1 bt164.2 (!t172)))))))))))))) = some r := H
         have A91 := Aside0.mk A910
         clear A910
         replace H := Option.bind_eq_some_iff.mp H
         obtain ⟨⟨t152, t153⟩, A920, H⟩ := H
         replace H : ((impl_Survives.f kj40 t152 t153).bind fun bt158 => ((spec_Survives.f kj40 t152 t153).bind fun bt160 => ((spec_DrawGridQuorums.f l1).bind fun bt162 => ((impl_GridQuorums.f kj40 bt162.1 bt162.2).bind fun bt164 => ((spec_GridQuorums.f kj40 bt162.1 bt162.2).bind fun bt168 => (if (t149 != t151) = true then (laws_FnCoteries.j10 kj40 t142 t145 t148 t149 bt162.1 bt162.2 bt164.1 bt164.2 true) else (if (t148 != t150) = true then (laws_FnCoteries.j10 kj40 t142 t145 t148 t149 bt162.1 bt162.2 bt164.1 bt164.2 true) else (if (bt158.2 != bt160.2) = true then (laws_FnCoteries.j10 kj40 t142 t145 t148 t149 bt162.1 bt162.2 bt164.1 bt164.2 true) else (if (bt158.1 != bt160.1) = true then (laws_FnCoteries.j10 kj40 t142 t145 t148 t149 bt162.1 bt162.2 bt164.1 bt164.2 true) else (if (bt164.2 != bt168.2) = true then (laws_FnCoteries.j10 kj40 t142 t145 t148 t149 bt162.1 bt162.2 bt164.1 bt164.2 true) else ((laws_sameLists.f kj40 bt164.1 bt168.1).bind fun t172 => (laws_FnCoteries.j10 kj40 t142 t145 t148 t149 bt162.1 bt162.2 bt164.1 bt164.2 (!t172))))))))))))) = some r := H
         have A92 := Aside0.mk A920
         clear A920
         replace H := Option.bind_eq_some_iff.mp H
         obtain ⟨⟨t158, t159⟩, A930, H⟩ := H
         replace H : ((spec_Survives.f kj40 t152 t153).bind fun bt160 => ((spec_DrawGridQuorums.f l1).bind fun bt162 => ((impl_GridQuorums.f kj40 bt162.1 bt162.2).bind fun bt164 => ((spec_GridQuorums.f kj40 bt162.1 bt162.2).bind fun bt168 => (if (t149 != t151) = true then (laws_FnCoteries.j10 kj40 t142 t145 t148 t149 bt162.1 bt162.2 bt164.1 bt164.2 true) else (if (t148 != t150) = true then (laws_FnCoteries.j10 kj40 t142 t145 t148 t149 bt162.1 bt162.2 bt164.1 bt164.2 true) else (if (t159 != bt160.2) = true then (laws_FnCoteries.j10 kj40 t142 t145 t148 t149 bt162.1 bt162.2 bt164.1 bt164.2 true) else (if (t158 != bt160.1) = true then (laws_FnCoteries.j10 kj40 t142 t145 t148 t149 bt162.1 bt162.2 bt164.1 bt164.2 true) else (if (bt164.2 != bt168.2) = true then (laws_FnCoteries.j10 kj40 t142 t145 t148 t149 bt162.1 bt162.2 bt164.1 bt164.2 true) else ((laws_sameLists.f kj40 bt164.1 bt168.1).bind fun t172 => (laws_FnCoteries.j10 kj40 t142 t145 t148 t149 bt162.1 bt162.2 bt164.1 bt164.2 (!t172)))))))))))) = some r := H
         have A93 := Aside0.mk A930
         clear A930
         replace H := Option.bind_eq_some_iff.mp H
         obtain ⟨⟨t160, t161⟩, A940, H⟩ := H
         replace H : ((spec_DrawGridQuorums.f l1).bind fun bt162 => ((impl_GridQuorums.f kj40 bt162.1 bt162.2).bind fun bt164 => ((spec_GridQuorums.f kj40 bt162.1 bt162.2).bind fun bt168 => (if (t149 != t151) = true then (laws_FnCoteries.j10 kj40 t142 t145 t148 t149 bt162.1 bt162.2 bt164.1 bt164.2 true) else (if (t148 != t150) = true then (laws_FnCoteries.j10 kj40 t142 t145 t148 t149 bt162.1 bt162.2 bt164.1 bt164.2 true) else (if (t159 != t161) = true then (laws_FnCoteries.j10 kj40 t142 t145 t148 t149 bt162.1 bt162.2 bt164.1 bt164.2 true) else (if (t158 != t160) = true then (laws_FnCoteries.j10 kj40 t142 t145 t148 t149 bt162.1 bt162.2 bt164.1 bt164.2 true) else (if (bt164.2 != bt168.2) = true then (laws_FnCoteries.j10 kj40 t142 t145 t148 t149 bt162.1 bt162.2 bt164.1 bt164.2 true) else ((laws_sameLists.f kj40 bt164.1 bt168.1).bind fun t172 => (laws_FnCoteries.j10 kj40 t142 t145 t148 t149 bt162.1 bt162.2 bt164.1 bt164.2 (!t172))))))))))) = some r := H
         have A94 := Aside0.mk A940
         clear A940
         replace H := Option.bind_eq_some_iff.mp H
         obtain ⟨⟨t162, t163⟩, A950, H⟩ := H
         replace H : ((impl_GridQuorums.f kj40 t162 t163).bind fun bt164 => ((spec_GridQuorums.f kj40 t162 t163).bind fun bt168 => (if (t149 != t151) = true then (laws_FnCoteries.j10 kj40 t142 t145 t148 t149 t162 t163 bt164.1 bt164.2 true) else (if (t148 != t150) = true then (laws_FnCoteries.j10 kj40 t142 t145 t148 t149 t162 t163 bt164.1 bt164.2 true) else (if (t159 != t161) = true then (laws_FnCoteries.j10 kj40 t142 t145 t148 t149 t162 t163 bt164.1 bt164.2 true) else (if (t158 != t160) = true then (laws_FnCoteries.j10 kj40 t142 t145 t148 t149 t162 t163 bt164.1 bt164.2 true) else (if (bt164.2 != bt168.2) = true then (laws_FnCoteries.j10 kj40 t142 t145 t148 t149 t162 t163 bt164.1 bt164.2 true) else ((laws_sameLists.f kj40 bt164.1 bt168.1).bind fun t172 => (laws_FnCoteries.j10 kj40 t142 t145 t148 t149 t162 t163 bt164.1 bt164.2 (!t172)))))))))) = some r := H
         have A95 := Aside0.mk A950
         clear A950
         replace H := Option.bind_eq_some_iff.mp H
         obtain ⟨⟨t164, t165⟩, A960, H⟩ := H
         replace H : ((spec_GridQuorums.f kj40 t162 t163).bind fun bt168 => (if (t149 != t151) = true then (laws_FnCoteries.j10 kj40 t142 t145 t148 t149 t162 t163 t164 t165 true) else (if (t148 != t150) = true then (laws_FnCoteries.j10 kj40 t142 t145 t148 t149 t162 t163 t164 t165 true) else (if (t159 != t161) = true then (laws_FnCoteries.j10 kj40 t142 t145 t148 t149 t162 t163 t164 t165 true) else (if (t158 != t160) = true then (laws_FnCoteries.j10 kj40 t142 t145 t148 t149 t162 t163 t164 t165 true) else (if (t165 != bt168.2) = true then (laws_FnCoteries.j10 kj40 t142 t145 t148 t149 t162 t163 t164 t165 true) else ((laws_sameLists.f kj40 t164 bt168.1).bind fun t172 => (laws_FnCoteries.j10 kj40 t142 t145 t148 t149 t162 t163 t164 t165 (!t172))))))))) = some r := H
         have A96 := Aside0.mk A960
         clear A960
         replace H := Option.bind_eq_some_iff.mp H
         obtain ⟨⟨t168, t169⟩, A970, H⟩ := H
         replace H : (if (t149 != t151) = true then (laws_FnCoteries.j10 kj40 t142 t145 t148 t149 t162 t163 t164 t165 true) else (if (t148 != t150) = true then (laws_FnCoteries.j10 kj40 t142 t145 t148 t149 t162 t163 t164 t165 true) else (if (t159 != t161) = true then (laws_FnCoteries.j10 kj40 t142 t145 t148 t149 t162 t163 t164 t165 true) else (if (t158 != t160) = true then (laws_FnCoteries.j10 kj40 t142 t145 t148 t149 t162 t163 t164 t165 true) else (if (t165 != t169) = true then (laws_FnCoteries.j10 kj40 t142 t145 t148 t149 t162 t163 t164 t165 true) else ((laws_sameLists.f kj40 t164 t168).bind fun t172 => (laws_FnCoteries.j10 kj40 t142 t145 t148 t149 t162 t163 t164 t165 (!t172)))))))) = some r := H
         have A97 := Aside0.mk A970
         clear A970
         have HC98 := Aside0.mk H
         clear H
         go_upto_region 55 with (first | ((with_reducible refine gate_callee (f := 47) rfl ?_); refine goesL_ (some 220) rfl rfl Try.func47 (by kernel_rfl) rfl #[.slice A1 l1.length c1] rfl (by (try simp only [List.map_toArray, List.map_cons, List.map_nil]); first | done | rfl | (simp only [List.length_drop, List.length_take]; rfl)) ?_; (with_reducible refine (spec_DrawDominates.calls kj40 _ _ l1 t142 t145 _ ?side1 ?side2 A89.out).mono ?_); (case side1 => repeat (first | exact (Kd.C_below HR1.out HB.out) | (with_reducible refine Kd.C_alloc ?_ _) | (with_reducible refine Kd.C_drewN ?_ _) | (with_reducible refine Kd.C_drew ?_))); (case side2 => exact HC1.out); rintro e w99 ⟨v143, v146, rfl, ho0, ho1, hb⟩; refine ⟨_, rfl, ?_⟩; have n0_ := Aside0.mk (Kd.V_lower (Kd.V_mono (ok' := fun k_ => True) ho0 (fun k_ hk_ => trivial)) (below_size (by repeat (first | (with_reducible first | exact HB.out | apply below_alloc | apply pw_below_drewN | apply below_drew1) | exact HB.out)))); have n1_ := Aside0.mk (Kd.V_lower (Kd.V_mono (ok' := fun k_ => True) ho1 (fun k_ hk_ => trivial)) (below_size (by repeat (first | (with_reducible first | exact HB.out | apply below_alloc | apply pw_below_drewN | apply below_drew1) | exact HB.out)))); have n2_ := Aside0.mk (below_step (by repeat (first | (with_reducible first | exact HB.out | apply below_alloc | apply pw_below_drewN | apply below_drew1) | exact HB.out)) hb); clear HB; have HO144 := n0_; have HO147 := n1_; have HB := n2_; clear n0_ n1_ n2_; (try clear hb); (try clear ho0); (try clear ho1); obtain ⟨Ao100, co100, eo100⟩ := Kd.V_slice HO144.out; subst eo100; obtain ⟨Ao101, co101, eo101⟩ := Kd.V_slice HO147.out; subst eo101) | ((with_reducible refine gate_callee (f := 29) rfl ?_); refine goesL_ (some 226) rfl rfl Try.func29 (by kernel_rfl) rfl #[.slice Ao100 t142.length co100, .slice Ao101 t145.length co101] rfl (by (try simp only [List.map_toArray, List.map_cons, List.map_nil]); first | done | rfl | (simp only [List.length_drop, List.length_take]; rfl)) ?_; (with_reducible refine (impl_Dominates.calls kj40 _ _ t142 _ _ t145 t148 t149 _ ?side1 ?side2 ?side3 ?side4 A90.out).mono ?_); (case side1 => repeat (first | exact (Kd.V_reads' HO144.out).2.2 | (with_reducible refine Kd.C_alloc ?_ _) | (with_reducible refine Kd.C_drewN ?_ _) | (with_reducible refine Kd.C_drew ?_))); (case side2 => exact (Kd.V_reads' HO144.out).2.1); (case side3 => repeat (first | exact (Kd.V_reads' HO147.out).2.2 | (with_reducible refine Kd.C_alloc ?_ _) | (with_reducible refine Kd.C_drewN ?_ _) | (with_reducible refine Kd.C_drew ?_))); (case side4 => exact (Kd.V_reads' HO147.out).2.1); rintro e w102 ⟨rfl, hb⟩; refine ⟨_, rfl, ?_⟩; have n0_ := Aside0.mk (Kd.V_below (by (with_reducible repeat (first | apply Kd.V_alloc | apply Kd.V_drewN | apply Kd.V_drew)); exact HO144.out) hb); have n1_ := Aside0.mk (Kd.V_below (by (with_reducible repeat (first | apply Kd.V_alloc | apply Kd.V_drewN | apply Kd.V_drew)); exact HO147.out) hb); have n2_ := Aside0.mk (below_step (by repeat (first | (with_reducible first | exact HB.out | apply below_alloc | apply pw_below_drewN | apply below_drew1) | exact HB.out)) hb); clear HO144; clear HO147; clear HB; have HO144 := n0_; have HO147 := n1_; have HB := n2_; clear n0_ n1_ n2_; (try clear hb)) | ((with_reducible refine gate_callee (f := 27) rfl ?_); refine goesL_ (some 232) rfl rfl Try.func27 (by kernel_rfl) rfl #[.slice Ao100 t142.length co100, .slice Ao101 t145.length co101] rfl (by (try simp only [List.map_toArray, List.map_cons, List.map_nil]); first | done | rfl | (simp only [List.length_drop, List.length_take]; rfl)) ?_; (with_reducible refine (spec_Dominates.calls kj40 _ _ t142 _ _ t145 t150 t151 _ ?side1 ?side2 ?side3 ?side4 A91.out).mono ?_); (case side1 => repeat (first | exact (Kd.V_reads' HO144.out).2.2 | (with_reducible refine Kd.C_alloc ?_ _) | (with_reducible refine Kd.C_drewN ?_ _) | (with_reducible refine Kd.C_drew ?_))); (case side2 => exact (Kd.V_reads' HO144.out).2.1); (case side3 => repeat (first | exact (Kd.V_reads' HO147.out).2.2 | (with_reducible refine Kd.C_alloc ?_ _) | (with_reducible refine Kd.C_drewN ?_ _) | (with_reducible refine Kd.C_drew ?_))); (case side4 => exact (Kd.V_reads' HO147.out).2.1); rintro e w' ⟨rfl, ⟨nd, rfl⟩⟩; refine ⟨_, rfl, ?_⟩) | ((with_reducible refine gate_callee (f := 48) rfl ?_); refine goesL_ (some 237) rfl rfl Try.func48 (by kernel_rfl) rfl #[.slice A1 l1.length c1] rfl (by (try simp only [List.map_toArray, List.map_cons, List.map_nil]); first | done | rfl | (simp only [List.length_drop, List.length_take]; rfl)) ?_; (with_reducible refine (spec_DrawSurvives.calls kj40 _ _ l1 t152 t153 _ ?side1 ?side2 A92.out).mono ?_); (case side1 => repeat (first | exact (Kd.C_below HR1.out (by repeat (first | (with_reducible first | exact HB.out | apply below_alloc | apply pw_below_drewN | apply below_drew1) | exact HB.out))) | (with_reducible refine Kd.C_alloc ?_ _) | (with_reducible refine Kd.C_drewN ?_ _) | (with_reducible refine Kd.C_drew ?_))); (case side2 => exact HC1.out); rintro e w103 ⟨v154, v156, rfl, ho0, ho1, hb⟩; refine ⟨_, rfl, ?_⟩; have n0_ := Aside0.mk (Kd.V_mono (Kd.V_told (Kd.V_told (Kd.V_old (by (with_reducible repeat (first | apply Kd.V_alloc | apply Kd.V_drewN | apply Kd.V_drew)); exact HO144.out) hb) (Kd.S_base ho0)) (Kd.R_base ho1)) (fun _ h_ => h_.1)); have n1_ := Aside0.mk (Kd.V_mono (Kd.V_told (Kd.V_told (Kd.V_old (by (with_reducible repeat (first | apply Kd.V_alloc | apply Kd.V_drewN | apply Kd.V_drew)); exact HO147.out) hb) (Kd.S_base ho0)) (Kd.R_base ho1)) (fun _ h_ => h_.1)); have n2_ := Aside0.mk (Kd.S_lower ho0 (below_size (by repeat (first | (with_reducible first | exact HB.out | apply below_alloc | apply pw_below_drewN | apply below_drew1) | exact HB.out)))); have n3_ := Aside0.mk (Kd.R_lower ho1 (below_size (by repeat (first | (with_reducible first | exact HB.out | apply below_alloc | apply pw_below_drewN | apply below_drew1) | exact HB.out)))); have n4_ := Aside0.mk (below_step (by repeat (first | (with_reducible first | exact HB.out | apply below_alloc | apply pw_below_drewN | apply below_drew1) | exact HB.out)) hb); clear HO144; clear HO147; clear HB; have HO144 := n0_; have HO147 := n1_; have HO155 := n2_; have HO157 := n3_; have HB := n4_; clear n0_ n1_ n2_ n3_ n4_; (try clear hb); (try clear ho0); (try clear ho1); obtain ⟨Ao104, co104, eo104⟩ := Kd.S_slice HO155.out; subst eo104; obtain ⟨Ao105, co105, eo105⟩ := Kd.R_slice HO157.out; subst eo105) | ((with_reducible refine gate_callee (f := 46) rfl ?_); refine goesL_ (some 243) rfl rfl Try.func46 (by kernel_rfl) rfl #[.slice Ao104 t152.length co104, .slice Ao105 t153.length co105] rfl (by (try simp only [List.map_toArray, List.map_cons, List.map_nil]); first | done | rfl | (simp only [List.length_drop, List.length_take]; rfl)) ?_; (with_reducible refine (impl_Survives.calls kj40 _ _ t152 _ _ t153 t158 t159 _ ?side1 ?side2 ?side3 ?side4 A93.out).mono ?_); (case side1 => repeat (first | exact (Kd.S_reads' HO155.out).2.2 | (with_reducible refine Kd.C_alloc ?_ _) | (with_reducible refine Kd.C_drewN ?_ _) | (with_reducible refine Kd.C_drew ?_))); (case side2 => exact (Kd.S_reads' HO155.out).2.1); (case side3 => repeat (first | exact (Kd.R_reads' HO157.out).2.2 | (with_reducible refine Kd.C_alloc ?_ _) | (with_reducible refine Kd.C_drewN ?_ _) | (with_reducible refine Kd.C_drew ?_))); (case side4 => exact (Kd.R_reads' HO157.out).2.1); rintro e w106 ⟨rfl, hb⟩; refine ⟨_, rfl, ?_⟩; have n0_ := Aside0.mk (Kd.V_below (by (with_reducible repeat (first | apply Kd.V_alloc | apply Kd.V_drewN | apply Kd.V_drew)); exact HO144.out) hb); have n1_ := Aside0.mk (Kd.V_below (by (with_reducible repeat (first | apply Kd.V_alloc | apply Kd.V_drewN | apply Kd.V_drew)); exact HO147.out) hb); have n2_ := Aside0.mk (Kd.S_below (by (with_reducible repeat (first | apply Kd.S_alloc | apply Kd.S_drewN | apply Kd.S_drew)); exact HO155.out) hb); have n3_ := Aside0.mk (Kd.R_below (by (with_reducible repeat (first | apply Kd.R_alloc | apply Kd.R_drewN | apply Kd.R_drew)); exact HO157.out) hb); have n4_ := Aside0.mk (below_step (by repeat (first | (with_reducible first | exact HB.out | apply below_alloc | apply pw_below_drewN | apply below_drew1) | exact HB.out)) hb); clear HO144; clear HO147; clear HO155; clear HO157; clear HB; have HO144 := n0_; have HO147 := n1_; have HO155 := n2_; have HO157 := n3_; have HB := n4_; clear n0_ n1_ n2_ n3_ n4_; (try clear hb)) | ((with_reducible refine gate_callee (f := 49) rfl ?_); refine goesL_ (some 249) rfl rfl Try.func49 (by kernel_rfl) rfl #[.slice Ao104 t152.length co104, .slice Ao105 t153.length co105] rfl (by (try simp only [List.map_toArray, List.map_cons, List.map_nil]); first | done | rfl | (simp only [List.length_drop, List.length_take]; rfl)) ?_; (with_reducible refine (spec_Survives.calls kj40 _ _ t152 _ _ t153 t160 t161 _ ?side1 ?side2 ?side3 ?side4 A94.out).mono ?_); (case side1 => repeat (first | exact (Kd.S_reads' HO155.out).2.2 | (with_reducible refine Kd.C_alloc ?_ _) | (with_reducible refine Kd.C_drewN ?_ _) | (with_reducible refine Kd.C_drew ?_))); (case side2 => exact (Kd.S_reads' HO155.out).2.1); (case side3 => repeat (first | exact (Kd.R_reads' HO157.out).2.2 | (with_reducible refine Kd.C_alloc ?_ _) | (with_reducible refine Kd.C_drewN ?_ _) | (with_reducible refine Kd.C_drew ?_))); (case side4 => exact (Kd.R_reads' HO157.out).2.1); rintro e w' ⟨rfl, ⟨nd, rfl⟩⟩; refine ⟨_, rfl, ?_⟩) | ((with_reducible refine gate_callee (f := 50) rfl ?_); refine goesL_ (some 254) rfl rfl Try.func50 (by kernel_rfl) rfl #[.slice A1 l1.length c1] rfl (by (try simp only [List.map_toArray, List.map_cons, List.map_nil]); first | done | rfl | (simp only [List.length_drop, List.length_take]; rfl)) ?_; (with_reducible refine (spec_DrawGridQuorums.calls _ _ l1 t162 t163 _ ?side1 ?side2 A95.out).mono ?_); (case side1 => repeat (first | exact (Kd.C_below HR1.out (by repeat (first | (with_reducible first | exact HB.out | apply below_alloc | apply pw_below_drewN | apply below_drew1) | exact HB.out))) | (with_reducible refine Kd.C_alloc ?_ _) | (with_reducible refine Kd.C_drewN ?_ _) | (with_reducible refine Kd.C_drew ?_))); (case side2 => exact HC1.out); rintro e w107 ⟨rfl, hb⟩; refine ⟨_, rfl, ?_⟩; have n0_ := Aside0.mk (Kd.V_below (by (with_reducible repeat (first | apply Kd.V_alloc | apply Kd.V_drewN | apply Kd.V_drew)); exact HO144.out) hb); have n1_ := Aside0.mk (Kd.V_below (by (with_reducible repeat (first | apply Kd.V_alloc | apply Kd.V_drewN | apply Kd.V_drew)); exact HO147.out) hb); have n2_ := Aside0.mk (Kd.S_below (by (with_reducible repeat (first | apply Kd.S_alloc | apply Kd.S_drewN | apply Kd.S_drew)); exact HO155.out) hb); have n3_ := Aside0.mk (Kd.R_below (by (with_reducible repeat (first | apply Kd.R_alloc | apply Kd.R_drewN | apply Kd.R_drew)); exact HO157.out) hb); have n4_ := Aside0.mk (below_step (by repeat (first | (with_reducible first | exact HB.out | apply below_alloc | apply pw_below_drewN | apply below_drew1) | exact HB.out)) hb); clear HO144; clear HO147; clear HO155; clear HO157; clear HB; have HO144 := n0_; have HO147 := n1_; have HO155 := n2_; have HO157 := n3_; have HB := n4_; clear n0_ n1_ n2_ n3_ n4_; (try clear hb)) | ((with_reducible refine gate_callee (f := 51) rfl ?_); refine goesL_ (some 260) rfl rfl Try.func51 (by kernel_rfl) rfl #[.int .i64 t162, .int .i64 t163] rfl (by (try simp only [List.map_toArray, List.map_cons, List.map_nil]); first | done | rfl | (simp only [List.length_drop, List.length_take]; rfl)) ?_; (with_reducible refine (impl_GridQuorums.calls kj40 t162 t163 t164 t165 _ A96.out).mono ?_); rintro e w108 ⟨v166, rfl, ho0, hb⟩; refine ⟨_, rfl, ?_⟩; have n0_ := Aside0.mk (Kd.V_elder' (by (with_reducible repeat (first | apply Kd.V_alloc | apply Kd.V_drewN | apply Kd.V_drew)); exact HO144.out) (Kd.S_base ho0) hb); have n1_ := Aside0.mk (Kd.V_elder' (by (with_reducible repeat (first | apply Kd.V_alloc | apply Kd.V_drewN | apply Kd.V_drew)); exact HO147.out) (Kd.S_base ho0) hb); have n2_ := Aside0.mk (Kd.S_elder' (by (with_reducible repeat (first | apply Kd.S_alloc | apply Kd.S_drewN | apply Kd.S_drew)); exact HO155.out) (Kd.S_base ho0) hb); have n3_ := Aside0.mk (Kd.R_below (by (with_reducible repeat (first | apply Kd.R_alloc | apply Kd.R_drewN | apply Kd.R_drew)); exact HO157.out) hb); have n4_ := Aside0.mk (Kd.S_lower (Kd.S_new' (Kd.S_new' ho0 (Kd.S_lt (by (with_reducible repeat (first | apply Kd.S_alloc | apply Kd.S_drewN | apply Kd.S_drew)); exact HO155.out))) (Kd.R_lt (by (with_reducible repeat (first | apply Kd.R_alloc | apply Kd.R_drewN | apply Kd.R_drew)); exact HO157.out))) (below_size (by repeat (first | (with_reducible first | exact HB.out | apply below_alloc | apply pw_below_drewN | apply below_drew1) | exact HB.out)))); have n5_ := Aside0.mk (below_step (by repeat (first | (with_reducible first | exact HB.out | apply below_alloc | apply pw_below_drewN | apply below_drew1) | exact HB.out)) hb); clear HO144; clear HO147; clear HO155; clear HO157; clear HB; have HO144 := n0_; have HO147 := n1_; have HO155 := n2_; have HO157 := n3_; have HO167 := n4_; have HB := n5_; clear n0_ n1_ n2_ n3_ n4_ n5_; (try clear hb); (try clear ho0)) | ((with_reducible refine gate_callee (f := 52) rfl ?_); refine goesL_ (some 266) rfl rfl Try.func52 (by kernel_rfl) rfl #[.int .i64 t162, .int .i64 t163] rfl (by (try simp only [List.map_toArray, List.map_cons, List.map_nil]); first | done | rfl | (simp only [List.length_drop, List.length_take]; rfl)) ?_; (with_reducible refine (spec_GridQuorums.calls kj40 t162 t163 t168 t169 _ A97.out).mono ?_); rintro e w109 ⟨v170, rfl, ho0, hb⟩; refine ⟨_, rfl, ?_⟩; have n0_ := Aside0.mk (Kd.V_elder' (by (with_reducible repeat (first | apply Kd.V_alloc | apply Kd.V_drewN | apply Kd.V_drew)); exact HO144.out) (Kd.S_base ho0) hb); have n1_ := Aside0.mk (Kd.V_elder' (by (with_reducible repeat (first | apply Kd.V_alloc | apply Kd.V_drewN | apply Kd.V_drew)); exact HO147.out) (Kd.S_base ho0) hb); have n2_ := Aside0.mk (Kd.S_elder' (by (with_reducible repeat (first | apply Kd.S_alloc | apply Kd.S_drewN | apply Kd.S_drew)); exact HO155.out) (Kd.S_base ho0) hb); have n3_ := Aside0.mk (Kd.R_below (by (with_reducible repeat (first | apply Kd.R_alloc | apply Kd.R_drewN | apply Kd.R_drew)); exact HO157.out) hb); have n4_ := Aside0.mk (Kd.S_elder' (by (with_reducible repeat (first | apply Kd.S_alloc | apply Kd.S_drewN | apply Kd.S_drew)); exact HO167.out) (Kd.S_base ho0) hb); have n5_ := Aside0.mk (Kd.S_lower (Kd.S_new' (Kd.S_new' (Kd.S_new' ho0 (Kd.S_lt (by (with_reducible repeat (first | apply Kd.S_alloc | apply Kd.S_drewN | apply Kd.S_drew)); exact HO155.out))) (Kd.R_lt (by (with_reducible repeat (first | apply Kd.R_alloc | apply Kd.R_drewN | apply Kd.R_drew)); exact HO157.out))) (Kd.S_lt (by (with_reducible repeat (first | apply Kd.S_alloc | apply Kd.S_drewN | apply Kd.S_drew)); exact HO167.out))) (below_size (by repeat (first | (with_reducible first | exact HB.out | apply below_alloc | apply pw_below_drewN | apply below_drew1) | exact HB.out)))); have n6_ := Aside0.mk (below_step (by repeat (first | (with_reducible first | exact HB.out | apply below_alloc | apply pw_below_drewN | apply below_drew1) | exact HB.out)) hb); clear HO144; clear HO147; clear HO155; clear HO157; clear HO167; clear HB; have HO144 := n0_; have HO147 := n1_; have HO155 := n2_; have HO157 := n3_; have HO167 := n4_; have HO171 := n5_; have HB := n6_; clear n0_ n1_ n2_ n3_ n4_ n5_ n6_; (try clear hb); (try clear ho0)))
         (try simp only [Act.put, List.setIfInBounds_toArray, List.set_cons_zero, List.set_cons_succ])
         go_cut [297] (fun v297 wc => ∃ (kq : Nat) (x297_97 : Bool), v297 = .bool x297_97 ∧ Aside0 (laws_FnCoteries.j10 kq t142 t145 t148 t149 t162 t163 t164 t165 x297_97 = some r) ∧ Aside0 (kq ≤ kj40) ∧ Aside0 (Kd.V (Kd.slice 3 (Kd.int .i64)) 31 wc w.heap.size (fun k_ => some k_ ≠ (v166 : Value).ownBlock) (.slice Ao100 t142.length co100) t142) ∧ Aside0 (Kd.V (Kd.slice 3 (Kd.int .i64)) 31 wc w.heap.size (fun k_ => some k_ ≠ (v166 : Value).ownBlock) (.slice Ao101 t145.length co101) t145) ∧ Aside0 (Kd.S (Kd.slice 3 (Kd.int .i64)) 31 wc w.heap.size (fun _ => True) v166 t164) ∧ Aside0 (Below w.heap.size w wc))
         case first =>
          have H := HC98.out
          clear HC98
          by_cases c110 : (t149 != t151) = true
          ·rw [if_pos c110] at H
           have c110b0 : (t149 != t151) = true := c110
           (try (have c110b1 : decide (t149 = t151) = false := by simpa using c110))
           (try (have c110b2 : (t149 == t151) = false := by simpa using c110))
           (try (have c110b3 : ¬ (t149 = t151) := by simpa using c110))
           clear c110
           (first | rw [c110b0] | (simp only [i64_w, i32_w]; rw [c110b0]) | skip)
           as_aux_lemma =>
            have H' := Aside0.mk H
            clear H
            go_wp2
            go_meet
            case rel => exact ⟨_, (true), (by first | rfl | (simp; done) | (simp [*]; done)), H', ⟨by have := HJ10.out; have := HJ40.out; first | omega | exact Nat.le_refl _⟩, ⟨by (with_reducible repeat (first | apply Kd.V_alloc | apply Kd.V_drewN | apply Kd.V_drew)); exact Kd.V_mono HO144.out (fun _ hk => hk.1.2)⟩, ⟨by (with_reducible repeat (first | apply Kd.V_alloc | apply Kd.V_drewN | apply Kd.V_drew)); exact Kd.V_mono HO147.out (fun _ hk => hk.1.2)⟩, ⟨by (with_reducible repeat (first | apply Kd.S_alloc | apply Kd.S_drewN | apply Kd.S_drew)); exact Kd.S_mono HO167.out (fun _ hk => trivial)⟩, ⟨by repeat (first | (with_reducible first | exact HB.out | apply below_alloc | apply pw_below_drewN | apply below_drew1) | exact HB.out)⟩⟩
          ·rw [if_neg c110] at H
           have c110b0 : (t149 != t151) = false := by simpa using c110
           (try (have c110b1 : decide (t149 = t151) = true := by simpa using c110))
           (try (have c110b2 : (t149 == t151) = true := by simpa using c110))
           clear c110
           (first | rw [c110b0] | (simp only [i64_w, i32_w]; rw [c110b0]) | skip)
           by_cases c111 : (t148 != t150) = true
           ·rw [if_pos c111] at H
            have c111b0 : (t148 != t150) = true := c111
            (try (have c111b1 : decide (t148 = t150) = false := by simpa using c111))
            (try (have c111b2 : (t148 == t150) = false := by simpa using c111))
            (try (have c111b3 : ¬ (t148 = t150) := by simpa using c111))
            clear c111
            as_aux_lemma =>
             have H' := Aside0.mk H
             clear H
             go_wp2
             go_meet
             case rel => exact ⟨_, (true), (by first | rfl | (simp; done) | (simp [*]; done)), H', ⟨by have := HJ10.out; have := HJ40.out; first | omega | exact Nat.le_refl _⟩, ⟨by (with_reducible repeat (first | apply Kd.V_alloc | apply Kd.V_drewN | apply Kd.V_drew)); exact Kd.V_mono HO144.out (fun _ hk => hk.1.2)⟩, ⟨by (with_reducible repeat (first | apply Kd.V_alloc | apply Kd.V_drewN | apply Kd.V_drew)); exact Kd.V_mono HO147.out (fun _ hk => hk.1.2)⟩, ⟨by (with_reducible repeat (first | apply Kd.S_alloc | apply Kd.S_drewN | apply Kd.S_drew)); exact Kd.S_mono HO167.out (fun _ hk => trivial)⟩, ⟨by repeat (first | (with_reducible first | exact HB.out | apply below_alloc | apply pw_below_drewN | apply below_drew1) | exact HB.out)⟩⟩
           ·rw [if_neg c111] at H
            have c111b0 : (t148 != t150) = false := by simpa using c111
            (try (have c111b1 : decide (t148 = t150) = true := by simpa using c111))
            (try (have c111b2 : (t148 == t150) = true := by simpa using c111))
            clear c111
            by_cases c112 : (t159 != t161) = true
            ·rw [if_pos c112] at H
             have c112b0 : (t159 != t161) = true := c112
             (try (have c112b1 : decide (t159 = t161) = false := by simpa using c112))
             (try (have c112b2 : (t159 == t161) = false := by simpa using c112))
             (try (have c112b3 : ¬ (t159 = t161) := by simpa using c112))
             clear c112
             as_aux_lemma =>
              have H' := Aside0.mk H
              clear H
              go_wp2
              go_meet
              case rel => exact ⟨_, (true), (by first | rfl | (simp; done) | (simp [*]; done)), H', ⟨by have := HJ10.out; have := HJ40.out; first | omega | exact Nat.le_refl _⟩, ⟨by (with_reducible repeat (first | apply Kd.V_alloc | apply Kd.V_drewN | apply Kd.V_drew)); exact Kd.V_mono HO144.out (fun _ hk => hk.1.2)⟩, ⟨by (with_reducible repeat (first | apply Kd.V_alloc | apply Kd.V_drewN | apply Kd.V_drew)); exact Kd.V_mono HO147.out (fun _ hk => hk.1.2)⟩, ⟨by (with_reducible repeat (first | apply Kd.S_alloc | apply Kd.S_drewN | apply Kd.S_drew)); exact Kd.S_mono HO167.out (fun _ hk => trivial)⟩, ⟨by repeat (first | (with_reducible first | exact HB.out | apply below_alloc | apply pw_below_drewN | apply below_drew1) | exact HB.out)⟩⟩
            ·rw [if_neg c112] at H
             have c112b0 : (t159 != t161) = false := by simpa using c112
             (try (have c112b1 : decide (t159 = t161) = true := by simpa using c112))
             (try (have c112b2 : (t159 == t161) = true := by simpa using c112))
             clear c112
             by_cases c113 : (t158 != t160) = true
             ·rw [if_pos c113] at H
              have c113b0 : (t158 != t160) = true := c113
              (try (have c113b1 : decide (t158 = t160) = false := by simpa using c113))
              (try (have c113b2 : (t158 == t160) = false := by simpa using c113))
              (try (have c113b3 : ¬ (t158 = t160) := by simpa using c113))
              clear c113
              as_aux_lemma =>
               have H' := Aside0.mk H
               clear H
               go_wp2
               go_meet
               case rel => exact ⟨_, (true), (by first | rfl | (simp; done) | (simp [*]; done)), H', ⟨by have := HJ10.out; have := HJ40.out; first | omega | exact Nat.le_refl _⟩, ⟨by (with_reducible repeat (first | apply Kd.V_alloc | apply Kd.V_drewN | apply Kd.V_drew)); exact Kd.V_mono HO144.out (fun _ hk => hk.1.2)⟩, ⟨by (with_reducible repeat (first | apply Kd.V_alloc | apply Kd.V_drewN | apply Kd.V_drew)); exact Kd.V_mono HO147.out (fun _ hk => hk.1.2)⟩, ⟨by (with_reducible repeat (first | apply Kd.S_alloc | apply Kd.S_drewN | apply Kd.S_drew)); exact Kd.S_mono HO167.out (fun _ hk => trivial)⟩, ⟨by repeat (first | (with_reducible first | exact HB.out | apply below_alloc | apply pw_below_drewN | apply below_drew1) | exact HB.out)⟩⟩
             ·rw [if_neg c113] at H
              have c113b0 : (t158 != t160) = false := by simpa using c113
              (try (have c113b1 : decide (t158 = t160) = true := by simpa using c113))
              (try (have c113b2 : (t158 == t160) = true := by simpa using c113))
              clear c113
              by_cases c114 : (t165 != t169) = true
              ·rw [if_pos c114] at H
               have c114b0 : (t165 != t169) = true := c114
               (try (have c114b1 : decide (t165 = t169) = false := by simpa using c114))
               (try (have c114b2 : (t165 == t169) = false := by simpa using c114))
               (try (have c114b3 : ¬ (t165 = t169) := by simpa using c114))
               clear c114
               as_aux_lemma =>
                have H' := Aside0.mk H
                clear H
                go_wp2
                go_meet
                case rel => exact ⟨_, (true), (by first | rfl | (simp; done) | (simp [*]; done)), H', ⟨by have := HJ10.out; have := HJ40.out; first | omega | exact Nat.le_refl _⟩, ⟨by (with_reducible repeat (first | apply Kd.V_alloc | apply Kd.V_drewN | apply Kd.V_drew)); exact Kd.V_mono HO144.out (fun _ hk => hk.1.2)⟩, ⟨by (with_reducible repeat (first | apply Kd.V_alloc | apply Kd.V_drewN | apply Kd.V_drew)); exact Kd.V_mono HO147.out (fun _ hk => hk.1.2)⟩, ⟨by (with_reducible repeat (first | apply Kd.S_alloc | apply Kd.S_drewN | apply Kd.S_drew)); exact Kd.S_mono HO167.out (fun _ hk => trivial)⟩, ⟨by repeat (first | (with_reducible first | exact HB.out | apply below_alloc | apply pw_below_drewN | apply below_drew1) | exact HB.out)⟩⟩
              ·rw [if_neg c114] at H
               have c114b0 : (t165 != t169) = false := by simpa using c114
               (try (have c114b1 : decide (t165 = t169) = true := by simpa using c114))
               (try (have c114b2 : (t165 == t169) = true := by simpa using c114))
               clear c114
               replace H := Option.bind_eq_some_iff.mp H
               obtain ⟨t172, A1150, H⟩ := H
               have A115 := Aside0.mk A1150
               clear A1150
               as_aux_lemma =>
                have H' := Aside0.mk H
                clear H
                obtain ⟨Ao116, co116, eo116⟩ := Kd.S_slice HO167.out
                subst eo116
                obtain ⟨Ao117, co117, eo117⟩ := Kd.S_slice HO171.out
                subst eo117
                go_wp2_with (first | (go_at_call 35; (with_reducible refine (laws_sameLists.calls kj40 _ _ t164 _ _ t168 t172 _ ?side1 ?side2 ?side3 ?side4 A115.out).mono ?_); (case side1 => repeat (first | exact (Kd.S_reads' HO167.out).2.2 | (with_reducible refine Kd.C_alloc ?_ _) | (with_reducible refine Kd.C_drewN ?_ _) | (with_reducible refine Kd.C_drew ?_))); (case side2 => exact (Kd.S_reads' HO167.out).2.1); (case side3 => repeat (first | exact (Kd.S_reads' HO171.out).2.2 | (with_reducible refine Kd.C_alloc ?_ _) | (with_reducible refine Kd.C_drewN ?_ _) | (with_reducible refine Kd.C_drew ?_))); (case side4 => exact (Kd.S_reads' HO171.out).2.1); rintro e w' ⟨rfl, ⟨nd, rfl⟩⟩))
                go_meet
                case rel => exact ⟨_, (!t172), (by first | rfl | (simp; done) | (simp [*]; done)), H', ⟨by have := HJ10.out; have := HJ40.out; first | omega | exact Nat.le_refl _⟩, ⟨by (with_reducible repeat (first | apply Kd.V_alloc | apply Kd.V_drewN | apply Kd.V_drew)); exact Kd.V_mono HO144.out (fun _ hk => hk.1.2)⟩, ⟨by (with_reducible repeat (first | apply Kd.V_alloc | apply Kd.V_drewN | apply Kd.V_drew)); exact Kd.V_mono HO147.out (fun _ hk => hk.1.2)⟩, ⟨by (with_reducible repeat (first | apply Kd.S_alloc | apply Kd.S_drewN | apply Kd.S_drew)); exact Kd.S_mono HO167.out (fun _ hk => trivial)⟩, ⟨by repeat (first | (with_reducible first | exact HB.out | apply below_alloc | apply pw_below_drewN | apply below_drew1) | exact HB.out)⟩⟩
         case rest =>
          as_aux_lemma =>
           clear HC98
           try clear c3
           try clear c3b0
           try clear c40
           obtain ⟨kq, x297_97, rfl, HA, HJ97, HO_34, HO_35, HO_48, HB⟩ := hcut
           cases kq with
           | zero => exact absurd HA.out (by simp [laws_FnCoteries.j10])
           | succ kj97 =>
            have H := HA.out
            clear HA
            simp only [laws_FnCoteries.j10] at H
            by_cases c118 : x297_97 = true
            ·subst c118
             rw [if_pos rfl] at H
             as_aux_lemma =>
              obtain rfl := Option.some.inj H
              go_wp2
              go_ret
              exact ⟨by first | rfl | (simp [errW_none, errW_some] <;> rfl) | (simp [*, errW_none, errW_some] <;> rfl), by repeat (first | (with_reducible first | exact HB.out | apply below_alloc | apply pw_below_drewN | apply below_drew1) | exact HB.out)⟩
            ·replace c118 := Bool.eq_false_iff.mpr c118
             subst c118
             rw [if_neg (show ¬ (false = true) by decide)] at H
             have HC119 := Aside0.mk H
             clear H
             go_upto_if 298 with (fail)
             go_cut [] (fun wc => ∃ (kq : Nat), Aside0 (laws_FnCoteries.j12 kq t142 t145 t148 t149 = some r) ∧ Aside0 (kq ≤ kj97) ∧ Aside0 (Kd.V (Kd.slice 3 (Kd.int .i64)) 31 wc w.heap.size (fun _ => True) (.slice Ao100 t142.length co100) t142) ∧ Aside0 (Kd.V (Kd.slice 3 (Kd.int .i64)) 31 wc w.heap.size (fun _ => True) (.slice Ao101 t145.length co101) t145) ∧ Aside0 (Below w.heap.size w wc))
             case first =>
              have H := HC119.out
              clear HC119
              by_cases c120 : t165 = true
              ·subst c120
               rw [if_pos rfl] at H
               replace H := Option.bind_eq_some_iff.mp H
               obtain ⟨⟨t173, t174⟩, A1210, H⟩ := H
               replace H : (if t174 = true then (if t173 = true then (laws_FnCoteries.j11 kj97 t142 t145 t148 t149 ((t164.length : Int) != (wrap64 (t162 * t163)))) else (laws_FnCoteries.j11 kj97 t142 t145 t148 t149 true)) else (laws_FnCoteries.j11 kj97 t142 t145 t148 t149 true)) = some r := H
               have A121 := Aside0.mk A1210
               clear A1210
               have HC122 := Aside0.mk H
               clear H
               obtain ⟨Ao123, co123, eo123⟩ := Kd.S_slice HO_48.out
               subst eo123
               go_upto_region 59 with (first | ((with_reducible refine gate_callee (f := 37) rfl ?_); refine goesL_ (some 301) rfl rfl Try.func37 (by kernel_rfl) rfl #[.slice Ao123 t164.length co123] rfl (by (try simp only [List.map_toArray, List.map_cons, List.map_nil]); first | done | rfl | (simp only [List.length_drop, List.length_take]; rfl)) ?_; (with_reducible refine (impl_AllMeet.calls kj97 _ _ t164 t173 t174 _ ?side1 ?side2 A121.out).mono ?_); (case side1 => repeat (first | exact (Kd.S_reads' HO_48.out).2.2 | (with_reducible refine Kd.C_alloc ?_ _) | (with_reducible refine Kd.C_drewN ?_ _) | (with_reducible refine Kd.C_drew ?_))); (case side2 => exact (Kd.S_reads' HO_48.out).2.1); rintro e w124 ⟨rfl, hb⟩; refine ⟨_, rfl, ?_⟩; have n0_ := Aside0.mk (Kd.V_below (by (with_reducible repeat (first | apply Kd.V_alloc | apply Kd.V_drewN | apply Kd.V_drew)); exact HO_34.out) hb); have n1_ := Aside0.mk (Kd.V_below (by (with_reducible repeat (first | apply Kd.V_alloc | apply Kd.V_drewN | apply Kd.V_drew)); exact HO_35.out) hb); have n2_ := Aside0.mk (Kd.S_below (by (with_reducible repeat (first | apply Kd.S_alloc | apply Kd.S_drewN | apply Kd.S_drew)); exact HO_48.out) hb); have n3_ := Aside0.mk (below_step (by repeat (first | (with_reducible first | exact HB.out | apply below_alloc | apply pw_below_drewN | apply below_drew1) | exact HB.out)) hb); clear HO_34; clear HO_35; clear HO_48; clear HB; have HO_34 := n0_; have HO_35 := n1_; have HO_48 := n2_; have HB := n3_; clear n0_ n1_ n2_ n3_; (try clear hb)))
               (try simp only [Act.put, List.setIfInBounds_toArray, List.set_cons_zero, List.set_cons_succ])
               go_cut [317] (fun v317 wc => ∃ (kq : Nat) (x317_121 : Bool), v317 = .bool x317_121 ∧ Aside0 (laws_FnCoteries.j11 kq t142 t145 t148 t149 x317_121 = some r) ∧ Aside0 (kq ≤ kj97) ∧ Aside0 (Kd.V (Kd.slice 3 (Kd.int .i64)) 31 wc w.heap.size (fun _ => True) (.slice Ao100 t142.length co100) t142) ∧ Aside0 (Kd.V (Kd.slice 3 (Kd.int .i64)) 31 wc w.heap.size (fun _ => True) (.slice Ao101 t145.length co101) t145) ∧ Aside0 (Below w.heap.size w wc))
               case first =>
                have H := HC122.out
                clear HC122
                by_cases c125 : t174 = true
                ·subst c125
                 rw [if_pos rfl] at H
                 by_cases c126 : t173 = true
                 ·subst c126
                  rw [if_pos rfl] at H
                  as_aux_lemma =>
                   have H' := Aside0.mk H
                   clear H
                   go_wp2
                   go_meet
                   case rel => exact ⟨_, (((t164.length : Int) != (wrap64 (t162 * t163)))), (by first | rfl | (simp; done) | (simp [*]; done)), H', ⟨by have := HJ10.out; have := HJ40.out; have := HJ97.out; first | omega | exact Nat.le_refl _⟩, ⟨by (with_reducible repeat (first | apply Kd.V_alloc | apply Kd.V_drewN | apply Kd.V_drew)); exact Kd.V_mono HO_34.out (fun _ hk => trivial)⟩, ⟨by (with_reducible repeat (first | apply Kd.V_alloc | apply Kd.V_drewN | apply Kd.V_drew)); exact Kd.V_mono HO_35.out (fun _ hk => trivial)⟩, ⟨by repeat (first | (with_reducible first | exact HB.out | apply below_alloc | apply pw_below_drewN | apply below_drew1) | exact HB.out)⟩⟩
                 ·replace c126 := Bool.eq_false_iff.mpr c126
                  subst c126
                  rw [if_neg (show ¬ (false = true) by decide)] at H
                  as_aux_lemma =>
                   have H' := Aside0.mk H
                   clear H
                   go_wp2
                   go_meet
                   case rel => exact ⟨_, (true), (by first | rfl | (simp; done) | (simp [*]; done)), H', ⟨by have := HJ10.out; have := HJ40.out; have := HJ97.out; first | omega | exact Nat.le_refl _⟩, ⟨by (with_reducible repeat (first | apply Kd.V_alloc | apply Kd.V_drewN | apply Kd.V_drew)); exact Kd.V_mono HO_34.out (fun _ hk => trivial)⟩, ⟨by (with_reducible repeat (first | apply Kd.V_alloc | apply Kd.V_drewN | apply Kd.V_drew)); exact Kd.V_mono HO_35.out (fun _ hk => trivial)⟩, ⟨by repeat (first | (with_reducible first | exact HB.out | apply below_alloc | apply pw_below_drewN | apply below_drew1) | exact HB.out)⟩⟩
                ·replace c125 := Bool.eq_false_iff.mpr c125
                 subst c125
                 rw [if_neg (show ¬ (false = true) by decide)] at H
                 as_aux_lemma =>
                  have H' := Aside0.mk H
                  clear H
                  go_wp2
                  go_meet
                  case rel => exact ⟨_, (true), (by first | rfl | (simp; done) | (simp [*]; done)), H', ⟨by have := HJ10.out; have := HJ40.out; have := HJ97.out; first | omega | exact Nat.le_refl _⟩, ⟨by (with_reducible repeat (first | apply Kd.V_alloc | apply Kd.V_drewN | apply Kd.V_drew)); exact Kd.V_mono HO_34.out (fun _ hk => trivial)⟩, ⟨by (with_reducible repeat (first | apply Kd.V_alloc | apply Kd.V_drewN | apply Kd.V_drew)); exact Kd.V_mono HO_35.out (fun _ hk => trivial)⟩, ⟨by repeat (first | (with_reducible first | exact HB.out | apply below_alloc | apply pw_below_drewN | apply below_drew1) | exact HB.out)⟩⟩
               case rest =>
                as_aux_lemma =>
                 clear HC122
                 try clear c3
                 try clear c3b0
                 try clear c40
                 try clear c118
                 try clear c120
                 obtain ⟨kq, x317_121, rfl, HA, HJ121, HO_34, HO_35, HB⟩ := hcut
                 cases kq with
                 | zero => exact absurd HA.out (by simp [laws_FnCoteries.j11])
                 | succ kj121 =>
                  have H := HA.out
                  clear HA
                  simp only [laws_FnCoteries.j11] at H
                  by_cases c127 : x317_121 = true
                  ·subst c127
                   rw [if_pos rfl] at H
                   as_aux_lemma =>
                    obtain rfl := Option.some.inj H
                    go_wp2
                    go_ret
                    exact ⟨by first | rfl | (simp [errW_none, errW_some] <;> rfl) | (simp [*, errW_none, errW_some] <;> rfl), by repeat (first | (with_reducible first | exact HB.out | apply below_alloc | apply pw_below_drewN | apply below_drew1) | exact HB.out)⟩
                  ·replace c127 := Bool.eq_false_iff.mpr c127
                   subst c127
                   rw [if_neg (show ¬ (false = true) by decide)] at H
                   as_aux_lemma =>
                    have H' := Aside0.mk H
                    clear H
                    go_wp2
                    go_meet
                    case rel => exact ⟨_, H', ⟨by have := HJ10.out; have := HJ40.out; have := HJ97.out; have := HJ121.out; first | omega | exact Nat.le_refl _⟩, ⟨by (with_reducible repeat (first | apply Kd.V_alloc | apply Kd.V_drewN | apply Kd.V_drew)); exact HO_34.out⟩, ⟨by (with_reducible repeat (first | apply Kd.V_alloc | apply Kd.V_drewN | apply Kd.V_drew)); exact HO_35.out⟩, ⟨by repeat (first | (with_reducible first | exact HB.out | apply below_alloc | apply pw_below_drewN | apply below_drew1) | exact HB.out)⟩⟩
              ·replace c120 := Bool.eq_false_iff.mpr c120
               subst c120
               rw [if_neg (show ¬ (false = true) by decide)] at H
               as_aux_lemma =>
                have H' := Aside0.mk H
                clear H
                go_wp2
                go_meet
                case rel => exact ⟨_, H', ⟨by have := HJ10.out; have := HJ40.out; have := HJ97.out; first | omega | exact Nat.le_refl _⟩, ⟨by (with_reducible repeat (first | apply Kd.V_alloc | apply Kd.V_drewN | apply Kd.V_drew)); exact Kd.V_mono HO_34.out (fun _ hk => trivial)⟩, ⟨by (with_reducible repeat (first | apply Kd.V_alloc | apply Kd.V_drewN | apply Kd.V_drew)); exact Kd.V_mono HO_35.out (fun _ hk => trivial)⟩, ⟨by repeat (first | (with_reducible first | exact HB.out | apply below_alloc | apply pw_below_drewN | apply below_drew1) | exact HB.out)⟩⟩
             case rest =>
              as_aux_lemma =>
               clear HC119
               try clear c3
               try clear c3b0
               try clear c40
               try clear c118
               obtain ⟨kq, HA, HJ118, HO_34, HO_35, HB⟩ := hcut
               cases kq with
               | zero => exact absurd HA.out (by simp [laws_FnCoteries.j12])
               | succ kj118 =>
                have H := HA.out
                clear HA
                simp only [laws_FnCoteries.j12] at H
                by_cases c128 : t149 = true
                ·subst c128
                 rw [if_pos rfl] at H
                 replace H := Option.bind_eq_some_iff.mp H
                 obtain ⟨⟨t175, t176⟩, A1290, H⟩ := H
                 replace H : (if t176 = true then (if t148 = true then (some (!t175)) else (some (!false))) else (some false)) = some r := H
                 have A129 := Aside0.mk A1290
                 clear A1290
                 by_cases c130 : t176 = true
                 ·subst c130
                  rw [if_pos rfl] at H
                  by_cases c131 : t148 = true
                  ·subst c131
                   rw [if_pos rfl] at H
                   as_aux_lemma =>
                    obtain rfl := Option.some.inj H
                    go_wp2_with (first | ((with_reducible refine gate_callee (f := 29) rfl ?_); refine goesL_ (some 322) rfl rfl Try.func29 (by kernel_rfl) rfl #[.slice Ao101 t145.length co101, .slice Ao100 t142.length co100] rfl (by (try simp only [List.map_toArray, List.map_cons, List.map_nil]); first | done | rfl | (simp only [List.length_drop, List.length_take]; rfl)) ?_; (with_reducible refine (impl_Dominates.calls kj118 _ _ t145 _ _ t142 t175 true _ ?side1 ?side2 ?side3 ?side4 A129.out).mono ?_); (case side1 => repeat (first | exact (Kd.V_reads' HO_35.out).2.2 | (with_reducible refine Kd.C_alloc ?_ _) | (with_reducible refine Kd.C_drewN ?_ _) | (with_reducible refine Kd.C_drew ?_))); (case side2 => exact (Kd.V_reads' HO_35.out).2.1); (case side3 => repeat (first | exact (Kd.V_reads' HO_34.out).2.2 | (with_reducible refine Kd.C_alloc ?_ _) | (with_reducible refine Kd.C_drewN ?_ _) | (with_reducible refine Kd.C_drew ?_))); (case side4 => exact (Kd.V_reads' HO_34.out).2.1); rintro e w132 ⟨rfl, hb⟩; refine ⟨_, rfl, ?_⟩; have n0_ := Aside0.mk (Kd.V_below (by (with_reducible repeat (first | apply Kd.V_alloc | apply Kd.V_drewN | apply Kd.V_drew)); exact HO_34.out) hb); have n1_ := Aside0.mk (Kd.V_below (by (with_reducible repeat (first | apply Kd.V_alloc | apply Kd.V_drewN | apply Kd.V_drew)); exact HO_35.out) hb); have n2_ := Aside0.mk (below_step (by repeat (first | (with_reducible first | exact HB.out | apply below_alloc | apply pw_below_drewN | apply below_drew1) | exact HB.out)) hb); clear HO_34; clear HO_35; clear HB; have HO_34 := n0_; have HO_35 := n1_; have HB := n2_; clear n0_ n1_ n2_; (try clear hb)))
                    go_ret
                    exact ⟨by first | rfl | (simp [errW_none, errW_some] <;> rfl) | (simp [*, errW_none, errW_some] <;> rfl), by repeat (first | (with_reducible first | exact HB.out | apply below_alloc | apply pw_below_drewN | apply below_drew1) | exact HB.out)⟩
                  ·replace c131 := Bool.eq_false_iff.mpr c131
                   subst c131
                   rw [if_neg (show ¬ (false = true) by decide)] at H
                   as_aux_lemma =>
                    obtain rfl := Option.some.inj H
                    go_wp2_with (first | ((with_reducible refine gate_callee (f := 29) rfl ?_); refine goesL_ (some 322) rfl rfl Try.func29 (by kernel_rfl) rfl #[.slice Ao101 t145.length co101, .slice Ao100 t142.length co100] rfl (by (try simp only [List.map_toArray, List.map_cons, List.map_nil]); first | done | rfl | (simp only [List.length_drop, List.length_take]; rfl)) ?_; (with_reducible refine (impl_Dominates.calls kj118 _ _ t145 _ _ t142 t175 true _ ?side1 ?side2 ?side3 ?side4 A129.out).mono ?_); (case side1 => repeat (first | exact (Kd.V_reads' HO_35.out).2.2 | (with_reducible refine Kd.C_alloc ?_ _) | (with_reducible refine Kd.C_drewN ?_ _) | (with_reducible refine Kd.C_drew ?_))); (case side2 => exact (Kd.V_reads' HO_35.out).2.1); (case side3 => repeat (first | exact (Kd.V_reads' HO_34.out).2.2 | (with_reducible refine Kd.C_alloc ?_ _) | (with_reducible refine Kd.C_drewN ?_ _) | (with_reducible refine Kd.C_drew ?_))); (case side4 => exact (Kd.V_reads' HO_34.out).2.1); rintro e w133 ⟨rfl, hb⟩; refine ⟨_, rfl, ?_⟩; have n0_ := Aside0.mk (Kd.V_below (by (with_reducible repeat (first | apply Kd.V_alloc | apply Kd.V_drewN | apply Kd.V_drew)); exact HO_34.out) hb); have n1_ := Aside0.mk (Kd.V_below (by (with_reducible repeat (first | apply Kd.V_alloc | apply Kd.V_drewN | apply Kd.V_drew)); exact HO_35.out) hb); have n2_ := Aside0.mk (below_step (by repeat (first | (with_reducible first | exact HB.out | apply below_alloc | apply pw_below_drewN | apply below_drew1) | exact HB.out)) hb); clear HO_34; clear HO_35; clear HB; have HO_34 := n0_; have HO_35 := n1_; have HB := n2_; clear n0_ n1_ n2_; (try clear hb)))
                    go_ret
                    exact ⟨by first | rfl | (simp [errW_none, errW_some] <;> rfl) | (simp [*, errW_none, errW_some] <;> rfl), by repeat (first | (with_reducible first | exact HB.out | apply below_alloc | apply pw_below_drewN | apply below_drew1) | exact HB.out)⟩
                 ·replace c130 := Bool.eq_false_iff.mpr c130
                  subst c130
                  rw [if_neg (show ¬ (false = true) by decide)] at H
                  as_aux_lemma =>
                   obtain rfl := Option.some.inj H
                   go_wp2_with (first | ((with_reducible refine gate_callee (f := 29) rfl ?_); refine goesL_ (some 322) rfl rfl Try.func29 (by kernel_rfl) rfl #[.slice Ao101 t145.length co101, .slice Ao100 t142.length co100] rfl (by (try simp only [List.map_toArray, List.map_cons, List.map_nil]); first | done | rfl | (simp only [List.length_drop, List.length_take]; rfl)) ?_; (with_reducible refine (impl_Dominates.calls kj118 _ _ t145 _ _ t142 t175 false _ ?side1 ?side2 ?side3 ?side4 A129.out).mono ?_); (case side1 => repeat (first | exact (Kd.V_reads' HO_35.out).2.2 | (with_reducible refine Kd.C_alloc ?_ _) | (with_reducible refine Kd.C_drewN ?_ _) | (with_reducible refine Kd.C_drew ?_))); (case side2 => exact (Kd.V_reads' HO_35.out).2.1); (case side3 => repeat (first | exact (Kd.V_reads' HO_34.out).2.2 | (with_reducible refine Kd.C_alloc ?_ _) | (with_reducible refine Kd.C_drewN ?_ _) | (with_reducible refine Kd.C_drew ?_))); (case side4 => exact (Kd.V_reads' HO_34.out).2.1); rintro e w134 ⟨rfl, hb⟩; refine ⟨_, rfl, ?_⟩; have n0_ := Aside0.mk (Kd.V_below (by (with_reducible repeat (first | apply Kd.V_alloc | apply Kd.V_drewN | apply Kd.V_drew)); exact HO_34.out) hb); have n1_ := Aside0.mk (Kd.V_below (by (with_reducible repeat (first | apply Kd.V_alloc | apply Kd.V_drewN | apply Kd.V_drew)); exact HO_35.out) hb); have n2_ := Aside0.mk (below_step (by repeat (first | (with_reducible first | exact HB.out | apply below_alloc | apply pw_below_drewN | apply below_drew1) | exact HB.out)) hb); clear HO_34; clear HO_35; clear HB; have HO_34 := n0_; have HO_35 := n1_; have HB := n2_; clear n0_ n1_ n2_; (try clear hb)))
                   go_ret
                   exact ⟨by first | rfl | (simp [errW_none, errW_some] <;> rfl) | (simp [*, errW_none, errW_some] <;> rfl), by repeat (first | (with_reducible first | exact HB.out | apply below_alloc | apply pw_below_drewN | apply below_drew1) | exact HB.out)⟩
                ·replace c128 := Bool.eq_false_iff.mpr c128
                 subst c128
                 rw [if_neg (show ¬ (false = true) by decide)] at H
                 as_aux_lemma =>
                  obtain rfl := Option.some.inj H
                  go_wp2
                  go_ret
                  exact ⟨by first | rfl | (simp [errW_none, errW_some] <;> rfl) | (simp [*, errW_none, errW_some] <;> rfl), by repeat (first | (with_reducible first | exact HB.out | apply below_alloc | apply pw_below_drewN | apply below_drew1) | exact HB.out)⟩
def laws_FnCoteries.Pure : Prop := ∀ (l0 : List Int) (l1 : List Int), l0.length ≤ maxLen → l0.length * 1 ≤ 140737488351232 → (∀ x ∈ l0, (Lit.int .u8 x).wf = true) → l1.length ≤ maxLen → l1.length * 1 ≤ 140737488351232 → (∀ x ∈ l1, (Lit.int .u8 x).wf = true) → ∃ k, laws_FnCoteries.f k l0 l1 = some true
theorem laws_FnCoteries.walk (P : laws_FnCoteries.Pure) (a0 : Option Addr) (len0 cap0 : Nat) (z0 : List Int) (a1 : Option Addr) (len1 cap1 : Nat) (z1 : List Int) (w : World) (w0 : (a0 = none ∧ len0 = 0 ∧ cap0 = 0 ∧ z0 = []) ∨ ∃ x, a0 = some x ∧ len0 ≤ cap0 ∧ cap0 ≤ maxLen ∧ z0.length = cap0 ∧ (∀ i, i < z0.length → w.cell? (x.add i) = some (.int .u8 (z0.getD i 0))) ∧ ∀ n ∈ z0, (Lit.int .u8 n).wf = true) (y0 : len0 * 1 ≤ 140737488351232) (w1 : (a1 = none ∧ len1 = 0 ∧ cap1 = 0 ∧ z1 = []) ∨ ∃ x, a1 = some x ∧ len1 ≤ cap1 ∧ cap1 ≤ maxLen ∧ z1.length = cap1 ∧ (∀ i, i < z1.length → w.cell? (x.add i) = some (.int .u8 (z1.getD i 0))) ∧ ∀ n ∈ z1, (Lit.int .u8 n).wf = true) (y1 : len1 * 1 ≤ 140737488351232) :
  Calls Try.prog 9 #[.slice a0 len0 cap0, .slice a1 len1 cap1] w fun e w' => e = .returned (.bool true) ∧ Below w.heap.size w w' := by
 obtain ⟨l0, rfl, hr0, hm0, hw0, hc0⟩ := ReadsInt.ofRowC w0
 obtain ⟨l1, rfl, hr1, hm1, hw1, hc1⟩ := ReadsInt.ofRowC w1
 obtain ⟨k, h⟩ := P l0 l1 hm0 y0 hw0 hm1 y1 hw1
 refine (laws_FnCoteries.calls k _ _ l0 _ _ l1 true w (Kd.C_of_reads (d := (0 : Int)) (h1 := fun _ => rfl) hr0) hc0 (Kd.C_of_reads (d := (0 : Int)) (h1 := fun _ => rfl) hr1) hc1 h).mono ?_
 rintro e w' ⟨rfl, hd⟩
 exact ⟨rfl, hd⟩
end Go.Proofs.Ytjngkfepppejeaa.P
end
