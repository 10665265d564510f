/- SpreadB: the rooms of homes, as both programs count them. -/
import Derived.Test.YtgcliajajcinpaaPx7
import Derived.Test.YtgcliajajcinpaaSpreadA
namespace Go.Proofs.Ytgcliajajcinpaa.Spread
open Go.RowKit Go.Proofs.Ytgcliajajcinpaa.P Go.Proofs.YtgcliajajcinpaaW.PrintWords Go.Proofs.YtgcliajajcinpaaW.PrintLast Go.Proofs.YtgcliajajcinpaaW.PrintMore
open Go.Proofs.Ytgcliajajcinpaa.Pl Go.Proofs.Ytgcliajajcinpaa.Base Go.Proofs.Ytgcliajajcinpaa.Places Go.Proofs.Ytgcliajajcinpaa.EvN
set_option linter.unusedSimpArgs false
set_option linter.unusedVariables false

/-- A list of numbers told by their places. -/
def tab (n : Nat) (f : Int → Int) : List Int := (List.range n).map (fun h : Nat => f (h : Int))
theorem tab_length (n : Nat) (f : Int → Int) : (tab n f).length = n := by simp [tab]
theorem rd_tab (n : Nat) (f : Int → Int) (j : Nat) (h : j < n) : rd (tab n f) (j : Int) = f j := by
  rw [rd_get _ j (by rw [tab_length]; exact h)]
  simp [tab]
theorem tab_set (n : Nat) (f f' : Int → Int) (i : Nat) (v : Int) (hi : i < n) (h1 : f' i = v) (h2 : ∀ j : Nat, j < n → j ≠ i → f' j = f j) : (tab n f).set i v = tab n f' := by
  apply ext_rd
  · simp [tab_length]
  · intro j hj
    have hj' : j < n := by simpa [tab_length] using hj
    rw [rd_set _ _ _ (by rw [tab_length]; exact hi) _ (by omega), rd_tab n f' j hj']
    by_cases e : (j : Int) = (i : Int)
    · have : j = i := by omega
      subst this
      rw [if_pos e, h1]
    · rw [if_neg e, rd_tab n f j hj', h2 j hj' (by omega)]
theorem tab_zero (n : Nat) : List.replicate n (0 : Int) = tab n (fun _ => 0) := by
  apply ext_rd
  · simp [tab_length]
  · intro j hj
    have hj' : j < n := by simpa using hj
    rw [rd_tab _ _ _ hj', rd_get _ _ hj]
    simp
/-- The homes but one. -/
def hs (g : Int) (n : Nat) : List Int := ((List.range n).map (fun h : Nat => (h : Int))).filter (fun h => decide (h ≠ g))
theorem hs_succ (g : Int) (n : Nat) : hs g (n + 1) = if (n : Int) = g then hs g n else hs g n ++ [(n : Int)] := by
  unfold hs
  rw [List.range_succ, List.map_append, List.filter_append]
  by_cases e : (n : Int) = g <;> simp [e]
theorem mem_hs (g : Int) (n : Nat) (h : Int) : h ∈ hs g n ↔ 0 ≤ h ∧ h < n ∧ h ≠ g := by
  unfold hs
  simp only [List.mem_filter, List.mem_map, List.mem_range, decide_eq_true_eq]
  constructor
  · rintro ⟨⟨a, ha, rfl⟩, h2⟩
    exact ⟨by omega, by omega, h2⟩
  · rintro ⟨h0, h1, h2⟩
    exact ⟨⟨h.toNat, by omega, by omega⟩, h2⟩
theorem hs_lt (g : Int) (n : Nat) : (hs g n).Pairwise (· < ·) := by
  unfold hs
  refine List.Pairwise.filter _ ?_
  rw [List.pairwise_map]
  exact List.pairwise_lt_range.imp (by intro a b h; omega)
theorem hs_length (g : Int) : ∀ n : Nat, ((hs g n).length : Int) = if 0 ≤ g ∧ g < n then (n : Int) - 1 else n
  | 0 => by simp [hs]
  | n + 1 => by
    have ih := hs_length g n
    rw [hs_succ]
    by_cases e : (n : Int) = g
    · rw [if_pos e, ih, if_neg (by omega), if_pos (by omega)]; omega
    · rw [if_neg e, List.length_append]
      by_cases c : 0 ≤ g ∧ g < n
      · rw [if_pos c] at ih
        rw [if_pos (by omega)]
        simp; omega
      · rw [if_neg c] at ih
        rw [if_neg (by omega)]
        simp; omega
/-- The rooms: so many at each home, one more at those that stand first. -/
def roomAt (g base : Int) (o : List Int) (r : Nat) (h : Int) : Int := if h ∈ o.take r then base + 1 else if h = g then 0 else base

/-! ### the specification's rooms -/
section
variable {n : Nat} {g base : Int} {l L : List Int} {many : Int}
theorem rooms_l0 (hn : n ≤ 6) (hm : 0 < many) (hl : l.length ≤ 16) (hb : base = (l.length : Int) / many) (v : List Int)
    (hv : Cm (fun k => spec_l13Rooms.l1 k l g L many (tab n (roomAt g base [] 0)) ((l.length : Int) % many)) v) :
    ∀ d j : Nat, j + d = n → Cm (fun k => spec_l13Rooms.l0 k l g L many (tab n (fun h => if h < (j : Int) then roomAt g base [] 0 h else 0)) (n : Int) (j : Int)) v := by
  have hb0 : 0 ≤ base ∧ base ≤ 16 := by
    rw [hb]
    refine ⟨Int.ediv_nonneg (by omega) (by omega), ?_⟩
    have := Int.ediv_le_self (many) (show (0 : Int) ≤ (l.length : Int) by omega)
    omega
  intro d
  induction d with
  | zero =>
    intro j hj
    obtain rfl : j = n := by omega
    refine cm_step (fun k => ?_) hv
    rw [spec_l13Rooms.l0, if_neg (by omega), if_neg (by omega)]
    congr 1
    apply ext_rd
    · simp [tab_length]
    · intro i hi
      have hi' : i < j := by simpa [tab_length] using hi
      rw [rd_tab _ _ _ hi', rd_tab _ _ _ hi', if_pos (by omega)]
  | succ d ih =>
    intro j hj
    have h1 := ih (j + 1) (by omega)
    refine cm_step (fun k => ?_) h1
    rw [spec_l13Rooms.l0, if_pos (by omega), wrap_len (m := 100) (by omega) (by omega)]
    by_cases e : (j : Int) = g
    · rw [if_pos e]
      congr 1
      apply ext_rd
      · simp [tab_length]
      · intro i hi
        have hi' : i < n := by simpa [tab_length] using hi
        rw [rd_tab _ _ _ hi', rd_tab _ _ _ hi']
        by_cases c : (i : Int) < (j : Int)
        · rw [if_pos c, if_pos (by omega)]
        · rw [if_neg c]
          by_cases c2 : (i : Int) = (j : Int)
          · rw [if_pos (by omega)]; simp [roomAt, c2, e]
          · rw [if_neg (by omega)]
    · rw [if_neg e, if_neg (by omega), if_pos (by omega), if_pos (by rw [tab_length]; omega), ← hb, wrap_in (by omega) (by omega)]
      congr 1
      have : ((j : Nat) : Int).toNat = j := by simp
      rw [this]
      refine tab_set n _ _ j base (by omega) ?_ ?_
      · show (if (j : Int) < ((j + 1 : Nat) : Int) then roomAt g base [] 0 (j : Int) else 0) = base
        rw [if_pos (by omega)]
        simp [roomAt, e]
      · intro i hi hne
        show (if (i : Int) < ((j + 1 : Nat) : Int) then roomAt g base [] 0 (i : Int) else 0) = (if (i : Int) < (j : Int) then roomAt g base [] 0 (i : Int) else 0)
        by_cases c : (i : Int) < (j : Int)
        · rw [if_pos c, if_pos (by omega)]
        · rw [if_neg c, if_neg (by omega)]
/-- The best of the first j homes of which C holds. -/
def BestOf (C : Int → Prop) (L : List Int) (j b : Int) : Prop :=
  (b = -1 ∧ ∀ h, 0 ≤ h → h < j → ¬ C h) ∨ (0 ≤ b ∧ b < j ∧ C b ∧ ∀ h, 0 ≤ h → h < j → C h → h = b ∨ ahead L b h)
theorem best_not {C : Int → Prop} {L : List Int} {j b : Int} (h : BestOf C L j b) (hC : ¬ C j) : BestOf C L (j + 1) b := by
  rcases h with ⟨h1, h2⟩ | ⟨h1, h2, h3, h4⟩
  · refine .inl ⟨h1, fun h h0 hj => ?_⟩
    by_cases e : h = j
    · rw [e]; exact hC
    · exact h2 h h0 (by omega)
  · refine .inr ⟨h1, by omega, h3, fun h h0 hj hc => ?_⟩
    by_cases e : h = j
    · rw [e] at hc; exact absurd hc hC
    · exact h4 h h0 (by omega) hc
theorem best_new {C : Int → Prop} {L : List Int} {j b : Int} (hj0 : 0 ≤ j) (h : BestOf C L j b) (hC : C j) (hb : b < 0 ∨ rd L j > rd L b) : BestOf C L (j + 1) j := by
  refine .inr ⟨hj0, by omega, hC, fun h' h0 hj hc => ?_⟩
  by_cases e : h' = j
  · exact .inl e
  · right
    rcases h with ⟨h1, h2⟩ | ⟨h1, h2, h3, h4⟩
    · exact absurd hc (h2 h' h0 (by omega))
    · have h5 := h4 h' h0 (by omega) hc
      have : rd L j > rd L b := by omega
      rcases h5 with rfl | h5
      · exact .inl this
      · unfold ahead at *
        left; omega
theorem best_old {C : Int → Prop} {L : List Int} {j b : Int} (h : BestOf C L j b) (hb : 0 ≤ b) (hl : ¬ rd L j > rd L b) : BestOf C L (j + 1) b := by
  rcases h with ⟨h1, h2⟩ | ⟨h1, h2, h3, h4⟩
  · omega
  · refine .inr ⟨h1, by omega, h3, fun h h0 hj hc => ?_⟩
    by_cases e : h = j
    · right
      unfold ahead
      rw [e]
      omega
    · exact h4 h h0 (by omega) hc
theorem best_one {C : Int → Prop} {L : List Int} {j b c : Int} (h : BestOf C L j b) (hc : C c) (hc0 : 0 ≤ c ∧ c < j) (hca : ∀ h, C h → h = c ∨ ahead L c h) : b = c := by
  rcases h with ⟨h1, h2⟩ | ⟨h1, h2, h3, h4⟩
  · exact absurd hc (h2 c hc0.1 hc0.2)
  · rcases h4 c hc0.1 hc0.2 hc with e | e
    · exact e.symm
    · rcases hca b h3 with e2 | e2
      · exact e2
      · unfold ahead at *
        omega
theorem rooms_l2 (hn : n ≤ 6) (hm : 0 < many) (hL : L.length = n) (hl : l.length ≤ 16) (hb : base = (l.length : Int) / many) (R : List Int) (hR : R.length = n) (left c : Int) (v : List Int)
    (hc : (0 ≤ c ∧ c < (n : Int)) ∧ c ≠ g ∧ rd R c = base) (hca : ∀ h, (0 ≤ h ∧ h < (n : Int)) ∧ h ≠ g ∧ rd R h = base → h = c ∨ ahead L c h)
    (hv : Cm (fun k => spec_l13Rooms.l1 k l g L many (R.set c.toNat (wrap64 (rd R c + 1))) (wrap64 (left - 1))) v) :
    ∀ (d j : Nat) (b : Int), j + d = n → BestOf (fun h => (0 ≤ h ∧ h < (n : Int)) ∧ h ≠ g ∧ rd R h = base) L (j : Int) b →
    Cm (fun k => spec_l13Rooms.l2 k l g L many R left b (n : Int) (j : Int)) v := by
  have hb0 : 0 ≤ base ∧ base ≤ 16 := by
    rw [hb]
    refine ⟨Int.ediv_nonneg (by omega) (by omega), ?_⟩
    have := Int.ediv_le_self (many) (show (0 : Int) ≤ (l.length : Int) by omega)
    omega
  intro d
  induction d with
  | zero =>
    intro j b hj hB
    obtain rfl : j = n := by omega
    have : b = c := best_one hB hc hc.1 hca
    subst this
    refine cm_step (fun k => ?_) hv
    rw [spec_l13Rooms.l2, if_neg (by omega), if_pos (by omega), if_pos (by omega)]
  | succ d ih =>
    intro j b hj hB
    have hb1 : b = -1 ∨ (0 ≤ b ∧ b < (j : Int)) := by
      rcases hB with h | h
      · exact .inl h.1
      · exact .inr ⟨h.1, h.2.1⟩
    by_cases e : (j : Int) = g
    · refine cm_step (fun k => ?_) (ih (j + 1) b (by omega) (by
        have := best_not hB (by intro h; exact h.2.1 e)
        simpa using this))
      rw [spec_l13Rooms.l2, if_pos (by omega), if_pos e, wrap_len (m := 100) (by omega) (by omega)]
    · by_cases e2 : rd R (j : Int) = base
      · have hC : (0 ≤ (j : Int) ∧ (j : Int) < (n : Int)) ∧ (j : Int) ≠ g ∧ rd R (j : Int) = base := ⟨⟨by omega, by omega⟩, e, e2⟩
        by_cases c1 : b < 0
        · refine cm_step (fun k => ?_) (ih (j + 1) (j : Int) (by omega) (by
            have := best_new (by omega) hB hC (.inl c1)
            simpa using this))
          rw [spec_l13Rooms.l2, if_pos (by omega), if_neg e, if_pos (by omega), if_pos (by omega), if_neg (by omega), ← hb, wrap_in (by omega) (by omega), if_pos e2, if_pos c1, wrap_len (m := 100) (by omega) (by omega)]
        · by_cases c2 : rd L (j : Int) > rd L b
          · refine cm_step (fun k => ?_) (ih (j + 1) (j : Int) (by omega) (by
              have := best_new (by omega) hB hC (.inr c2)
              simpa using this))
            rw [spec_l13Rooms.l2, if_pos (by omega), if_neg e, if_pos (by omega), if_pos (by omega), if_neg (by omega), ← hb, wrap_in (by omega) (by omega), if_pos e2, if_neg c1, if_pos (by omega), if_pos (by omega), if_pos (by omega), if_pos c2, wrap_len (m := 100) (by omega) (by omega)]
          · refine cm_step (fun k => ?_) (ih (j + 1) b (by omega) (by
              have := best_old hB (by omega) c2
              simpa using this))
            rw [spec_l13Rooms.l2, if_pos (by omega), if_neg e, if_pos (by omega), if_pos (by omega), if_neg (by omega), ← hb, wrap_in (by omega) (by omega), if_pos e2, if_neg c1, if_pos (by omega), if_pos (by omega), if_pos (by omega), if_neg c2, wrap_len (m := 100) (by omega) (by omega)]
      · refine cm_step (fun k => ?_) (ih (j + 1) b (by omega) (by
          have := best_not hB (by intro h; exact e2 h.2.2)
          simpa using this))
        rw [spec_l13Rooms.l2, if_pos (by omega), if_neg e, if_pos (by omega), if_pos (by omega), if_neg (by omega), ← hb, wrap_in (by omega) (by omega), if_neg e2, wrap_len (m := 100) (by omega) (by omega)]
end
end Go.Proofs.Ytgcliajajcinpaa.Spread
