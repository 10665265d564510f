/- SpreadD: the program's rooms, and that its walk is the specification's from there on. -/
import Derived.Test.YtgcliajajcinpaaPx5
import Derived.Test.YtgcliajajcinpaaPx6
import Derived.Test.YtgcliajajcinpaaPx7
import Derived.Test.YtgcliajajcinpaaSpreadC
namespace Go.Proofs.Ytgcliajajcinpaa.Spread
open Go.RowKit Go.Proofs.Ytgcliajajcinpaa.P Go.Proofs.YtgcliajajcinpaaW.PrintWords Go.Proofs.YtgcliajajcinpaaW.PrintLast Go.Proofs.YtgcliajajcinpaaW.PrintMore
open Go.Proofs.Ytgcliajajcinpaa.Pl Go.Proofs.Ytgcliajajcinpaa.Base Go.Proofs.Ytgcliajajcinpaa.Places Go.Proofs.Ytgcliajajcinpaa.EvN
set_option linter.unusedSimpArgs false
set_option linter.unusedVariables false

/-! ### from the rooms on the two walks are one -/
theorem same_fill : ∀ k, (∀ x7 x11 x106 x107 x117, impl_spread.l3 k x7 x11 x106 x107 x117 = spec_l13Spread.l2 k x7 x11 x117 x106 x107) ∧
    (∀ x7 x11 x16 x18 x106 x107 x117, impl_spread.l4 k x7 x11 x16 x18 x106 x107 x117 = spec_l13Spread.l3 k x7 x11 x117 x16 x18 x106 x107)
  | 0 => ⟨fun _ _ _ _ _ => by rw [impl_spread.l3, spec_l13Spread.l2], fun _ _ _ _ _ _ _ => by rw [impl_spread.l4, spec_l13Spread.l3]⟩
  | k + 1 => by
    obtain ⟨h3, h4⟩ := same_fill k
    constructor
    · intro x7 x11 x106 x107 x117
      rw [impl_spread.l3, spec_l13Spread.l2]
      simp only [h3, h4]
    · intro x7 x11 x16 x18 x106 x107 x117
      rw [impl_spread.l4, spec_l13Spread.l3]
      simp only [h3, h4]
theorem same_free : ∀ k x7 x11 x14 x117, impl_spread.l2 k x7 x11 x14 x117 = spec_l13Spread.l1 k x7 x11 x117 x14
  | 0, _, _, _, _ => by rw [impl_spread.l2, spec_l13Spread.l1]
  | k + 1, x7, x11, x14, x117 => by
    rw [impl_spread.l2, spec_l13Spread.l1]
    simp only [same_free k, (same_fill k).1]

theorem foldl_count_le : ∀ (l acc : List Int) (m : Int), 0 ≤ m → (∀ x ∈ acc, 0 ≤ x ∧ x ≤ m) → ∀ x ∈ l.foldl count acc, 0 ≤ x ∧ x ≤ m + (l.length : Int)
  | [], acc, m, _, h => by simpa using h
  | a :: t, acc, m, hm, h => by
    rw [List.foldl_cons]
    have := foldl_count_le t (count acc a) (m + 1) (by omega) (count_le hm h)
    intro x hx
    have := this x hx
    simp only [List.length_cons]
    omega
theorem loads_le (homes : Int) (l : List Int) : ∀ x ∈ loads homes l, 0 ≤ x ∧ x ≤ (l.length : Int) := by
  have := foldl_count_le l (List.replicate homes.toNat 0) 0 (by omega) (by intro x hx; rw [List.mem_replicate] at hx; omega)
  intro x hx
  have := this x hx
  omega
/-- The rooms, behind some of the homes. -/
def roomI (base : Int) (r : Nat) (pre : List Int) (h : Int) : Int := if h ∈ pre.take r then base + 1 else if h ∈ pre then base else 0
section
variable {n : Nat} {g : Int} {l out L : List Int}
theorem impl_l1 (hn : 1 ≤ n ∧ n ≤ 6) (hl : l.length ≤ 16) {o : List Int} (ho : 0 < o.length) (hnd : o.Nodup) (hoh : ∀ h ∈ o, 0 ≤ h ∧ h < (n : Int)) (v : List Int)
    (hv : Cm (fun k => impl_spread.l2 k out (tab n (roomI ((l.length : Int) / (o.length : Int)) ((l.length : Int) % (o.length : Int)).toNat o)) (wrap64 ((out.length : Int) - 1)) L) v) :
    ∀ (rest pre : List Int), pre ++ rest = o → Cm (fun k => impl_spread.l1 k l out o (tab n (roomI ((l.length : Int) / (o.length : Int)) ((l.length : Int) % (o.length : Int)).toNat pre)) (o.length : Int) (pre.length : Int) L) v := by
  have hb0 : 0 ≤ (l.length : Int) / (o.length : Int) ∧ (l.length : Int) / (o.length : Int) ≤ 16 := by
    refine ⟨Int.ediv_nonneg (by omega) (by omega), ?_⟩
    have := Int.ediv_le_self (o.length : Int) (show (0 : Int) ≤ (l.length : Int) by omega)
    omega
  have hr0 := Int.emod_nonneg (l.length : Int) (show (o.length : Int) ≠ 0 by omega)
  have ho2 : o.length < 100000 := by
    have h1 : o.Nodup → o.length ≤ n := by
      intro _
      have : o ⊆ hs (-1) n := fun h hh => (mem_hs (-1) n h).2 ⟨(hoh h hh).1, (hoh h hh).2, by have := (hoh h hh).1; omega⟩
      have h2 := hnd.length_le_of_subset this
      have h3 := hs_length (-1) n
      rw [if_neg (by omega)] at h3
      omega
    have := h1 hnd
    omega
  intro rest
  induction rest with
  | nil =>
    intro pre e
    obtain rfl : pre = o := by simpa using e
    refine cm_step (fun k => ?_) hv
    rw [impl_spread.l1, if_neg (by omega)]
  | cons h t ih =>
    intro pre e
    have hlt := len_mid e
    have hho := hoh h (by rw [← e]; simp)
    obtain ⟨c, hc⟩ : ∃ c : Nat, (c : Int) = h := ⟨h.toNat, by omega⟩
    have hcn : c < n := by omega
    have hnp : h ∉ pre := by
      intro hp
      rw [← e, List.nodup_append] at hnd
      exact hnd.2.2 h hp h (by simp) rfl
    have h1 := ih (pre ++ [h]) (app_mid e)
    rw [len_one] at h1
    refine cm_step (fun k => ?_) h1
    rw [impl_spread.l1, if_pos (by omega), if_pos (by omega), if_pos (by omega), if_neg (by omega), rd_at e, if_pos (by omega), if_pos (by rw [tab_length]; omega), wrap_in (x := (l.length : Int) / (o.length : Int)) (by omega) (by omega), wrap_len hlt (by omega)]
    simp only [Option.bind_some]
    generalize hb : (l.length : Int) / (o.length : Int) = base at *
    generalize hrr : (l.length : Int) % (o.length : Int) = r at *
    have es : (tab n (roomI base r.toNat pre)).set h.toNat base = tab n (fun j => if j = h then base else roomI base r.toNat pre j) := by
      rw [← hc]
      refine tab_set n _ _ c base hcn ?_ ?_
      · simp
      · intro j hj hne
        show (if (j : Int) = (c : Int) then base else roomI base r.toNat pre (j : Int)) = roomI base r.toNat pre (j : Int)
        rw [if_neg (by omega)]
    have er : rd (tab n (fun j => if j = h then base else roomI base r.toNat pre j)) h = base := by
      rw [← hc, rd_tab n _ c hcn]
      simp
    have hin : ∀ j : Int, j ≠ h → roomI base r.toNat (pre ++ [h]) j = roomI base r.toNat pre j := by
      intro j hj
      unfold roomI
      have m1 : j ∈ (pre ++ [h]).take r.toNat ↔ j ∈ pre.take r.toNat := by
        rw [List.take_append, List.mem_append]
        constructor
        · rintro (h1 | h1)
          · exact h1
          · have := List.mem_of_mem_take h1
            simp at this
            exact absurd this hj
        · exact .inl
      have m2 : j ∈ pre ++ [h] ↔ j ∈ pre := by simp [hj]
      simp only [m1, m2]
    have hat : roomI base r.toNat (pre ++ [h]) h = if (pre.length : Int) < r then base + 1 else base := by
      unfold roomI
      have m2 : h ∈ pre ++ [h] := by simp
      rw [if_pos m2]
      by_cases cr : (pre.length : Int) < r
      · rw [if_pos cr, if_pos]
        rw [List.take_of_length_le (by simp; omega)]
        exact m2
      · rw [if_neg cr, if_neg]
        intro hm
        rw [List.take_append_of_le_length (by omega)] at hm
        exact hnp (List.mem_of_mem_take hm)
    rw [es]
    by_cases cr : (pre.length : Int) < r
    · rw [if_pos cr, er, wrap_in (by omega) (by omega)]
      congr 1
      rw [← hc]
      refine tab_set n _ _ c _ hcn ?_ ?_
      · rw [hc, hat, if_pos cr]
      · intro j hj hne
        rw [hc, hin j (by omega)]
        show roomI base r.toNat pre (j : Int) = if (j : Int) = h then base else roomI base r.toNat pre (j : Int)
        rw [if_neg (by omega)]
    · rw [if_neg cr]
      congr 1
      apply ext_rd
      · simp [tab_length]
      · intro j hj
        have hj' : j < n := by simpa [tab_length] using hj
        rw [rd_tab _ _ _ hj', rd_tab _ _ _ hj']
        by_cases ej : (j : Int) = h
        · rw [if_pos ej, ej, hat, if_neg cr]
        · rw [if_neg ej, hin j ej]
theorem impl_l0 (hn : 1 ≤ n ∧ n ≤ 6) (hg : goneOk n g) (hgood : good (n : Int) l = true) (v : List Int)
    (hv : Cm (fun k => spec_l13Spread.l1 k out (rooms n g l.length (loads (n : Int) l)) (loads (n : Int) l) (wrap64 ((out.length : Int) - 1))) v) :
    ∀ d j : Nat, j + d = n → Cm (fun k => impl_spread.l0 k (n : Int) l g out (hs g j) (n : Int) (j : Int)) v := by
  have hl : l.length ≤ 16 := (good_iff.1 hgood).2.2
  have hlen : ∀ j, (hs g j).length ≤ j := by
    intro j
    have := hs_length g j
    split at this <;> omega
  intro d
  induction d with
  | zero =>
    intro j hj
    obtain rfl : j = n := by omega
    have hL : (loads (j : Int) l).length = j := by rw [loads_length]; simp
    have hLb : ∀ i, 0 ≤ rd (loads (j : Int) l) i ∧ rd (loads (j : Int) l) i ≤ 1000 := by
      intro i
      have h1 := rd_le (m := (l.length : Int)) (by omega) (loads_le (j : Int) l) i
      omega
    have hp := sorted_perm (loads (j : Int) l) (hs g j)
    have hm := many_pos hn.1 hg
    have hol : ((sorted (loads (j : Int) l) (hs g j)).length : Int) = many j g := by rw [hp.length_eq]; exact many_hs hg
    have hnd : (sorted (loads (j : Int) l) (hs g j)).Nodup := by
      rw [hp.nodup_iff]
      exact (hs_lt g j).imp (by intro a b h; omega)
    have h1 := impl_l1 (out := out) (L := loads (j : Int) l) hn hl (o := sorted (loads (j : Int) l) (hs g j)) (by omega) hnd (fun h hh => by
      rw [hp.mem_iff, mem_hs] at hh
      exact ⟨hh.1, hh.2.1⟩) v (by
        rw [hol]
        refine cm_same (fun k => same_free k _ _ _ _) ?_
        have : tab j (roomI ((l.length : Int) / many j g) ((l.length : Int) % many j g).toNat (sorted (loads (j : Int) l) (hs g j))) = rooms j g l.length (loads (j : Int) l) := by
          unfold rooms
          apply ext_rd
          · simp [tab_length]
          · intro i hi
            have hi' : i < j := by simpa [tab_length] using hi
            rw [rd_tab _ _ _ hi', rd_tab _ _ _ hi']
            unfold roomI roomAt
            have : (i : Int) ∈ sorted (loads (j : Int) l) (hs g j) ↔ (i : Int) ≠ g := by
              rw [hp.mem_iff, mem_hs]
              constructor
              · rintro ⟨_, _, h⟩; exact h
              · intro h; exact ⟨by omega, by omega, h⟩
            by_cases c : (i : Int) = g
            · rw [c] at this ⊢
              simp [this]
            · simp [this, c]
        rw [this]
        exact hv) _ [] rfl
    have e0 : tab j (roomI ((l.length : Int) / ((sorted (loads (j : Int) l) (hs g j)).length : Int)) ((l.length : Int) % ((sorted (loads (j : Int) l) (hs g j)).length : Int)).toNat []) = List.replicate j 0 := by
      rw [tab_zero]
      congr 1
      funext h
      simp [roomI]
    rw [e0] at h1
    refine cm_step_bind (g := fun k t113 => (slices_SortStableFunc_int_int_of_impl_spread_1.f k (hs g j) t113).bind fun t117 => (if 0 ≤ (j : Int) then (if ((j : Int) : Int).toNat ≤ 35184372088832 then (impl_spread.l1 k l out t117 (List.replicate ((j : Int) : Int).toNat 0) ((hs g j).length : Int) 0 t113) else (none)) else (none))) (fun k => ?_) (cm_of_some (d := l.length) (fun k hk => impl_loads_f (j : Int) l hgood k hk)) ?_
    · rw [impl_spread.l0, if_neg (by omega)]
    · refine cm_bind (sort_f (loads (j : Int) l) hLb (hs g j) (by have := hlen j; omega) (fun p hpp => by
        rw [mem_hs] at hpp
        rw [hL]
        exact ⟨hpp.1, hpp.2.1⟩)) ?_
      refine cm_yes (by omega) (cm_yes (by omega) ?_)
      have e1 : ((hs g j).length : Int) = ((sorted (loads (j : Int) l) (hs g j)).length : Int) := by rw [hp.length_eq]
      rw [e1]
      exact h1
  | succ d ih =>
    intro j hj
    have h1 := ih (j + 1) (by omega)
    rw [hs_succ] at h1
    refine cm_step (fun k => ?_) h1
    have := hlen j
    rw [impl_spread.l0, if_pos (by omega), wrap_len (m := 100) (by omega) (by omega)]
    by_cases e : (j : Int) = g
    · rw [if_pos e, if_pos e]
    · rw [if_neg e, if_neg e, if_pos (by omega)]
end
end Go.Proofs.Ytgcliajajcinpaa.Spread
