/- SpreadE: items leave homes that have too many, and go where there is room. -/
import Derived.Test.YtgcliajajcinpaaPx7
import Derived.Test.YtgcliajajcinpaaSpreadD
namespace Go.Proofs.Ytgcliajajcinpaa.Spread
open Go.RowKit Go.Proofs.Ytgcliajajcinpaa.P Go.Proofs.YtgcliajajcinpaaW.PrintWords Go.Proofs.YtgcliajajcinpaaW.PrintLast Go.Proofs.YtgcliajajcinpaaW.PrintMore
open Go.Proofs.Ytgcliajajcinpaa.Pl Go.Proofs.Ytgcliajajcinpaa.Base Go.Proofs.Ytgcliajajcinpaa.Places Go.Proofs.Ytgcliajajcinpaa.EvN
set_option linter.unusedSimpArgs false
set_option linter.unusedVariables false

/-! ### sums and counts -/
theorem sum_set : ∀ (L : List Int) (i : Nat) (v : Int), i < L.length → (L.set i v).sum = L.sum - rd L (i : Int) + v
  | a :: t, 0, v, _ => by simp [rd]; omega
  | a :: t, i + 1, v, h => by
    have := sum_set t i v (by simpa using h)
    have e : rd (a :: t) ((i + 1 : Nat) : Int) = rd t (i : Int) := by
      unfold rd
      have h1 : (((i + 1 : Nat) : Int)).toNat = i + 1 := by omega
      have h2 : ((i : Nat) : Int).toNat = i := by omega
      rw [h1, h2]; simp
    rw [e]
    simp only [List.set_cons_succ, List.sum_cons]
    omega
/-- How many are at a home at all. -/
def held (l : List Int) : Nat := l.countP (fun h => decide (h ≥ 0))
theorem held_cons (h : Int) (t : List Int) : held (h :: t) = held t + if h ≥ 0 then 1 else 0 := by
  unfold held
  rw [List.countP_cons]
  by_cases c : h ≥ 0 <;> simp [c]
theorem cnt_cons (j h : Int) (t : List Int) : List.count j (h :: t) = List.count j t + if h = j then 1 else 0 := by
  rw [List.count_cons]
  by_cases c : h = j <;> simp [c]
theorem foldl_count (n : Nat) : ∀ (l acc : List Int), acc.length = n → (∀ h ∈ l, -1 ≤ h ∧ h < (n : Int)) →
    (l.foldl count acc).sum = acc.sum + held l ∧ ∀ j : Nat, j < n → rd (l.foldl count acc) (j : Int) = rd acc (j : Int) + (List.count (j : Int) l : Nat)
  | [], acc, _, _ => by simp [held]
  | h :: t, acc, ha, hl => by
    have hh := hl h (by simp)
    rw [List.foldl_cons]
    have ih := foldl_count n t (count acc h) (by rw [count_length, ha]) (fun x hx => hl x (by simp [hx]))
    rw [ih.1, held_cons]
    by_cases c : h ≥ 0
    · have e1 : count acc h = acc.set h.toNat (rd acc h + 1) := by unfold count; rw [if_pos c]
      have e2 : ((h.toNat : Nat) : Int) = h := by omega
      constructor
      · rw [e1, sum_set _ _ _ (by omega), e2, if_pos c]
        omega
      · intro j hj
        rw [ih.2 j hj, e1, rd_set _ _ _ (by omega) _ (by omega), cnt_cons, e2]
        by_cases cj : (j : Int) = h
        · rw [if_pos cj, if_pos cj.symm, cj]; omega
        · rw [if_neg cj, if_neg (fun x => cj x.symm)]; omega
    · have e1 : count acc h = acc := by unfold count; rw [if_neg c]
      constructor
      · rw [e1, if_neg c]; omega
      · intro j hj
        rw [ih.2 j hj, e1, cnt_cons, if_neg (by omega)]
        omega
theorem loads_sum (n : Nat) (l : List Int) (hl : ∀ h ∈ l, -1 ≤ h ∧ h < (n : Int)) : (loads (n : Int) l).sum = held l ∧ ∀ j : Nat, j < n → rd (loads (n : Int) l) (j : Int) = (List.count (j : Int) l : Nat) := by
  have := foldl_count n l (List.replicate ((n : Int)).toNat 0) (by simp) hl
  unfold loads
  constructor
  · rw [this.1]; simp
  · intro j hj
    rw [this.2 j hj]
    have : rd (List.replicate ((n : Int)).toNat 0) (j : Int) = 0 := by
      rw [rd_get _ _ (by simpa using hj)]; simp
    omega
theorem tab_succ (n : Nat) (f : Int → Int) : tab (n + 1) f = tab n f ++ [f (n : Int)] := by
  unfold tab
  rw [List.range_succ, List.map_append]
  rfl
theorem tab_base (g base : Int) : ∀ n : Nat, (tab n (fun h => if h = g then 0 else base)).sum = base * ((hs g n).length : Int)
  | 0 => by simp [tab, hs]
  | n + 1 => by
    rw [tab_succ, List.sum_append, tab_base g base n, hs_succ]
    by_cases c : (n : Int) = g
    · simp [c]
    · simp [c, Int.mul_add]
theorem tab_rooms {n : Nat} {g base : Int} {o : List Int} (hnd : o.Nodup) (ho : ∀ h ∈ o, (0 ≤ h ∧ h < (n : Int)) ∧ h ≠ g) : ∀ r : Nat, r ≤ o.length → (tab n (roomAt g base o r)).sum = base * ((hs g n).length : Int) + r
  | 0, _ => by
    have : tab n (roomAt g base o 0) = tab n (fun h => if h = g then 0 else base) := by
      congr 1
    rw [this, tab_base]; simp
  | r + 1, h => by
    have ih := tab_rooms (base := base) hnd ho r (by omega)
    have hio : r < o.length := by omega
    have hc := ho _ (List.getElem_mem hio)
    obtain ⟨c, hcc⟩ : ∃ c : Nat, (c : Int) = o[r] := ⟨o[r].toNat, by omega⟩
    have hcn : c < n := by omega
    have e : tab n (roomAt g base o (r + 1)) = (tab n (roomAt g base o r)).set c (base + 1) := by
      symm
      refine tab_set n _ _ c _ hcn ?_ ?_
      · unfold roomAt
        rw [if_pos]
        rw [take_succ_mem hio]
        right; exact hcc
      · intro j hj hne
        unfold roomAt
        have : (j : Int) ∈ o.take (r + 1) ↔ (j : Int) ∈ o.take r := by
          rw [take_succ_mem hio]
          constructor
          · rintro (h | h)
            · exact h
            · omega
          · exact .inl
        simp only [this]
    rw [e, sum_set _ _ _ (by rw [tab_length]; exact hcn), ih, rd_tab n _ c hcn]
    have : roomAt g base o r (c : Int) = base := by
      unfold roomAt
      rw [hcc, if_neg (take_next hnd hio), if_neg hc.2]
    rw [this]
    omega
theorem rooms_sum {n : Nat} {g : Int} (hn : 1 ≤ n) (hg : goneOk n g) (len : Nat) (L : List Int) : (rooms n g len L).sum = len := by
  have hm := many_pos hn hg
  have hp := sorted_perm L (hs g n)
  have hr := Int.emod_lt_of_pos (len : Int) hm
  have hr0 := Int.emod_nonneg (len : Int) (show many n g ≠ 0 by omega)
  unfold rooms
  rw [tab_rooms (by
      rw [hp.nodup_iff]
      exact (hs_lt g n).imp (by intro a b h; omega)) (fun h hh => by
      rw [hp.mem_iff, mem_hs] at hh
      exact ⟨⟨hh.1, hh.2.1⟩, hh.2.2⟩) _ (by
      have := many_hs hg
      have := hp.length_eq
      omega), many_hs hg]
  have := Int.mul_ediv_add_emod (len : Int) (many n g)
  rw [Int.mul_comm] at this
  omega
theorem rooms_nonneg {n : Nat} {g : Int} (hn : 1 ≤ n) (hg : goneOk n g) (len : Nat) (L : List Int) (j : Nat) (hj : j < n) : 0 ≤ rd (rooms n g len L) (j : Int) := by
  have hm := many_pos hn hg
  unfold rooms
  rw [rd_tab _ _ _ hj]
  have := Int.ediv_nonneg (show (0 : Int) ≤ (len : Int) by omega) (show 0 ≤ many n g by omega)
  unfold roomAt
  split
  · omega
  · split <;> omega
theorem rooms_gone {n : Nat} {g : Int} (len : Nat) (L : List Int) (hg : 0 ≤ g ∧ g < (n : Int)) : rd (rooms n g len L) g = 0 := by
  obtain ⟨j, rfl⟩ : ∃ j : Nat, (j : Int) = g := ⟨g.toNat, by omega⟩
  unfold rooms
  rw [rd_tab _ _ _ (by omega)]
  unfold roomAt
  rw [if_neg, if_pos rfl]
  intro h
  have := List.mem_of_mem_take h
  rw [(sorted_perm L (hs (j : Int) n)).mem_iff, mem_hs] at this
  exact this.2.2 rfl
theorem rooms_length (n : Nat) (g : Int) (len : Nat) (L : List Int) : (rooms n g len L).length = n := tab_length _ _

/-! ### items leave -/
/-- Items leave homes that have too many, from the last one on: what is left to look at stands turned about. -/
def leave (R : List Int) : List Int → List Int → List Int → List Int × List Int
  | [], suf, L => (suf, L)
  | h :: t, suf, L => if h ≥ 0 ∧ rd L h > rd R h then leave R t (-1 :: suf) (L.set h.toNat (rd L h - 1)) else leave R t (h :: suf) L
theorem leave_length (R : List Int) : ∀ t suf L, (leave R t suf L).1.length = t.length + suf.length ∧ (leave R t suf L).2.length = L.length
  | [], suf, L => by simp [leave]
  | h :: t, suf, L => by
    unfold leave
    split
    · have := leave_length R t (-1 :: suf) (L.set h.toNat (rd L h - 1))
      simp at this ⊢
      omega
    · have := leave_length R t (h :: suf) L
      simp at this ⊢
      omega
theorem spec_leave {n : Nat} (hn : n ≤ 6) (R : List Int) (hR : R.length = n) (v : List Int) : ∀ (t suf L : List Int), t.length < 1000 → (∀ h ∈ t, -1 ≤ h ∧ h < (n : Int)) → L.length = n → (∀ j, -1000 ≤ rd L j - (t.length : Int) ∧ rd L j ≤ 1000) →
    Cm (fun k => spec_l13Spread.l2 k (leave R t suf L).1 R (leave R t suf L).2 ((leave R t suf L).1.length : Int) 0) v →
    Cm (fun k => spec_l13Spread.l1 k (t.reverse ++ suf) R L ((t.length : Int) - 1)) v
  | [], suf, L, _, _, hL, _, hv => by
    refine cm_step (fun k => ?_) hv
    rw [spec_l13Spread.l1, if_neg (by simp)]
    simp [leave]
  | h :: t, suf, L, hlt, hh, hL, hb, hv => by
    have h1 := hh h (by simp)
    have hbh := hb h
    simp only [List.length_cons] at hbh hlt hb
    have e1 : (h :: t).reverse ++ suf = t.reverse ++ h :: suf := by simp
    have e2 : (((h :: t).length : Nat) : Int) - 1 = (t.reverse.length : Int) := by simp
    have e3 : rd (t.reverse ++ h :: suf) (t.reverse.length : Int) = h := rd_mid _ _ _
    have e4 : (t.reverse.length : Int) = (t.length : Int) := by simp
    have e5 : wrap64 ((t.reverse.length : Int) - 1) = (t.length : Int) - 1 := by rw [e4, wrap_in (by omega) (by omega)]
    by_cases c : h ≥ 0 ∧ rd L h > rd R h
    · have h2 := spec_leave hn R hR v t (-1 :: suf) (L.set h.toNat (rd L h - 1)) (by omega) (fun x hx => hh x (by simp [hx])) (by simpa using hL) (fun j => by
        by_cases cj : j < 0
        · have : rd (L.set h.toNat (rd L h - 1)) j = rd (L.set h.toNat (rd L h - 1)) 0 := by
            unfold rd
            have : j.toNat = (0 : Int).toNat := by omega
            rw [this]
          rw [this, rd_set _ _ _ (by omega) _ (by omega)]
          have := hb 0
          split <;> omega
        · rw [rd_set _ _ _ (by omega) _ (by omega)]
          have := hb j
          split <;> omega) (by
        unfold leave at hv
        rw [if_pos c] at hv
        exact hv)
      refine cm_step (fun k => ?_) h2
      rw [e1, e2, spec_l13Spread.l1, if_pos (by omega), if_pos (by omega), if_pos (by simp; omega), e3, if_pos c.1, if_pos c.1, if_pos (by omega), if_pos (by omega), if_pos c.2, e5, wrap_in (by omega) (by omega)]
      congr 1
      have : ((t.reverse.length : Nat) : Int).toNat = t.reverse.length := by simp
      rw [this]
      simp
    · have h2 := spec_leave hn R hR v t (h :: suf) L (by omega) (fun x hx => hh x (by simp [hx])) hL (fun j => by have := hb j; omega) (by
        unfold leave at hv
        rw [if_neg c] at hv
        exact hv)
      refine cm_step (fun k => ?_) h2
      by_cases c0 : h ≥ 0
      · rw [e1, e2, spec_l13Spread.l1, if_pos (by omega), if_pos (by omega), if_pos (by simp; omega), e3, if_pos c0, if_pos c0, if_pos (by omega), if_pos (by omega), if_neg (fun x => c ⟨c0, x⟩), e5]
      · rw [e1, e2, spec_l13Spread.l1, if_pos (by omega), if_pos (by omega), if_pos (by simp; omega), e3, if_neg c0, e5]
end Go.Proofs.Ytgcliajajcinpaa.Spread
